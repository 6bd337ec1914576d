/-
A function's end; every step.
A range over a function, on the side of the one who ranges: the record is laid, the function is called, the pending jump is told.
Every step of the executor is the machine's.
Runs to the end, and runs along one way: what they tell is so.
The executor again, cut so that the kernel goes through it fast: what is chosen between is closed, and a state's parts are handed on as they are. It is the same function.
Trees: all ways through code at once, with callees answered by functions; a tree that is right makes its code right.
-/
import Derived.Test.YtdmmllcjgjmbbaaGreatDoorME
import Derived.RangeFuncLeaves
import Derived.RangeFuncIn
import Derived.RangeFuncRecord
section
namespace Go.Am
open Go.RowKit
section
variable {P:Program} {E:Env} {g:Gh} {w:World}
def Gw (a:Act):ResultVar→Sem Value
 |.tmp t=>pure (a.tmps.getD t undef)
 |.cell x t=>do loadVar t (←asAddr (a.tmps.getD x undef))
theorem gL {st:St} {a:Act} (h:bS E g st a w) : ∀{rs:List ResultVar} {vs:List AV},fW P st rs=some (vs,true) →
  ∃oC:List Value,(rs.mapM (Gw a)).run P w = .ok oC w∧cj g w vs oC
 |[],vs,he=>by
  simp only[fW,Option.some.injEq,Prod.mk.injEq,and_true] at he;subst he
  exact⟨[],rfl,trivial⟩
 |.tmp t::rs,vs,he=>by
  simp only[fW,Option.map_eq_some_iff,Prod.mk.injEq] at he
  obtain⟨⟨us,ok⟩,h1,rfl,rfl⟩:=he
  obtain⟨oC,k1,k2⟩:=gL h h1
  refine⟨_::oC,?_,h.tm t,k2⟩
  simp only[List.mapM_cons,Sem.run_bind,Gw,Sem.run_pure,Result.andThen_ok,k1]
 |.cell x t::rs,vs,he=>by
  simp only[fW] at he
  split at he
  · rename_i v ok us oks h1 h2
    simp only[Option.some.injEq,Prod.mk.injEq,Bool.and_eq_true] at he
    obtain⟨rfl,rfl,rfl⟩:=he
    obtain⟨c,o,cv,k1,k2,k3⟩:=oa h.rel (h.tm x) h1
    obtain⟨oC,k4,k5⟩:=gL h h2
    refine⟨cv::oC,?_,k3,k5⟩
    have ha:(asAddr (.pointer (some ⟨c,o,none⟩))).run P w = .ok ⟨c,o,none⟩ w:=rfl
    have hone:(Gw a (.cell x t)).run P w = .ok cv w:=by simp only[Gw,k1,Sem.run_bind,ha,Result.andThen_ok,k2]
    simp only[List.mapM_cons,Sem.run_bind,hone,Sem.run_pure,Result.andThen_ok,k4]
  · cases he
theorem xy {vs:List AV} {oC:List Value} (h:cj g w vs oC) : ∃cv,(if h:oC.toArray.size=1 then oC.toArray[0] else .tuple oC.toArray)=cv∧VA g w (one vs) cv:=by
 refine⟨_,rfl,?_⟩
 match vs,oC,h with
 |[v],[cv],h=>exact h.1
 |[],[],_=>exact VA.iA.2 trivial
 |v::v'::vs,cv::Zn::oC,h=>
  rw[dif_neg (by simp)]
  exact VA.iA.2 h
theorem BF {fn:Func} {a:Act} {oC:List Value} {cv:Value} (h:(fn.results.toList.mapM (Gw a)).run P w = .ok oC w)
  (hc:(if h:oC.toArray.size=1 then oC.toArray[0] else .tuple oC.toArray)=cv):(results fn a.tmps).run P w = .ok cv w:=by
 have e:results fn a.tmps=(do let vs ←fn.results.mapM (Gw a);pure (if h:vs.size=1 then vs[0] else .tuple vs)):=rfl
 rw[e,Array.mapM_eq_mapM_toList]
 simp only[Sem.run_bind,Sem.run_map,h,Result.andThen_ok,Sem.run_pure,hc]
theorem Rel.xz {m:Mem} (h:Rel g m w) : ∀(F:List Nat),(∀b∈F,∃l,m[b]? = some (.pc l)) →
  ∃g' m',Rel g' m' w∧Ext g w g' w∧cM g m w g' m' w∧g'.bE=g.bE∧g'.lo=g.lo∧g'.hi=g.hi∧m'.length=m.length∧(∀i,i∉F→m'[i]? = m[i]?) ∧
   ∀b∈F,∀l c,m[b]? = some (.pc l)→g.bE b=some c → ∀o,o<l.length→g'.pure c o
 |[],_=>⟨g,m,h,Ext.refl _ _,cM.refl _ _ _,rfl,rfl,rfl,rfl,fun _ _=>rfl,fun _ hb=>by cases hb⟩
 |b::F,hF=>by
  obtain⟨g',m',k1,k2,k3,k4,k5,k6,k7,k8,k9⟩:=Rel.xz h F fun b hb=>hF b (.tail _ hb)
  by_cases hb:b∈F
  · refine⟨g',m',k1,k2,k3,k4,k5,k6,k7,fun i hi=>k8 i fun q=>hi (.tail _ q),fun b' hb'=> ?_⟩
    cases hb' with
    |head=>exact k9 b hb
    |tail _ hb'=>exact k9 b' hb'
  · obtain⟨l,hl⟩:=hF b (.head _)
    have hl':m'[b]? = some (.pc l):=(k8 b hb).trans hl
    obtain⟨c,cs,e,n,q1,_⟩:=h.cells b _ _ hl rfl
    obtain⟨r1,r2,r3⟩:=k1.EK hl' (by rw[k4];exact q1)
    refine⟨_,_,r1,k2.trans r2,k3.trans r3,k4,k5,k6,by simp[k7],fun i hi=> ?_,fun b' hb' l' c' Rs eP o ho=> ?_⟩
    · have hne:b≠i:=fun e=>hi (e ▸ .head _)
      rw[List.getElem?_set_ne hne]
      exact k8 i fun q=>hi (.tail _ q)
    · cases hb' with
      |head=>
       rw[hl] at Rs;cases Rs
       rw[q1] at eP;cases eP
       exact .inr ⟨rfl,Nat.zero_le _,ho⟩
      |tail _ hb'=>exact .inl (k9 b' hb' l' c' Rs eP o ho)
theorem Gx {m:Mem} {kept:List Nat} {v:AV} : ∀b∈(freeze m kept v).2.2,∃l,m[b]? = some (.pc l):=by
 intro b hb
 unfold freeze at hb
 split at hb
 · rename_i b' off len sz cap
   cases hk:(has kept b'||Nat.beq len 0) with
   |true=>simp[hk] at hb
   |false=>
    simp only[hk,cond_false] at hb
    split at hb
    · rename_i l hl
      simp only[List.mem_singleton] at hb
      subst hb
      exact⟨l,getD_some hl (by simp)⟩
    · simp at hb
 · simp at hb
theorem tK {m:Mem} {kept:List Nat} : ∀{vs:List AV},∀b∈(eU m kept vs).2.2,∃l,m[b]? = some (.pc l)
 |[],b,hb=>by simp[eU] at hb
 |v::vs,b,hb=>by
  simp only[eU,List.mem_append] at hb
  rcases hb with hb | hb
  · exact Gx b hb
  · exact tK b hb
theorem z8 {m:Mem} (h:Rel g m w) {g':Gh} (he:Ext g w g' w) {kept:List Nat} {v:AV} {cv:Value} (hv:VA g w v cv) (hok:(freeze m kept v).2.1=true)
  (hp : ∀b∈(freeze m kept v).2.2,∀l c,m[b]? = some (.pc l)→g.bE b=some c → ∀o,o<l.length→g'.pure c o):VA g' w (freeze m kept v).1 cv:=by
 unfold freeze at hok hp ⊢
 split at hok
 · rename_i b off len sz cap
   cases hk:(has kept b||Nat.beq len 0) with
   |true=>simp only[cond_true];exact hv.mono he
   |false=>
    simp only[hk,cond_false] at hok hp ⊢
    split at hok
    · rename_i l hl
      simp only[hl] at hp ⊢
      have hl:=getD_some hl (by simp)
      obtain⟨hok,hz⟩:=(Bool.and_eq_true _ _).mp hok
      have hle:=Nat.le_of_ble_eq_true hok
      have hz:=Nat.le_of_ble_eq_true hz
      cases hv with
      |ms _ _ _ _ cap c hc hcap=>
      obtain⟨c',cs,e,n,k1,k2,k3,k4,k5⟩:=h.cells b _ _ hl rfl
      rw[hc] at k1;cases k1
      have hlen:=k4.1.len
      simp only[List.length_map,Array.length_toList] at hlen
      have hpure:=hp b (by simp) l c hl hc
      have ZB:AY g w l cs.toList:=bq.ct (by simpa using k4.1.len) fun i a b=>by
       have:=k4.1.get i (by simpa using a) b
       rw[List.getElem_map,VA.pv] at this
       exact this
      refine .p _ _ (VP.mk (us:=(cs.toList.drop off).take (len*sz)) (bq.mono (fun _ _ q=>VP.mono he.pure q) ((ZB.drop off).take (len*sz))) (by simp;omega) hcap hz fun k v hk=> ?_)
      rw[List.getElem?_take] at hk
      split at hk
      · rename_i hlt
        rw[List.getElem?_drop] at hk
        have hk':=bA hk
        refine⟨by rw[bf k2];simpa using hk,hpure (off+k) (by omega),k4.2 v (List.mem_of_getElem? hk)⟩
      · cases hk
    · exact hv.mono he
 · exact hv.mono he
theorem mZ {m:Mem} (h:Rel g m w) {g':Gh} (he:Ext g w g' w) {kept:List Nat} : ∀{vs:List AV} {oC:List Value},cj g w vs oC→(eU m kept vs).2.1=true →
  (∀b∈(eU m kept vs).2.2,∀l c,m[b]? = some (.pc l)→g.bE b=some c → ∀o,o<l.length→g'.pure c o)→cj g' w (eU m kept vs).1 oC
 |[],[],_,_,_=>trivial
 |v::vs,cv::oC,hv,hok,hp=>by
  simp only[eU,Bool.and_eq_true,List.mem_append] at hok hp ⊢
  exact⟨z8 h he hv.1 hok.1 fun b hb=>hp b (.inl hb),mZ h he hv.2 hok.2 fun b hb=>hp b (.inr hb)⟩
 |[],_::_,h,_,_=>h.elim
 |_::_,[],h,_,_=>h.elim
theorem tN : ∀{l ord:List Nat},zu l ord=true → ∀i∈l,i∉ord
 |[],_,_,_,h=>by cases h
 |j::l,ord,h,i,hi=>by
  simp only[zu,Bool.and_eq_true,Bool.not_eq_true'] at h
  cases hi with
  |head=>exact fun q=>by rw[EP.2 q] at h;cases h.1
  |tail _ hi=>exact tN h.2 i hi
theorem tO {c:bJ} {b:Frame} {a:Act} {todo:List Item} (hs:bS E g c.st a w) (hrb:dA g c.st.bM b) (tA : ∀i,c.st.bM ≠ .round i) (tw:b.fn=c.f) (hd:a.defers=[]) {fr:Frame}
  (hst : ∀cs,Steps P (lone fr cs w) (lone {b.atR a todo with mode:= .returning} cs w)):zW P E g c fr w (jV P c):=by
 unfold jV
 split
 · rename_i fn hfn
   split
   · rename_i vs ok hres
     intro hok cs
     simp only[Bool.and_eq_true] at hok
     obtain⟨⟨rfl,hfz⟩,hni⟩:=hok
     obtain⟨oC,k1,k2⟩:=gL hs hres
     obtain⟨g',m',r1,r2,r3,r4,r5,r6,r7,r8,r9⟩:=hs.rel.xz _ (tK (m:=c.st.mem) (kept:=close c.st.mem c.st.fix []) (vs:=vs))
     have k3:=mZ hs.rel r2 k2 hfz r9
     obtain⟨cv,hcv,_⟩:=xy k2
     obtain⟨Zn,Z6,k4⟩:=xy k3
     have:Zn=cv:=Z6.symm.trans hcv
     subst this
     have hrun:=BF (P:=P) k1 hcv
     generalize acw:eU c.st.mem (close c.st.mem c.st.fix []) vs=fz at *
     obtain⟨hnd,lP⟩:=dR c.st.mem c.st.fix [one fz.1]
     generalize Jc:close c.st.mem c.st.fix [one fz.1]=ord at *
     have hpk:Am.pack c.st.mem ord=Am.pack m' ord:=by
      unfold Am.pack
      refine List.map_congr_left fun i hi=> ?_
      rw[List.getD_eq_getElem?_getD,List.getD_eq_getElem?_getD,r8 i fun q=>tN hni i q hi]
     obtain⟨p1,p2⟩:=r1.pack hnd
     have hlen:c.st.fix≤ord.length:=by
      rcases Nat.eq_zero_or_pos c.st.fix with e | e
      · omega
      · have:=bA (lP (c.st.fix-1) (by omega));omega
     refine⟨g'.pack ord,_,w,hst cs,?_,?_,?_,rfl,rfl,rfl⟩
     · refine⟨tw,Zn,w,?_,?_,?_,cM.refl _ _ _,?_⟩
       · show I3 P c.st.bM {b.atR a todo with mode:= .returning} w Zn w
         have WD:P.funcs[b.fn]? = some fn:=by rw[tw];exact hfn
         generalize c.st.bM=r at hrb tA
         cases r with
         |call=>exact⟨⟨rfl,hd,hrb.1,fn,WD,hrun⟩,rfl⟩
         |late=>exact⟨⟨⟨rfl,hd,fn,WD,hrun⟩,hrb.1⟩,rfl⟩
         |round i=>exact absurd rfl (tA i)
       · simp only[look,Nat.beq_refl,cond_true]
         exact k4.fV (cJ.pack g' ord)
       · show Rel (g'.pack ord) (Am.pack c.st.mem ord) w
         rw[hpk];exact p1
       · show c.st.fix≤(Am.pack c.st.mem ord).length
         simpa[Am.pack] using hlen
     · refine r3.trans ⟨Nat.le_refl _,fun _ _ _=>rfl,fun _ _ p=>⟨p,rfl⟩,fun _ _ p=> .inl p,fun c' ho=> .inl (p2 c' ?_),rfl,rfl,rfl⟩
       have ho:eN (g'.pack ord) (Am.pack c.st.mem ord) c':=ho
       rw[hpk] at ho;exact ho
     · intro k c' hk eP
       have:=lP k hk
       simp[Gh.pack,this,r4,r5,r6,eP]
   · trivial
 · trivial
theorem oD {r:Nat} {w:World} (h:w.heap[r]? = some (.deferred (some []))):(Instr.takeDeferred r).run P w = .ok [] {w with heap:=w.heap.setIfInBounds r (.deferred none)}:=by
 simp[Instr.takeDeferred,Sem.run_bind,getObj,setObj,Sem.run,h,Result.andThen]
theorem EW {b:Frame} {a:Act} {todo:List Item} : ∀{mk:List Mark} {ds:List Deferred} {st:St} {m:Mem} {w:World},jW mk st.mem=some m→Mk g mk ds→bS E g st a w →
  ∃w',(∀cs,Steps P (lone {b.atR {a with defers:=ds} todo with mode:= .returning} cs w) (lone {b.atR {a with defers:=[]} todo with mode:= .returning} cs w')) ∧
   bS E g {st with mem:=m,bU:=[]} {a with defers:=[]} w'∧cM g st.mem w g m w'
 |[],[],st,m,w,h,_,hs=>by
  simp only[jW,Option.some.injEq] at h
  subst h
  exact⟨w,fun cs=>Steps.refl _ _,⟨hs.tm,hs.nt,hs.rel,hs.fix,hs.dj⟩,cM.refl _ _ _⟩
 |.late .. :: mk,_,st,m,w,h,hm,hs=>by
  simp only[jW] at h
  cases h
 |.range i::mk,d::ds,st,m,w,h,hm,hs=>by
  simp only[jW] at h
  split at h
  · rename_i hb
    obtain⟨⟨D,hD,rfl⟩,hm⟩:=hm
    have hib:=getD_some hb (by simp)
    obtain⟨c,ob,vs,k1,k2,k3,k4,_⟩:=hs.rel.obs i _ _ hib
    rw[hD] at k1;cases k1
    obtain⟨rfl,_⟩:=k4
    obtain⟨e1,e2,e3⟩:=dc w (o':= .deferred none) k2
    obtain⟨r1,r2,r3⟩:=hs.rel.fJ (C4:= .shut) (l':=[]) (vs':=[]) hib hD e1 e2 rfl rfl rfl e3 ⟨rfl,rfl⟩ trivial
    have hs':bS E g {st with mem:=st.mem.set i (.ob .shut [])} a {w with heap:=w.heap.setIfInBounds D (.deferred none)}:=
     ⟨fun k=>(hs.tm k).mono r2,hs.nt,r1,by simpa using hs.fix,hs.dj.mono r2.pure⟩
    obtain⟨w',q1,q2,q3⟩:=EW (st:={st with mem:=st.mem.set i (.ob .shut [])}) h hm hs'
    refine⟨w',fun cs=> .head ?_ (q1 cs),q2,r3.trans q3⟩
    exact step_collected (fr:={b.atR {a with defers:={target:= .collected D,args:= #[]}::ds} todo with mode:= .returning}) (fun e=>by cases e) rfl rfl (oD k2)
  · cases h
 |[],_::_,_,_,_,_,hm,_=>hm.elim
 |.range _::_,[],_,_,_,_,hm,_=>hm.elim
theorem Jg {f:FuncId} {fa ca:Array Value} {fn:Func} (hf:P.funcs[f]? = some fn) (hb:fn.body.isSome=true) (hn:(fn.name == "runtime.NumGoroutine")=false) :
  (invoke (.fn (.func f) ca) fa).run P w = .ok (.enter f (fa++ca)) w:=by
 have Wo:fn.body.isNone=false:=by cases hq:fn.body<;>simp_all
 simp only[invoke,callFunc,Sem.run_bind,run_program,Result.andThen_ok,hf,hn,Bool.false_eq_true,if_false,Wo,Sem.run_pure]
theorem p9 : ∀{l:List (Nat×Nat)} {cs:List Value},Zj g l cs→cj g w (mps l) cs
 |[],[],_=>trivial
 |(b,off)::l,_::cs,h=>by
  obtain⟨⟨c,h1,h2⟩,h3⟩:=h
  exact⟨by rw[h2];exact .mp b off c h1,p9 h3⟩
 |[],_::_,h=>h.elim
 |_::_,[],h=>h.elim
theorem BG (cv:Option Value):settle (cg cv true) = .returning:=by cases cv<;>rfl
theorem EX {c:bJ} {b:Frame} {a:Act} {todo:List Item} {gf:FuncId} {first caps:List (Nat×Nat)} {pv:Option AV} {ow:Option Value} {d:Deferred}
  (hs:bS E g c.st a w) (hrb:dA g c.st.bM b) (tA : ∀i,c.st.bM ≠ .round i) (tw:b.fn=c.f) (hd:a.defers=[d]) (hm:Mark.Ok g (.late gf first caps) d) (Bl:I5 g w pv ow) {fr:Frame}
  (hst : ∀cs,Steps P (lone fr cs w) (lone {b.atR a todo with mode:=cg ow false} cs w)):zW P E g c fr w (zw c pv gf first caps):=by
 unfold zw
 obtain⟨fa,ca,h1,h2,rfl⟩:=hm
 have hargs:cj g w (mps first++mps caps) (fa++ca).toList:=by
  rw[Array.toList_append]
  exact(p9 h1).append (p9 h2)
 dsimp only
 generalize mps first++mps caps=args at *
 obtain⟨hnd,_⟩:=dR c.st.mem 0 (pv.toList++args)
 generalize close c.st.mem 0 (pv.toList++args)=ord at *
 cases hlt:gy ord c.st.mem.length with
 |false=>trivial
 |true=>
  intro m1 ej cs
  obtain⟨⟨fn,Nw,Nx,Ny⟩,ej⟩:=ej
  obtain⟨I2,ER⟩:=hs.rel.pack hnd
  have j6:=cJ.pack g ord
  have Z7:I5 (g.pack ord) w (pv.map (fV (idx ord))) ow:=by
   cases pv with
   |none=>cases ow with
    |none=>exact trivial
    |some v=>exact Bl.elim
   |some u=>cases ow with
    |none=>exact Bl.elim
    |some v=>exact VA.fV j6 Bl
  obtain⟨w',g',cv,fr',q1,q2,q3,q5,q6,q7,q8⟩:=ej (g.pack ord) w (fa++ca) ow {b.atR {a with defers:=[]} todo with mode:=cg ow false} cs rfl Z7 I2 (cj.fV j6 hargs) (hs.dj.mono fun _ _ p=>⟨p,rfl⟩)
  have hlen:(Am.pack c.st.mem ord).length=ord.length:=by simp[Am.pack]
  rw[hlen] at q7 q8
  obtain⟨r1,r2,r3,r4⟩:=hs.rel.back hnd (eF hlt) q5 q6 q7 q8
  have Dp:=step_defer (P:=P) (fr:={b.atR a todo with mode:=cg ow false}) (cs:=cs) (w:=w) (ds:=[]) (by cases ow<;>exact fun e=>by cases e) hd rfl (Jg Nw Nx Ny)
  have hleave:=step_going_returned (P:=P) (c:={b.atR {a with defers:=[]} todo with mode:=cg ow true}) (cs:=cs) q3 q2
  have kE:c.st.fix≤(cr (bp ord c.st.mem.length) ord m1 c.st.mem).length:=by
   rw[dg _ _ _ _ q8];have:=hs.fix;omega
  refine⟨_,{b.atR {a with defers:=[]} todo with mode:= .returning},w',(hst cs).trans (.head Dp (q1.trans (.one ?_))),⟨b,{a with defers:=[]},todo,rfl,tw,hrb.ext fun i c q=>(r2.bE i c q).1,tA,rfl,rfl,⟨fun k=>(hs.tm k).mono r2,hs.nt,r1,kE,hs.dj.mono r2.pure⟩⟩,r3,bB.ou r2 _,rfl,rfl,rfl⟩
  rw[hleave]
  simp only[BG]
theorem Gy {c:bJ} {b:Frame} {a:Act} {todo:List Item} {u:AV} {cv:Value} (hs:bS E g c.st a w) (hrb:dA g c.st.bM b) (tw:b.fn=c.f) (hd:Mk g c.st.bU a.defers) (hu:VA g w u cv) :
  zW P E g c {b.atR a todo with mode:=cg (some cv) false} w (sv P c u):=by
 unfold sv
 split
 · trivial
 · rename_i tA
   have tA : ∀i,c.st.bM ≠ .round i:=fun i e=>tA i e
   split
   · rename_i hmk
     split
     · rename_i fn hfn
       intro cs
       have hds:a.defers=[]:=by
        rw[hmk] at hd
        cases hq:a.defers with
        |nil=>rfl
        |cons _ _=>rw[hq] at hd;exact hd.elim
       obtain⟨hnd,lP⟩:=dR c.st.mem c.st.fix [u]
       generalize close c.st.mem c.st.fix [u]=ord at *
       obtain⟨p1,p2⟩:=hs.rel.pack hnd
       have hlen:c.st.fix≤ord.length:=by
        rcases Nat.eq_zero_or_pos c.st.fix with e | e
        · omega
        · have:=bA (lP (c.st.fix-1) (by omega));omega
       refine⟨g.pack ord,_,w,Steps.refl _ _,⟨tw,cv,⟨rfl,hds,fn,?_⟩,hu.fV (cJ.pack g ord),p1,?_⟩,?_,?_,rfl,rfl,rfl⟩
       · show P.funcs[b.fn]? = some fn
         rw[tw];exact hfn
       · show c.st.fix≤(Am.pack c.st.mem ord).length
         simpa[Am.pack] using hlen
       · exact⟨Nat.le_refl _,fun _ _ _=>rfl,fun _ _ p=>⟨p,rfl⟩,fun _ _ p=> .inl p,fun c' ho=> .inl (p2 c' ho),rfl,rfl,rfl⟩
       · intro k c' hk eP
         have:=lP k hk
         simp[Gh.pack,this,eP]
     · trivial
   · rename_i gf first caps hmk
     rw[hmk] at hd
     cases hq:a.defers with
     |nil=>rw[hq] at hd;exact hd.elim
     |cons d ds=>
      rw[hq] at hd
      obtain⟨Z8,hd2⟩:=hd
      cases ds with
      |nil=>exact EX (pv:=some u) (ow:=some cv) hs hrb tA tw hq Z8 hu fun cs=>Steps.refl _ _
      |cons _ _=>exact hd2.elim
   · trivial
theorem xA {c:bJ} {b:Frame} {a:Act} {todo:List Item} (hs:bS E g c.st a w) (hrb:dA g c.st.bM b) (tA : ∀i,c.st.bM ≠ .round i) (tw:b.fn=c.f) (hd:Mk g c.st.bU a.defers) {fr:Frame}
  (hst : ∀cs,Steps P (lone fr cs w) (lone {b.atR a todo with mode:= .returning} cs w)):zW P E g c fr w (ending P c):=by
 have key : ∀m,jW c.st.bU c.st.mem=some m→zW P E g c fr w (jV P {c with st:={c.st with mem:=m,bU:=[]}}):=by
  intro m hm
  obtain⟨w',q1,q2,q3⟩:=EW (P:=P) (b:=b) (todo:=todo) hm hd hs
  have h1:=tO (P:=P) (E:=E) (c:={c with st:={c.st with mem:=m,bU:=[]}}) (b:=b) (a:={a with defers:=[]}) (todo:=todo) q2 hrb tA tw rfl (fr:={b.atR {a with defers:=[]} todo with mode:= .returning}) fun cs=>Steps.refl _ _
  unfold jV at h1 ⊢
  split
  · rename_i fn hfn
    rw[hfn] at h1
    simp only at h1
    split
    · rename_i vs ok hres
      simp only[hres] at h1
      intro hok cs
      obtain⟨g',fr',w2,s1,s2,s3,s4,s5,s6,s7⟩:=h1 hok cs
      exact⟨g',fr',w2,((hst cs).trans (q1 cs)).trans s1,s2,q3.trans s3,s4,s5,s6,s7⟩
    · trivial
  · trivial
 unfold ending
 split
 · rename_i hmk
   have h:=key c.st.mem (by rw[hmk];rfl)
   have e:({c with st:={c.st with mem:=c.st.mem,bU:=[]}}:bJ)=c:=by
    obtain⟨f,t,st⟩:=c
    obtain⟨tm,nt,mem,fix,bU,bM⟩:=st
    simp only at hmk
    subst hmk
    rfl
   rw[e] at h
   exact h
 · rename_i gf first caps hmk
   rw[hmk] at hd
   cases hq:a.defers with
   |nil=>rw[hq] at hd;exact hd.elim
   |cons d ds=>
    rw[hq] at hd
    obtain⟨Z8,hd2⟩:=hd
    cases ds with
    |nil=>exact EX (pv:=none) (ow:=none) hs hrb tA tw hq Z8 trivial hst
    |cons _ _=>exact hd2.elim
 · split
   · rename_i m hm
     exact key m hm
   · trivial
end
end Go.Am
end
section
namespace Go.Am
open Go.RowKit
section
variable {P:Program} {E:Env} {g:Gh} {w:World}
theorem EY (m:Mem) (b b':bg):(m++[b]).set m.length b'=m++[b']:=by
 rw[List.set_append_right _ _ (Nat.le_refl _)];simp
theorem Dq {st:St} {a:Act} (h:bS E g st a w):cj g w ((upTo st.nt).map (look st.tm)) a.tmps.toList:=by
 refine bq.ct (by simp[h.nt,gD]) fun i hi hi'=> ?_
 have hu:(upTo st.nt)[i]? = some i:=tr st.nt i (by simpa[gD] using hi)
 have e:((upTo st.nt).map (look st.tm))[i]=look st.tm i:=by
  have:((upTo st.nt).map (look st.tm))[i]? = some (look st.tm i):=by rw[List.getElem?_map,hu];rfl
  rw[List.getElem?_eq_getElem hi] at this
  exact Option.some.inj this
 rw[e]
 have:=h.tm i
 rw[Array.getD_eq_getD_getElem?,Array.getElem?_eq_getElem (by simpa using hi')] at this
 simpa using this
theorem Gz {st:St} {a:Act} (hs:bS E g st a w) (f:FuncId) (ps:Array Tmp) (as bd:Code) :
  ∃g',Rel g' (cT st f ps as bd) ((w.alloc (.deferred (some []))).alloc (.loop {state:= .ready,pending:=none,fn:=f,tmps:=a.tmps,params:=ps,assign:=as,body:=bd,defers:=w.heap.size})) ∧
   Ext g w g' ((w.alloc (.deferred (some []))).alloc (.loop {state:= .ready,pending:=none,fn:=f,tmps:=a.tmps,params:=ps,assign:=as,body:=bd,defers:=w.heap.size})) ∧
   cM g st.mem w g' (cT st f ps as bd) ((w.alloc (.deferred (some []))).alloc (.loop {state:= .ready,pending:=none,fn:=f,tmps:=a.tmps,params:=ps,assign:=as,body:=bd,defers:=w.heap.size})) ∧
   g'.bE st.mem.length=some w.heap.size∧g'.bE (st.mem.length+1)=some (w.heap.size+1):=by
 obtain⟨r1,s1⟩:=hs.rel.reserve
 obtain⟨r2,e2,s2⟩:=r1.rT (i:=st.mem.length) (ob:= .Gc) (l:=[]) (vs:=[]) (by simp) trivial (dz w (.deferred (some []))) ⟨rfl,rfl⟩
 rw[EY] at r2 s2
 obtain⟨r3,s3⟩:=r2.reserve
 have hv:=(Dq hs).mono e2
 obtain⟨r4,e4,s4⟩:=r3.rT (i:=st.mem.length+1) (ob:= .loop f ps as bd .ready none) (l:=(upTo st.nt).map (look st.tm)) (vs:=a.tmps.toList)
  (by simp) hv (dz _ (.loop {state:= .ready,pending:=none,fn:=f,tmps:=a.tmps,params:=ps,assign:=as,body:=bd,defers:=w.heap.size})) ⟨w.heap.size,by simp⟩
 have hl:(st.mem++[bg.ob .Gc []]).length=st.mem.length+1:=by simp
 have hse:=EY (st.mem++[bg.ob .Gc []]) .free (.ob (.loop f ps as bd .ready none) ((upTo st.nt).map (look st.tm)))
 rw[hl] at hse
 rw[hse] at r4 s4
 refine⟨_,r4,e2.trans e4,s1.trans (s2.trans (s3.trans s4)),?_,?_⟩
 · have:=(e4.bE st.mem.length w.heap.size (by simp[Gh.put])).1
   exact this
 · simp[Gh.put]
theorem wB {a:Act} {x:Operand} {f:FuncId} {fa ca:Array Value} {l:Nat} (hx:a.eval x = .func (.func f) fa ca)
  {fn:Func} (hf:P.funcs[f]? = some fn) (hb:fn.body.isSome=true) (hn:(fn.name == "runtime.NumGoroutine")=false) :
  ∃d,(resolve a.eval (rangeCall x l) 0).run P w = .ok d w∧(invoke d.target d.args).run P w = .ok (.enter f (fa ++ #[.func (.yield l) #[] #[]]++ca)) w:=by
 have Wo:fn.body.isNone=false:=by cases hq:fn.body<;>simp_all
 refine⟨{target:= .fn (.func f) ca,args:=fa ++ #[.func (.yield l) #[] #[]]},?_,?_⟩
 · simp only[resolve,hx,Deferred.ofValue,Sem.run_pure]
   have e:Array.map a.eval #[Operand.const (Value.func (Fn.yield l) #[] #[])] = #[Value.func (Fn.yield l) #[] #[]]:=by simp[Act.eval]
   rw[e]
 · simp only[invoke,callFunc,Sem.run_bind,run_program,Result.andThen_ok,hf,hn,Bool.false_eq_true,if_false,Wo,Sem.run_pure]
theorem BH {m m':Mem} {L l:Nat} {pd:Option Code} (h:Rel g m w) (hl:g.bE L=some l) (he:eM m L=some (m',pd)) :
  ∃w',(Instr.endLoop l).run P w = .ok pd w'∧Rel g m' w'∧Ext g w g w'∧cM g m w g m' w':=by
 unfold eM at he
 split at he
 · rename_i f ps as bd st EZ vals hb
   have hib:=getD_some hb (by simp)
   obtain⟨c,ob,vs,k1,k2,k3,k4,_⟩:=h.obs L _ _ hib
   rw[hl] at k1;cases k1
   obtain⟨D,rfl⟩:=k4
   have fin:st ≠ .busy→some (m.set L (.ob (.loop f ps as bd .exhausted EZ) vals),EZ)=some (m',pd) → ∃w',(Instr.endLoop l).run P w = .ok pd w'∧Rel g m' w'∧Ext g w g w'∧cM g m w g m' w':=by
    intro hst e
    simp only[Option.some.injEq,Prod.mk.injEq] at e
    obtain⟨rfl,rfl⟩:=e
    obtain⟨e1,e2,e3⟩:=dc w (o':= .loop {state:= .exhausted,pending:=EZ,fn:=f,tmps:=vs.toArray,params:=ps,assign:=as,body:=bd,defers:=D}) k2
    obtain⟨r1,r2,r3⟩:=h.fJ (C4:= .loop f ps as bd .exhausted EZ) (l':=vals) (vs':=vs) hib hl e1 e2 rfl rfl rfl e3 ⟨D,rfl⟩ k3
    exact⟨_,run_endLoop k2 hst,r1,r2,r3⟩
   cases st with
   |busy=>cases he
   |ready=>exact fin (fun e=>by cases e) he
   |done=>exact fin (fun e=>by cases e) he
   |exhausted=>exact fin (fun e=>by cases e) he
 · cases he
theorem Jh {st:St} {a:Act} {b:Frame} {k:List Item} {x:Operand} {ps:Array Tmp} {as bd:Code} {gf:FuncId} {first captured:List AV} {v:AV} {m1 m2:Mem} {pd:Option Code}
  (hs:bS E g st a w) (hr:b.roundOf=none) (hd:Mk g st.bU a.defers) (hx:ev E st.tm x = .fn (.func gf) first captured)
  (hlt:gy (close (cT st b.fn ps as bd) 0 (first++[.vy (st.mem.length+1)]++captured)) (cT st b.fn ps as bd).length=true)
  (ej:aC P E gf (dO (idx (close (cT st b.fn ps as bd) 0 (first++[.vy (st.mem.length+1)]++captured))) (first++[.vy (st.mem.length+1)]++captured))
    (pack (cT st b.fn ps as bd) (close (cT st b.fn ps as bd) 0 (first++[.vy (st.mem.length+1)]++captured))) v m1)
  (hend:eM (back (close (cT st b.fn ps as bd) 0 (first++[.vy (st.mem.length+1)]++captured)) none {st with mem:=cT st b.fn ps as bd} v m1).mem (st.mem.length+1)=some (m2,pd)) :
  ∀cs,∃g' a' w',Steps P (lone (b.atR a (.code (.rangeFunc x ps as bd)::k)) cs w) (lone (b.atR a' ((pd.map Item.code).toList++k)) cs w') ∧
   Mk g' (.range st.mem.length::st.bU) a'.defers∧bS E g' {st with mem:=m2,bU:= .range st.mem.length::st.bU} a' w'∧cM g st.mem w g' m2 w'∧bB g g' st.fix ∧ ∀i c,g.bE i=some c→g'.bE i=some c:=by
 intro cs
 obtain⟨g1,r1,e1,s1,d1,d2⟩:=Gz hs b.fn ps as bd
 generalize hM:cT st b.fn ps as bd=M at *
 generalize hW:(w.alloc (.deferred (some []))).alloc (.loop {state:= .ready,pending:=none,fn:=b.fn,tmps:=a.tmps,params:=ps,assign:=as,body:=bd,defers:=w.heap.size})=W at *
 have hlM:st.mem.length+2≤M.length:=by rw[←hM];simp[cT]
 have wk:=eS hs x
 rw[hx,VA.fns] at wk
 obtain⟨fa,ca,wk,Rh,hca⟩:=wk
 obtain⟨⟨fn,Nw,Nx,Ny⟩,ej⟩:=ej
 obtain⟨d,hres,hinv⟩:=wB (P:=P) (w:=W) (l:=w.heap.size+1) wk Nw Nx Ny
 have Dp:=stepR_rangeFunc (P:=P) (b:=b) (a:=a) (k:=k) (cs:=cs) (w:=w) (g:=x) (ps:=ps) (assign:=as) (body:=bd) (w₁:=W) (by rw[hr,←hW];exact run_enterLoop_outer _ _ _ _ _) hres hinv
 have hargs:cj g1 W (first++[.vy (st.mem.length+1)]++captured) (fa ++ #[Value.func (.yield (w.heap.size+1)) #[] #[]]++ca).toList:=by
  simp only[Array.toList_append]
  have hy:cj g1 W [.vy (st.mem.length+1)] [Value.func (.yield (w.heap.size+1)) #[] #[]]:=⟨.vy _ _ d2,trivial⟩
  exact((Rh.mono e1).append hy).append (hca.mono e1)
 generalize first++[.vy (st.mem.length+1)]++captured=args at *
 obtain⟨hnd,_⟩:=dR M 0 args
 generalize close M 0 args=ord at *
 obtain⟨I2,ER⟩:=r1.pack hnd
 have j6:=cJ.pack g1 ord
 have WE:eI E g1 W:=hs.dj.mono e1.pure
 obtain⟨w',g',cv,fr,q1,q2,q3,q4,q5,q6,q7,q8⟩:=ej (g1.pack ord) W _ (b.atR {a with defers:=[{target:= .collected w.heap.size,args:= #[]}]++a.defers} (.inRangeFunc (w.heap.size+1)::k)::cs) I2
  (cj.fV j6 hargs) (WE.mono fun _ _ p=>⟨p,rfl⟩)
 have hlen:(Am.pack M ord).length=ord.length:=by simp[Am.pack]
 rw[hlen] at q7 q8
 obtain⟨r2,e2,s2,r4⟩:=r1.back hnd (eF hlt) q5 q6 q7 q8
 have hmem:(back ord none {st with mem:=M} v m1).mem=cr (bp ord M.length) ord m1 M:=rfl
 rw[hmem] at hend
 have hL:(g1.back g' ord M.length).bE (st.mem.length+1)=some (w.heap.size+1):=(e2.bE _ _ d2).1
 obtain⟨w2,f1,f2,f3,f4⟩:=BH (P:=P) r2 hL hend
 have hleave:=step_leave_returned (P:=P) (c:=b.atR {a with defers:=[{target:= .collected w.heap.size,args:= #[]}]++a.defers} (.inRangeFunc (w.heap.size+1)::k)) (cs:=cs) q2
 rw[finish_atR_inRangeFunc] at hleave
 have BI:Ext g w (g1.back g' ord M.length) w2:=(e1.trans e2).trans f3
 have hm2:st.fix≤m2.length:=by
  have Be:=dg (bp ord M.length) ord m1 M q8
  have Q6:m2.length=(cr (bp ord M.length) ord m1 M).length:=by
   unfold eM at hend
   split at hend
   · split at hend
     · cases hend
     · simp only[Option.some.injEq,Prod.mk.injEq] at hend
       obtain⟨rfl,_⟩:=hend
       simp
   · cases hend
  have:=hs.fix
  omega
 refine⟨g1.back g' ord M.length,{a with defers:=[{target:= .collected w.heap.size,args:= #[]}]++a.defers},w2,.head Dp (q1.trans (.head hleave (.one (stepR_endRangeFunc f1)))),?_,?_,s1.trans (s2.trans f4),bB.ou BI _,fun i c q=>(BI.bE i c q).1⟩
 · exact⟨⟨w.heap.size,(e2.bE _ _ d1).1,rfl⟩,hd.ext fun i c q=>(BI.bE i c q).1⟩
 · exact⟨fun j=>(hs.tm j).mono BI,hs.nt,f2,hm2,hs.dj.mono BI.pure⟩
end
end Go.Am
end
section
namespace Go.Am
open Go.RowKit
section
variable {P:Program} {E:Env} {g:Gh} {w:World}
theorem cQ {id:Nat} : ∀{k k':List It},bN id k=some k'→exitTo id (cY k)=some (cY k')
 |[],_,h=>by simp[bN] at h
 |.inBlock i::k,k',h=>by
  simp only[bN] at h
  cases hb:Nat.beq i id with
  |true=>
   simp only[hb,cond_true,Option.some.injEq] at h;subst h
   have:=Nat.eq_of_beq_eq_true hb
   subst this
   simp[cY,er,exitTo]
  |false=>
   simp only[hb,cond_false] at h
   have hne:(i==id)=false:=by
    rw[beq_eq_false_iff_ne];intro e;subst e;simp[Nat.beq_refl] at hb
   simp only[cY,er,List.cons_append,List.nil_append,exitTo,hne,Bool.false_eq_true,if_false]
   exact cQ h
 |.code _ _::k,k',h=>by
  simp only[bN] at h
  simpa[cY,er,exitTo] using cQ h
 |.ops _ _ _ _::k,k',h=>by
  simp only[bN] at h
  simpa[cY,er,exitTo] using cQ h
 |.inLoop _ _::k,k',h=>by
  simp only[bN] at h
  simpa[cY,er,exitTo] using cQ h
 |.forget _::k,k',h=>by
  simp only[bN] at h
  simpa[cY,er] using cQ h
 |.fin::k,k',h=>by
  simp only[bN] at h
  simpa[cY,er] using cQ h
 |.vS _::k,k',h=>by
  simp only[bN] at h
  simpa[cY,er] using cQ h
 |.fH _::k,k',h=>by
  simp only[bN] at h
  simpa[cY,er] using cQ h
 |.leave::k,k',h=>by
  simp only[bN] at h
  simpa[cY,er] using cQ h
 |.begin::k,k',h=>by
  simp only[bN] at h
  simpa[cY,er,exitTo] using cQ h
 |.inScope _::k,k',h=>by
  simp only[bN] at h
  simpa[cY,er,exitTo] using cQ h
theorem cm {id:Nat} : ∀{k:List It},bN id k=none→exitTo id (cY k)=none
 |[],_=>rfl
 |.inBlock i::k,h=>by
  simp only[bN] at h
  cases hb:Nat.beq i id with
  |true=>simp[hb] at h
  |false=>
   simp only[hb,cond_false] at h
   have hne:(i==id)=false:=by
    rw[beq_eq_false_iff_ne];intro e;subst e;simp[Nat.beq_refl] at hb
   simp only[cY,er,List.cons_append,List.nil_append,exitTo,hne,Bool.false_eq_true,if_false]
   exact cm h
 |.code _ _::k,h=>by
  simp only[bN] at h
  simpa[cY,er,exitTo] using cm h
 |.ops _ _ _ _::k,h=>by
  simp only[bN] at h
  simpa[cY,er,exitTo] using cm h
 |.inLoop _ _::k,h=>by
  simp only[bN] at h
  simpa[cY,er,exitTo] using cm h
 |.forget _::k,h=>by
  simp only[bN] at h
  simpa[cY,er] using cm h
 |.fin::k,h=>by
  simp only[bN] at h
  simpa[cY,er] using cm h
 |.vS _::k,h=>by
  simp only[bN] at h
  simpa[cY,er] using cm h
 |.fH _::k,h=>by
  simp only[bN] at h
  simpa[cY,er] using cm h
 |.leave::k,h=>by
  simp only[bN] at h
  simpa[cY,er] using cm h
 |.begin::k,h=>by
  simp only[bN] at h
  simpa[cY,er,exitTo] using cm h
 |.inScope _::k,h=>by
  simp only[bN] at h
  simpa[cY,er,exitTo] using cm h
theorem cR {l:Nat} : ∀{k k':List It},dG l k=some k'→gotoIn l (cY k)=some (cY k')
 |[],_,h=>by simp[dG] at h
 |.inScope b::k,k',h=>by
  simp only[dG] at h
  simp only[cY,er,List.cons_append,List.nil_append,gotoIn]
  cases hf:findLabel b l with
  |some rest=>
   simp only[hf,Option.some.injEq] at h;subst h
   rfl
  |none=>
   simp only[hf] at h
   exact cR h
 |.code _ _::k,k',h=>by
  simp only[dG] at h
  simpa[cY,er,gotoIn] using cR h
 |.ops _ _ _ _::k,k',h=>by
  simp only[dG] at h
  simpa[cY,er,gotoIn] using cR h
 |.inBlock _::k,k',h=>by
  simp only[dG] at h
  simpa[cY,er,gotoIn] using cR h
 |.inLoop _ _::k,k',h=>by
  simp only[dG] at h
  simpa[cY,er,gotoIn] using cR h
 |.forget _::k,k',h=>by
  simp only[dG] at h
  simpa[cY,er] using cR h
 |.fin::k,k',h=>by
  simp only[dG] at h
  simpa[cY,er] using cR h
 |.vS _::k,k',h=>by
  simp only[dG] at h
  simpa[cY,er] using cR h
 |.fH _::k,k',h=>by
  simp only[dG] at h
  simpa[cY,er] using cR h
 |.leave::k,k',h=>by
  simp only[dG] at h
  simpa[cY,er] using cR h
 |.begin::k,k',h=>by
  simp only[dG] at h
  simpa[cY,er,gotoIn] using cR h
theorem ny {l:Nat} : ∀{k k':List It},(∀x∈k,It.pl x)→dG l k=some k' → ∀x∈k',It.pl x
 |[],_,_,h=>by simp[dG] at h
 |x::k,k',hf,h=>by
  have ht : ∀y∈k,It.pl y:=fun y hy=>hf y (.tail _ hy)
  cases x with
  |inScope b=>
   simp only[dG] at h
   cases hl:findLabel b l with
   |some rest=>
    simp only[hl,Option.some.injEq] at h;subst h
    intro y hy
    cases hy with
    |head=>exact trivial
    |tail _ hy=>exact hf y hy
   |none=>
    simp only[hl] at h
    exact ny ht h
  |_=>simp only[dG] at h;exact ny ht h
theorem nA {id:Nat} : ∀{k k':List It},(∀x∈k,It.pl x)→bN id k=some k' → ∀x∈k',It.pl x
 |[],_,_,h=>by simp[bN] at h
 |x::k,k',hf,h=>by
  have ht : ∀y∈k,It.pl y:=fun y hy=>hf y (.tail _ hy)
  cases x with
  |inBlock i=>
   simp only[bN] at h
   cases hb:Nat.beq i id with
   |true=>simp only[hb,cond_true,Option.some.injEq] at h;subst h;exact ht
   |false=>simp only[hb,cond_false] at h;exact nA ht h
  |_=>simp only[bN] at h;exact nA ht h
theorem BJ {g':Gh} {ρ:Nat→Option Nat} {f:Nat→Value} : ∀(keep:List Nat) (tm:rG),(∀k,VA g' w (fV ρ (look tm k)) (f k)) → ∀k,VA g' w (look (keep.zip (dO ρ (keep.map (look tm)))) k) (f k)
 |[],tm,_,k=> .an _
 |i::keep,tm,h,k=>by
  simp only[List.map_cons,dO,List.zip_cons_cons,hY]
  by_cases e:i=k
  · subst e;simp only[if_true];exact h i
  · simp only[e,if_false];exact BJ keep tm h k
theorem tP {keep:List Nat} {st:St}:(forget keep st).bM=st.bM:=by
 obtain⟨tm,nt,mem,fix,bU,bM⟩:=st
 cases bU with
 |cons i l=>rfl
 |nil=>cases bM<;>rfl
theorem qL {keep:Option (List Nat)} {st:St}:(gm keep st).bM=st.bM:=by
 cases keep with
 |none=>rfl
 |some keep=>exact tP
theorem xB {st:St} {a:Act} (h:bS E g st a w) (keep:List Nat) : ∃g',bS E g' (forget keep st) a w∧cM g st.mem w g' (forget keep st).mem w∧bB g g' st.fix∧(forget keep st).fix=st.fix∧(∀ds,Mk g st.bU ds→Mk g' (forget keep st).bU ds) ∧ ∀b,dA g st.bM b→dA g' (forget keep st).bM b:=by
 obtain⟨tm,nt,mem,fix,bU,bM⟩:=st
 have stay:forget keep ⟨tm,nt,mem,fix,bU,bM⟩=⟨tm,nt,mem,fix,bU,bM⟩→_:=fun this=>(show ∃g',bS E g' (forget keep ⟨tm,nt,mem,fix,bU,bM⟩) a w∧cM g mem w g' (forget keep ⟨tm,nt,mem,fix,bU,bM⟩).mem w∧bB g g' fix∧(forget keep ⟨tm,nt,mem,fix,bU,bM⟩).fix=fix∧(∀ds,Mk g bU ds→Mk g' (forget keep ⟨tm,nt,mem,fix,bU,bM⟩).bU ds) ∧ ∀b,dA g bM b→dA g' (forget keep ⟨tm,nt,mem,fix,bU,bM⟩).bM b from by
  rw[this]
  exact⟨g,h,cM.refl _ _ _,bB.refl _ _,rfl,fun _ q=>q,fun _ q=>q⟩)
 cases bU with
 |cons i bU=>exact stay rfl
 |nil=>
  cases bM with
  |round i=>exact stay rfl
  |late=>exact stay rfl
  |call=>
   obtain⟨hnd,lP⟩:=dR mem fix (keep.map (look tm))
   obtain⟨h1,h2⟩:=h.rel.pack hnd
   have hlen:fix≤(close mem fix (keep.map (look tm))).length:=by
    rcases Nat.eq_zero_or_pos fix with e | e
    · omega
    · have:=bA (lP (fix-1) (by omega));omega
   refine⟨g.pack (close mem fix (keep.map (look tm))),⟨BJ keep tm fun k=>(h.tm k).fV (cJ.pack g _),h.nt,h1,?_,h.dj.mono fun _ _ p=>⟨p,rfl⟩⟩,?_,?_,rfl,?_,fun _ q=>q⟩
   · show fix≤(Am.pack mem _).length
     simpa[Am.pack] using hlen
   · exact⟨Nat.le_refl _,fun _ _ _=>rfl,fun _ _ p=>⟨p,rfl⟩,fun _ _ p=> .inl p,fun c ho=> .inl (h2 c ho),rfl,rfl,rfl⟩
   · intro k c hk hc
     have:=lP k hk
     simp[Gh.pack,this,hc]
   · intro ds hd
     cases ds with
     |nil=>exact trivial
     |cons _ _=>exact hd.elim
theorem tQ {st:St} {a:Act} (h:bS E g st a w) (keep:Option (List Nat)) : ∃g',bS E g' (gm keep st) a w∧cM g st.mem w g' (gm keep st).mem w∧bB g g' st.fix∧(gm keep st).fix=st.fix∧(∀ds,Mk g st.bU ds→Mk g' (gm keep st).bU ds) ∧ ∀b,dA g st.bM b→dA g' (gm keep st).bM b:=by
 cases keep with
 |none=>exact⟨g,h,cM.refl _ _ _,bB.refl _ _,rfl,fun _ q=>q,fun _ q=>q⟩
 |some keep=>exact xB h keep
theorem lQ (keep:Option (List Nat)) (k:List It):cY (dD keep k)=cY k:=by cases keep<;>rfl
theorem lR {keep:Option (List Nat)} {k:List It} (h : ∀x∈k,It.pl x) : ∀x∈dD keep k,It.pl x:=by
 cases keep with
 |none=>exact h
 |some keep=>
  intro x hx
  cases hx with
  |head=>exact trivial
  |tail _ hx=>exact h x hx
theorem tR {st:St} {a:Act} {i l:Nat} {f:FuncId} {ps:Array Tmp} {as bd:Code} {s s':LoopState} {pd EZ:Option Code} {vals:List AV}
  (h:bS E g st a w) (hl:g.bE i=some l) (hb:st.mem.getD i .dead = .ob (.loop f ps as bd s pd) vals) :
  ∃r:Loop,w.heap[l]? = some (.loop r)∧r.state=s ∧
   Rel g (st.mem.set i (.ob (.loop f ps as bd s' EZ) vals)) (w.putObj l (.loop {r with state:=s',pending:=EZ})) ∧
   Ext g w g (w.putObj l (.loop {r with state:=s',pending:=EZ})) ∧
   cM g st.mem w g (st.mem.set i (.ob (.loop f ps as bd s' EZ) vals)) (w.putObj l (.loop {r with state:=s',pending:=EZ})) ∧
   eN g st.mem l:=by
 have hib:=getD_some hb (by simp)
 obtain⟨c,ob,vs,k1,k2,k3,k4,_⟩:=h.rel.obs i _ _ hib
 rw[hl] at k1;cases k1
 obtain⟨D,rfl⟩:=k4
 obtain⟨e1,e2,e3⟩:=dc w (o':= .loop {state:=s',pending:=EZ,fn:=f,tmps:=vs.toArray,params:=ps,assign:=as,body:=bd,defers:=D}) k2
 obtain⟨r1,r2,r3⟩:=h.rel.fJ (C4:= .loop f ps as bd s' EZ) (l':=vals) (vs':=vs) hib hl e1 e2 rfl rfl rfl e3 ⟨D,rfl⟩ k3
 exact⟨_,k2,rfl,r1,r2,r3,i,_,hib,rfl,hl⟩
theorem lS {c:bJ} {b:Frame} {a:Act} {i l:Nat} {jump:Option Code} {todo:List Item} (hs:bS E g c.st a w) (hrn:c.st.bM = .round i) (hl:g.bE i=some l) (tw:b.fn=c.f)
  (hst : ∀(v:Value) (w':World),(Instr.endRound l jump).run P w = .ok v w' → ∀(d:Frame) (cs:List Frame),_root_.Go.step P (lone (b.atR a todo) (d::cs) w) = .next (lone (d.finish v) cs w')) :
  zW P E g c (b.atR a todo) w (kY c i jump):=by
 unfold kY
 split
 · rename_i f ps as bd s pd vals hb
   dsimp only
   cases hlt:Nat.blt i c.st.fix with
   |false=>trivial
   |true=>
   rw[Nat.blt_eq] at hlt
   intro cs
   obtain⟨r,q1,_,q2,q3,q4,q5⟩:=tR (s':=cZ jump) (EZ:=jump) hs hl hb
   have hrun:=run_endRound (P:=P) jump q1
   have Rt:(if jump.isNone then LoopState.ready else .done)=(cZ jump):=by cases jump<;>rfl
   rw[Rt] at hrun
   generalize hm:c.st.mem.set i (.ob (.loop f ps as bd (cZ jump) jump) vals)=m at *
   obtain⟨hnd,lP⟩:=dR m c.st.fix []
   generalize Jc:close m c.st.fix []=ord at *
   obtain⟨p1,p2⟩:=q2.pack hnd
   have hlen:c.st.fix≤ord.length:=by
    rcases Nat.eq_zero_or_pos c.st.fix with e | e
    · omega
    · have:=bA (lP (c.st.fix-1) (by omega));omega
   have own : ∀c',eN (g.pack ord) (Am.pack m ord) c'→eN g c.st.mem c':=fun c' ho=>(q4.owned c' (p2 c' ho)).elim id fun hh=>by
    have h1:=q2.jy (p2 c' ho)
    rw[World.putObj_size] at h1
    omega
   refine⟨g.pack ord,_,w,Steps.refl _ _,⟨tw,.bool jump.isNone,_,?_,.p _ _ (.sc _),p1,?_,?_⟩,?_,?_,rfl,rfl,rfl⟩
   · show I3 P c.st.bM _ w _ _
     rw[hrn]
     exact fun d cs=> .one (hst _ _ hrun d cs)
   · have hol:eN (g.pack ord) (Am.pack m ord) l:=by
      have hi:=lP i hlt
      have ZQ:m[i]? = some (.ob (.loop f ps as bd (cZ jump) jump) vals):=by
       rw[←hm,List.getElem?_set_self (bA (getD_some hb (by simp)))]
      refine⟨i,ew (idx ord) (.ob (.loop f ps as bd (cZ jump) jump) vals),?_,rfl,by simp[Gh.pack,hi,hl]⟩
      unfold Am.pack
      rw[List.getElem?_map,hi]
      simp[List.getD_eq_getElem?_getD,ZQ]
     exact⟨by simp,fun c' _ hno=>World.putObj_heap_other fun e=>hno (e▸hol),fun c' o p=>⟨p,(q4.pure c' o p).2⟩,fun _ _ p=> .inl p,fun _ ho=> .inl ho,rfl,rfl,rfl⟩
   · show c.st.fix≤(Am.pack m ord).length
     simpa[Am.pack] using hlen
   · exact⟨Nat.le_refl _,fun _ _ _=>rfl,fun _ _ p=>⟨p,rfl⟩,fun _ _ p=> .inl p,fun c' ho=> .inl (own c' ho),rfl,rfl,rfl⟩
   · intro k c' hk eP
     have:=lP k hk
     simp[Gh.pack,this,eP]
 · trivial
theorem fN {c:bJ} {fr:Frame} (h:cw P E g c fr w):zW P E g c fr w (Am.step P E c):=by
 obtain⟨f,todo,st⟩:=c
 cases todo with
 |nil=>
  obtain⟨b,a,rfl,h1,h2,h3,h4,_⟩:=h
  simp only[Am.step]
  split
  · rename_i i hr
    rw[hr] at h2
    obtain⟨hk,l,hl,hro⟩:=h2
    exact lS (c:=⟨f,[],st⟩) h4 hr hl h1 fun v w' hrun d cs=>stepR_round_end hro hk hrun
  · rename_i tA
    have tA : ∀i,st.bM ≠ .round i:=fun i e=>tA i e
    exact xA (c:=⟨f,[],st⟩) (b:=b) (a:=a) (todo:=[]) h4 h2 tA h1 h3 fun cs=> .one (stepR_end (h2.zU tA))
 |cons x k=>
  by_cases lK:It.pl x
  case neg=>
   cases x with
   |fin=>
    obtain⟨h1,cv,w2,h2,h3,h4,h6,h5⟩:=h
    exact⟨h1,rfl,cv,w2,h2,h3,h4,h6,h5⟩
   |vS u=>
    obtain⟨h1,cv,h2,h3,h4,h5⟩:=h
    exact⟨h1,rfl,cv,h2,h3,h4,h5⟩
   |fH u=>
    obtain⟨b,a,todo,cv,rfl,h1,h2,h3,h4,h5⟩:=h
    exact Gy (c:=⟨f,.fH u::k,st⟩) h4 h2 h1 h3 h5
   |leave=>
    obtain⟨b,a,todo,rfl,h1,h2,h3,_,h5,h6⟩:=h
    exact tO (c:=⟨f,.leave::k,st⟩) (b:=b) (a:=a) (todo:=todo) h6 h2 h3 h1 h5 fun cs=>Steps.refl _ _
   |_=>exact absurd trivial lK
  have h' : ∃(b:Frame) (a:Act),fr=b.atR a (er x++cY k)∧b.fn=f∧dA g st.bM b∧Mk g st.bU a.defers∧bS E g st a w ∧ ∀y∈x::k,It.pl y:=by
   cases x<;>first
    |exact absurd lK id
    |exact h
  obtain⟨b,a,rfl,h1,h2,h3,h4,hxk⟩:=h'
  have hk : ∀y∈k,It.pl y:=fun y hy=>hxk y (.tail _ hy)
  clear h
  cases x with
  |fin=>exact absurd lK id
  |vS u=>exact absurd lK id
  |fH u=>exact absurd lK id
  |leave=>exact absurd lK id
  |begin=>
   simp only[Am.step]
   split
   · rename_i i hr
     unfold sw
     split
     · rename_i f' ps as bd pd vals hb
       intro cs
       have h2':=h2
       rw[hr] at h2'
       obtain⟨_,l,hl,hro⟩:=h2'
       obtain⟨r,q1,q0,q2,q3,q4,_⟩:=tR (s':= .busy) (EZ:=pd) h4 hl hb
       have hp:r.pending=pd:=by
        have hib:=getD_some hb (by simp)
        obtain⟨c,ob,vs,k1,k2,k3,k4,_⟩:=h4.rel.obs i _ _ hib
        rw[hl] at k1;cases k1
        obtain⟨D,rfl⟩:=k4
        rw[q1] at k2;cases k2
        rfl
       have hrun:=run_beginRound (P:=P) q1 q0
       rw[show({r with state:= .busy}:Loop)={r with state:= .busy,pending:=pd} by rw[←hp]] at hrun
       refine⟨g,_,_,.one (stepR_beginRound hro hrun),cw.mk (a:=a) (c:=⟨f,k,{st with mem:=st.mem.set i (.ob (.loop f' ps as bd .busy pd) vals)}⟩) hk h1 h2 h3 ⟨fun j=>(h4.tm j).mono q3,h4.nt,q2,by simpa using h4.fix,h4.dj.mono q3.pure⟩,q4,bB.refl _ _,rfl,rfl,rfl⟩
     · trivial
   · trivial
  |inScope bd=>exact dI.quiet (fun cs=> .one (step_lone_go (by simp[stepG,stepG.exec,Frame.atR,er]))) hk h1 rfl h2 h3 h4 rfl rfl
  |inBlock id=>exact dI.quiet (fun cs=> .one stepR_inBlock) hk h1 rfl h2 h3 h4 rfl rfl
  |forget keep=>
   intro cs
   obtain⟨g',q1,q2,q3,q4,q5,q6⟩:=xB h4 keep
   exact⟨g',_,w,Steps.refl _ _,cw.mk (c:=⟨f,k,forget keep st⟩) hk h1 (q6 _ h2) (q5 _ h3) q1,q2,q3,rfl,q4,tP⟩
  |inLoop i body=>
   intro cs
   obtain⟨g',q1,q2,q3,q4,q5,q6⟩:=tQ h4 (E.keep f (2*i))
   exact⟨g',_,w,.one stepR_inLoop,cw.mk (c:=⟨f,.code (i+1) body :: .inLoop i body::k,gm (E.keep f (2*i)) st⟩) (nf trivial (nf trivial hk)) h1 (q6 _ h2) (q5 _ h3) q1,q2,q3,rfl,q4,qL⟩
  |ops bK ops i sure=>
   simp only[Am.step]
   cases ho:ops[i]? with
   |none=>
    have hi:ops.size-i=0:=by
     have:ops.size≤i:=by
      rcases Nat.lt_or_ge i ops.size with q | q
      · rw[Array.getElem?_eq_getElem q] at ho;cases ho
      · exact q
     omega
    refine dI.quiet (c':=⟨f,k,st⟩) (fun cs=> .one ?_) hk h1 rfl h2 h3 h4 rfl rfl
    simp only[er,hi,List.range'_zero,List.cons_append,List.nil_append]
    exact stepR_region_end
   |some o=>
    obtain⟨w1,w2,w3⟩:=mH h4 (ops:=ops) (o:=o)
    have hi:i<ops.size:=by
     rcases Nat.lt_or_ge i ops.size with q | q
     · exact q
     · rw[Array.getElem?_eq_none q] at ho;cases ho
    have skip:Region.wanted o (yielded ops a.tmps)=false→fits st o.dst=true→dI P E g ⟨f,.ops bK ops i sure::k,st⟩ (b.atR a (er (.ops bK ops i sure)++cY k)) w ⟨f,.ops bK ops (i+1) false::k,put st o.dst (.aS [])⟩:=by
     intro hw hf cs
     have hst:=stepR_op_skip (P:=P) (b:=b) (a:=a) (k:=cY k) (cs:=cs) (w:=w) (ops:=ops) (i:=i) (rest:=List.range' (i+1) (ops.size-(i+1))) (by simp[ho,hw])
     simp only[ho,Option.bind_some] at hst
     rw[←lJ hi] at hst
     have hp:=h4.put (v:= .aS []) (cv:=undef) hf (VA.iA.2 trivial) (Ext.refl g w) h4.rel h4.fix
     refine⟨g,_,w,.one hst,cw.mk (a:=a.put o.dst undef) (c:=⟨f,.ops bK ops (i+1) false::k,put st o.dst (.aS [])⟩) (nf trivial hk) h1 (h2.put (Ext.refl g w) rfl) (h3.put (Ext.refl g w) rfl) hp,?_,bB.refl _ _,rfl,?_,gT⟩
     · have:(put st o.dst (.aS [])).mem=st.mem:=by unfold Am.put;cases o.dst<;>rfl
       show cM g st.mem w g (put st o.dst (.aS [])).mem w
       rw[this];exact cM.refl _ _ _
     · show(put st o.dst (.aS [])).fix=st.fix
       unfold Am.put;cases o.dst<;>rfl
    dsimp only
    cases Dj:dm ops st.tm o with
    |yes=>exact EU (c:=⟨f,.ops bK ops i sure::k,st⟩) h4 h1 h2 h3 ho (w1 Dj) hk
    |no=>
     dsimp only
     cases hf:fits st o.dst with
     |false=>trivial
     |true=>exact skip (w2 Dj) hf
    |lost=>trivial
    |ask d bb want=>
     obtain⟨q1,q2⟩:=w3 d bb want Dj
     dsimp only
     cases sure with
     |false=>
      have known : ∀b':Bool,bb=b'→dI P E g ⟨f,.ops bK ops i false::k,st⟩ (b.atR a (er (.ops bK ops i false)++cY k)) w ⟨f,.ops bK ops i true::k,put st (some d) (sB b')⟩:=by
       intro b' e
       subst e
       refine dI.quiet (c':=⟨f,.ops bK ops i true::k,put st (some d) (sB bb)⟩) (fun cs=>Steps.refl _ _) (nf trivial hk) h1 rfl h2 h3 (h4.known ?_) rfl rfl
       rw[q2];exact .p _ _ (.sc _)
      exact⟨known true,known false⟩
     |true=>
      dsimp only
      cases hb:bb==want with
      |true=>exact EU (c:=⟨f,.ops bK ops i true::k,st⟩) h4 h1 h2 h3 ho (q1.trans hb) hk
      |false=>
       dsimp only
       cases hf:fits st o.dst with
       |false=>trivial
       |true=>exact skip (q1.trans hb) hf
  |code i code=>
   cases code with
   |skip=>exact dI.quiet (c':=⟨f,k,st⟩) (fun cs=> .one stepR_skip) hk h1 rfl h2 h3 h4 rfl rfl
   |region id ops draw=>
    cases draw with
    |true=>
     simp only[Am.step]
     split
     · rename_i st' ok hq
       intro hok cs
       subst hok
       obtain⟨g',a',w',r1,r2,r3,r4,r5,r6,r7⟩:=ND (b:=b) (k:=cY k) h4 hq
       refine⟨g',_,w',r1 cs,cw.mk (a:=a') (c:=⟨f,k,{st' with bU:=st.bU,bM:=st.bM}⟩) hk h1 (h2.ext r7) (by rw[r2];exact h3.ext r7) ⟨r3.tm,r3.nt,r3.rel,r3.fix,r3.dj⟩,r4,r5,rfl,r6,rfl⟩
     · split
       · rename_i Z5 hq
         obtain⟨st',hm,g',a',w',r1,r2,r3,r4,r5,r6,r7⟩:=NK (b:=b) (k:=cY k) (bK:=id) h4 hq
         intro cs
         exact⟨_,List.mem_map.2 ⟨st',hm,rfl⟩,g',_,w',r1 cs,cw.mk (a:=a') (c:=⟨f,k,{st' with bU:=st.bU,bM:=st.bM}⟩) hk h1 (h2.ext r7) (by rw[r2];exact h3.ext r7) ⟨r3.tm,r3.nt,r3.rel,r3.fix,r3.dj⟩,r4,r5,rfl,r6,rfl⟩
       intro O st' hO hq cs
       obtain⟨g',a',w',r1,r2,r3,r4,r5,r6,r7⟩:=Rr (b:=b) (k:=k) hO h4 hq cs
       have hk' : ∀y∈fX id ops k,It.pl y:=by
        unfold fX
        cases pK ops with
        |false=>exact hk
        |true=>exact nf trivial hk
       exact⟨g',_,w',r1,cw.mk (a:=a') (c:=⟨f,fX id ops k,{st' with bU:=st.bU,bM:=st.bM}⟩) hk' h1 (h2.ext r7) (by rw[r2];exact h3.ext r7) ⟨r3.tm,r3.nt,r3.rel,r3.fix,r3.dj⟩,r4,r5,rfl,r6,rfl⟩
    |false=>
     refine dI.quiet (c':=⟨f,.ops id ops 0 false::k,st⟩) (fun cs=> .one ?_) (nf trivial hk) h1 rfl h2 h3 h4 rfl rfl
     have:=stepR_region (P:=P) (b:=b) (a:=a) (k:=cY k) (cs:=cs) (w:=w) (ops:=ops) (id:=id)
     simpa[cY,er,List.range_eq_range'] using this
   |seq x y=>exact dI.quiet (c':=⟨f,.code i x :: .code (i+nodes x) y::k,st⟩) (fun cs=> .one stepR_seq) (nf trivial (nf trivial hk)) h1 rfl h2 h3 h4 rfl rfl
   |cond x y z=>
    simp only[Am.step]
    split
    · rename_i t hx
      have hv:=eS h4 x
      rw[hx,VA.pv] at hv
      generalize hz:a.eval x=cv at hv
      cases hv
      refine⟨fun e=> ?_,fun e=> ?_⟩<;>subst e
      · refine dI.quiet (c':=⟨f,.code (i+1) y::dD (E.keep f (2*i)) k,st⟩) (fun cs=> .one ?_) (nf trivial (lR hk)) h1 rfl h2 h3 h4 rfl rfl
        simp only[cY,lQ];exact stepR_cond hz
      · refine dI.quiet (c':=⟨f,.code (i+1+nodes y) z::dD (E.keep f (2*i)) k,st⟩) (fun cs=> .one ?_) (nf trivial (lR hk)) h1 rfl h2 h3 h4 rfl rfl
        simp only[cY,lQ];exact stepR_cond hz
    · trivial
   |block id body=>exact dI.quiet (c':=⟨f,.code i body :: .inBlock id::k,st⟩) (fun cs=> .one stepR_block) (nf trivial (nf trivial hk)) h1 rfl h2 h3 h4 rfl rfl
   |loop body=>
    intro cs
    obtain⟨g',q1,q2,q3,q4,q5,q6⟩:=tQ h4 (E.keep f (2*i))
    refine⟨g',b.atR a (cY (.code (i+1) body :: .inLoop i body::dD (E.keep f (2*i+1)) k)),w,.one ?_,cw.mk (c:=⟨f,.code (i+1) body :: .inLoop i body::dD (E.keep f (2*i+1)) k,gm (E.keep f (2*i)) st⟩) (nf trivial (nf trivial (lR hk))) h1 (q6 _ h2) (q5 _ h3) q1,q2,q3,rfl,q4,qL⟩
    simp only[cY,lQ];exact stepR_loop
   |exit id=>
    simp only[Am.step]
    split
    · rename_i k' hk'
      exact dI.quiet (c':=⟨f,k',st⟩) (fun cs=> .one (stepR_exit (cQ hk'))) (nA hk hk') h1 rfl h2 h3 h4 rfl rfl
    · rename_i hx
      split
      · rename_i j hr
        rw[hr] at h2
        obtain⟨hk,l,hl,hro⟩:=h2
        exact lS (c:=⟨f,.code i (.exit id)::k,st⟩) h4 hr hl h1 fun v w' hrun d cs=>stepR_round_exit hro hk (cm hx) hrun
      · trivial
   |scope bd=>exact dI.quiet (c':=⟨f,.code i bd :: .inScope bd::k,st⟩) (fun cs=> .one (step_lone_go (by simp[stepG,stepG.exec,Frame.atR,cY,er]))) (nf trivial (nf trivial hk)) h1 rfl h2 h3 h4 rfl rfl
   |label l=>exact dI.quiet (c':=⟨f,k,st⟩) (fun cs=> .one stepR_label) hk h1 rfl h2 h3 h4 rfl rfl
   |goto l=>
    simp only[Am.step]
    split
    · rename_i k' hk'
      exact dI.quiet (c':=⟨f,k',st⟩) (fun cs=> .one (stepR_goto (cR hk'))) (ny hk hk') h1 rfl h2 h3 h4 rfl rfl
    · trivial
   |rangeFunc x ps as bd=>
    simp only[Am.step]
    split
    · rename_i hr
      have h2':=h2
      rw[hr] at h2'
      unfold EB
      split
      · rename_i gf first captured hx
        dsimp only
        cases hlt:gy (close (cT st f ps as bd) 0 (first++[.vy (st.mem.length+1)]++captured)) (cT st f ps as bd).length with
        |false=>trivial
        |true=>
         subst h1
         intro v m1 hd m2 pd hend cs
         obtain⟨g',a',w',s1,s2,s3,s4,s5,s6⟩:=Jh (P:=P) (k:=cY k) h4 h2'.2 h3 hx hlt hd hend cs
         have e:(pd.map Item.code).toList++cY k=cY (behind ⟨b.fn,k,{st with mem:=cT st b.fn ps as bd,bU:= .range st.mem.length::st.bU}⟩ m2 pd).todo:=by
          cases pd<;>rfl
         rw[e] at s1
         refine⟨g',_,w',s1,cw.mk (a:=a') (c:=behind ⟨b.fn,k,{st with mem:=cT st b.fn ps as bd,bU:= .range st.mem.length::st.bU}⟩ m2 pd) ?_ rfl (h2.ext s6) s2 s3,s4,s5,rfl,rfl,rfl⟩
         cases pd with
         |none=>exact hk
         |some code=>exact nf trivial hk
      · trivial
    · trivial
   |ret=>
    simp only[Am.step]
    split
    · rename_i j hr
      rw[hr] at h2
      obtain⟨hk,l,hl,hro⟩:=h2
      exact lS (c:=⟨f,.code i .ret::k,st⟩) h4 hr hl h1 fun v w' hrun d cs=>stepR_round_ret hro hk hrun
    · rename_i tA
      have tA : ∀i,st.bM ≠ .round i:=fun i e=>tA i e
      exact xA (c:=⟨f,.code i .ret::k,st⟩) (b:=b) (a:=a) (todo:= .code .ret::cY k) h4 h2 tA h1 h3 fun cs=> .one (stepR_ret (h2.zU tA))
   |_=>trivial
end
end Go.Am
end
section
namespace Go.Am
open Go.RowKit
def eZ (P:Program):Prop:= ∀(f:FuncId) (fn:Func),P.funcs[f]? = some fn→(fn.name == "runtime.NumGoroutine")=false
def Good (P:Program) (E:Env) (c:bJ) (o:Out):Prop:=
 ∀(g:Gh) (fr:Frame) (w:World) (cs:List Frame),cw P E g c fr w→match o with
  |.ret v m'=> ∃g' fr' w' cv w2,Steps P (lone fr cs w) (lone fr' cs w')∧I3 P c.st.bM fr' w' cv w2∧fr'.fn=c.f∧VA g' w2 v cv∧Rel g' m' w2∧cM g c.st.mem w g' m' w2∧bB g g' c.st.fix∧c.st.fix≤m'.length
  |.vO v m'=> ∃g' fr' w' cv,Steps P (lone fr cs w) (lone fr' cs w')∧fr'.leaving P w' (.panicked [{v:=cv,recovered:=false}])∧fr'.fn=c.f∧VA g' w' v cv∧Rel g' m' w'∧cM g c.st.mem w g' m' w'∧bB g g' c.st.fix∧c.st.fix≤m'.length
section
variable {P:Program} {E:Env}
theorem Good.br {c c':bJ} {o:Out} (hg : ∀g fr w,cw P E g c fr w→dI P E g c fr w c') (h:Good P E c' o):Good P E c o:=by
 intro g fr w cs hc
 obtain⟨g',fr',w',q1,q2,q3,q4,q5,q6,q7⟩:=hg g fr w hc cs
 cases o with
 |ret v m'=>
  obtain⟨g2,NL,w2,cv,w3,r1,r2,r3,r4,r5,r6,r7,r8⟩:=h g' fr' w' cs q2
  refine⟨g2,NL,w2,cv,w3,q1.trans r1,by rw[←q7];exact r2,r3.trans q5,r4,r5,q3.trans r6,q4.trans ?_,by rw[←q6];exact r8⟩
  rw[←q6];exact r7
 |vO v m'=>
  obtain⟨g2,NL,w2,cv,r1,r2,r3,r4,r5,r6,r7,r8⟩:=h g' fr' w' cs q2
  refine⟨g2,NL,w2,cv,q1.trans r1,r2,r3.trans q5,r4,r5,q3.trans r6,q4.trans ?_,by rw[←q6];exact r8⟩
  rw[←q6];exact r7
theorem nB : ∀n,upTo n=List.range n
 |0=>rfl
 |n+1=>by rw[upTo,nB n,List.range_succ]
theorem nC : ∀(l:List AV) (s k:Nat),look ((List.range' s l.length).zip l) k=if s≤k then l.getD (k-s) .an else .an
 |[],s,k=>by simp[look]
 |v::l,s,k=>by
  simp only[List.length_cons,List.range'_succ,List.zip_cons_cons,hY]
  by_cases e:s=k
  · subst e;simp
  · simp only[e,if_false]
    rw[nC l (s+1) k]
    by_cases h:s+1≤k
    · have h1:s≤k:=by omega
      have h2:k-s=(k-(s+1))+1:=by omega
      simp[h,h1,h2]
    · have h1 : ¬s≤k:=by omega
      simp[h,h1]
def Dr:Bool→Qy
 |false=> .call
 |true=> .late
def kindOf:Bool→CallKind
 |false=> .normal
 |true=> .deferred
theorem cw.Ji {g:Gh} {w:World} {f:FuncId} {args:List AV} {m:Mem} {c:bJ} {cN:Array Value} (z:Bool) (hi:init P f args m=some c) (hr:Rel g m w) (ha:cj g w args cN.toList) (hg:eI E g w) :
  cw P E g {c with st:={c.st with bM:=Dr z}} (Frame.enter P f cN (kindOf z)) w:=by
 unfold init at hi
 split at hi
 · rename_i fn hf
   split at hi
   · rename_i body hb
     simp only[Option.some.injEq] at hi;subst hi
     have hlen:=ha.len
     simp only[Array.length_toList] at hlen
     let b:Frame:={(default:Frame) with fn:=f,kind:=kindOf z,roundOf:=none}
     have WG:Frame.enter P f cN (kindOf z)=b.atR {tmps:=cN++Array.replicate (fn.ntmps-cN.size) undef,defers:=[]} [.code body]:=by
      simp[Frame.enter,Frame.atR,hf,hb,b]
     rw[WG]
     refine cw.mk (c:=⟨f,[.code 0 body],⟨(upTo args.length).zip args,max fn.ntmps args.length,m,m.length,[],Dr z⟩⟩) (nf trivial (fun _ h=>by cases h)) rfl (by cases z<;>exact⟨rfl,rfl⟩) trivial ⟨?_,?_,hr,Nat.le_refl _,hg⟩
     · intro k
       rw[nB,List.range_eq_range',nC]
       simp only[Nat.zero_le,if_true,Nat.sub_zero]
       rcases Nat.lt_or_ge k args.length with hk | hk
       · rw[List.getD_eq_getElem?_getD,List.getElem?_eq_getElem hk]
         have hk':k<cN.toList.length:=by simp;omega
         have hk2:k<cN.size:=by omega
         have:=ha.get k hk hk'
         simp only[Option.getD_some,Array.getD_eq_getD_getElem?]
         rw[Array.getElem?_append_left hk2,Array.getElem?_eq_getElem hk2]
         simpa using this
       · rw[List.getD_eq_getElem?_getD,List.getElem?_eq_none hk]
         exact .an _
     · simp;omega
   · cases hi
 · cases hi
theorem oF {f:FuncId} {args:List AV} {m:Mem} {c:bJ} (hi:init P f args m=some c):c.st.mem=m∧c.st.fix=m.length∧c.f=f∧c.st.bM = .call:=by
 unfold init at hi
 split at hi
 · split at hi
   · simp only[Option.some.injEq] at hi;subst hi;exact⟨rfl,rfl,rfl,rfl⟩
   · cases hi
 · cases hi
theorem cw.enter {g:Gh} {w:World} {f:FuncId} {args:List AV} {m:Mem} {c:bJ} {cN:Array Value} (hi:init P f args m=some c) (hr:Rel g m w) (ha:cj g w args cN.toList) (hg:eI E g w) :
  cw P E g c (Frame.enter P f cN .normal) w:=by
 have h:=cw.Ji (P:=P) false hi hr ha hg
 have e:({c with st:={c.st with bM:=Dr false}}:bJ)=c:=by
  obtain⟨_,_,_,h4⟩:=oF hi
  obtain⟨f,t,tm,nt,mem,fix,bU,bM⟩:=c
  simp only at h4
  subst h4
  rfl
 rw[e] at h
 exact h
theorem qa (hN:eZ P) {f:FuncId} {args:List AV} {m:Mem} {c:bJ} (hi:init P f args m=some c) : ∃fn,P.funcs[f]? = some fn∧fn.body.isSome=true∧(fn.name == "runtime.NumGoroutine")=false:=by
 unfold init at hi
 split at hi
 · rename_i fn hf
   split at hi
   · rename_i body hb
     exact⟨fn,hf,by simp[hb],hN f fn hf⟩
   · cases hi
 · cases hi
theorem m0 (hN:eZ P) {f:FuncId} {args:List AV} {m:Mem} {c:bJ} {v:AV} {m':Mem} (hi:init P f args m=some c) (h:Good P E c (.vO v m')):I4 P E f args m v m':=by
 refine⟨qa hN hi,fun g w cN cs hr ha hg=> ?_⟩
 obtain⟨g',fr',w',cv,q1,q2,q3,q4,q5,q6,q7,q8⟩:=h g _ w cs (cw.enter hi hr ha hg)
 obtain⟨e1,e2,e3,e4⟩:=oF hi
 rw[e1] at q6;rw[e2] at q7 q8;rw[e3] at q3
 exact⟨_,g',cv,fr',q1,q2,q3,q4,q5,q6,q7,q8⟩
theorem dS (hN:eZ P) {f:FuncId} {args:List AV} {m:Mem} {c:bJ} {v:AV} {m':Mem} (hi:init P f args m=some c) (h:Good P E c (.ret v m')):aC P E f args m v m':=by
 refine⟨qa hN hi,fun g w cN cs hr ha hg=> ?_⟩
 obtain⟨g',fr',w',cv,w2,q1,q2,q3,q4,q5,q6,q7,q8⟩:=h g _ w cs (cw.enter hi hr ha hg)
 obtain⟨e1,e2,e3,e4⟩:=oF hi
 rw[e1] at q6;rw[e2] at q7 q8;rw[e3] at q3;rw[e4] at q2
 obtain⟨q2,rfl⟩:=q2
 exact⟨_,g',cv,fr',q1,q2,q3,q4,q5,q6,q7,q8⟩
theorem oG {g:Gh} {w:World} : ∀(ds:List Nat) (vs:List AV) (oC:List Value) (tm:rG) (t:Array Value),cj g w vs oC→ds.length=vs.length→(∀d∈ds,d<t.size)→(∀k,VA g w (look tm k) (t.getD k undef)) →
  (∀k,VA g w (look (C2 tm ds vs) k) (((ds.zip oC).foldl (fun t (q:Nat×Value)=>t.setIfInBounds q.1 q.2) t).getD k undef))∧((ds.zip oC).foldl (fun t (q:Nat×Value)=>t.setIfInBounds q.1 q.2) t).size=t.size
 |[],[],[],tm,t,_,_,_,h=>⟨h,rfl⟩
 |d::ds,v::vs,cv::oC,tm,t,hv,hl,hd,h=>by
  have hdt:=hd d (.head _)
  obtain⟨q1,q2⟩:=oG ds vs oC ((d,v)::tm) (t.setIfInBounds d cv) hv.2 (by simpa using hl) (fun d' hd'=>by simpa using hd d' (.tail _ hd')) fun k=>by
   simp only[hY]
   by_cases hk:d=k
   · subst hk
     simp only[if_true,Array.getD_eq_getD_getElem?,Array.getElem?_setIfInBounds_self_of_lt hdt,Option.getD_some]
     exact hv.1
   · simp only[hk,if_false,Array.getD_eq_getD_getElem?]
     rw[Array.getElem?_setIfInBounds_ne hk,←Array.getD_eq_getD_getElem?]
     exact h k
  exact⟨q1,q2.trans (by simp)⟩
 |[],_::_,_,_,_,_,hl,_,_=>by simp at hl
 |_::_,[],_,_,_,_,hl,_,_=>by simp at hl
 |[],[],_::_,_,_,h,_,_,_=>h.elim
 |_::_,_::_,[],_,_,h,_,_,_=>h.elim
theorem m3 {args:List AV} {m:Mem} {c:bJ} {v:AV} {m':Mem} (hi:A4 args m=some c) (h:Good P E c (.ret v m')):ET P E args m v m':=by
 intro g w i l xs Nv d cs hargs hr hl hx hg
 subst hargs
 unfold A4 at hi
 dsimp only at hi
 split at hi
 · rename_i f ps as bd s pd vals hb
   cases hc:(Nat.beq xs.length ps.toList.length&&gy ps.toList vals.length) with
   |false=>rw[hc] at hi;cases hi
   |true=>
    rw[hc] at hi
    simp only[cond_true,Option.some.injEq] at hi
    simp only[Bool.and_eq_true] at hc
    have hlen:=Nat.eq_of_beq_eq_true hc.1
    have hlt:=eF hc.2
    have hib:=getD_some hb (by simp)
    obtain⟨c0,ob,vs,k1,k2,k3,k4,_⟩:=hr.obs i _ _ hib
    rw[hl] at k1;cases k1
    obtain⟨D,rfl⟩:=k4
    have hxl:=hx.len
    simp only[Array.length_toList] at hxl
    have hvl:=k3.len
    have Ds:=run_yield (P:=P) (args:=Nv) k2 (by show Nv.size=ps.size;simp at hlen;omega)
    dsimp only at Ds
    have EG:(ps.zip Nv).foldl (fun tmps (t,a)=>tmps.setIfInBounds t a) vs.toArray=(ps.toList.zip Nv.toList).foldl (fun t (q:Nat×Value)=>t.setIfInBounds q.1 q.2) vs.toArray:=by
     rw[←Array.foldl_toList,Array.toList_zip]
    rw[EG] at Ds
    obtain⟨t1,t2⟩:=oG ps.toList xs Nv.toList ((upTo vals.length).zip vals) vs.toArray hx hlen.symm (fun d hd=>by have:=hlt d hd;simp;omega) fun k=>by
     rw[nB,List.range_eq_range',nC]
     simp only[Nat.zero_le,if_true,Nat.sub_zero]
     rcases Nat.lt_or_ge k vals.length with hk | hk
     · rw[List.getD_eq_getElem?_getD,List.getElem?_eq_getElem hk]
       have hk':k<vs.length:=by omega
       have:=k3.get k hk hk'
       simp only[Option.getD_some,Array.getD_eq_getD_getElem?]
       simpa[hk'] using this
     · rw[List.getD_eq_getElem?_getD,List.getElem?_eq_none hk]
       exact .an _
    generalize (ps.toList.zip Nv.toList).foldl (fun t (q:Nat×Value)=>t.setIfInBounds q.1 q.2) vs.toArray=T at *
    let b:Frame:={(default:Frame) with fn:=f,kind:= .normal,roundOf:=some l}
    have WG:Frame.round l f T as bd .normal=b.atR {tmps:=T,defers:=[]} (cY c.todo):=by
     rw[←hi]
     simp[Frame.round,Frame.atR,cY,er,b]
    have Ru:cw P E g c (Frame.round l f T as bd .normal) w:=by
     rw[WG]
     subst hi
     exact cw.mk (nf trivial (nf trivial (nf trivial fun _ h=>by cases h))) rfl ⟨rfl,l,hl,rfl⟩ trivial ⟨t1,by rw[t2];simp;omega,hr,Nat.le_refl _,hg⟩
    have hm:c.st.mem=m∧c.st.fix=m.length∧c.st.bM = .round i:=by subst hi;exact⟨rfl,rfl,rfl⟩
    obtain⟨e1,e2,e3⟩:=hm
    obtain⟨g',fr',w',cv,w2,q1,q2,q3,q4,q5,q6,q7,q8⟩:=h g _ w (d::cs) Ru
    rw[e1] at q6;rw[e2] at q7 q8;rw[e3] at q2
    exact⟨f,T,as,bd,w2,g',cv,Ds,q1.trans (q2 d cs),q4,q5,q6,q7,q8⟩
 · cases hi
theorem xC {c:bJ} {o:Out} (h:Am.step P E c = .done o):Good P E c o:=by
 intro g fr w cs hc
 have hs:=fN hc
 rw[h] at hs
 cases o with
 |ret v m'=>
  obtain⟨h1,rfl,cv,w2,h2,h3,h4,h6,h5⟩:=hs
  exact⟨g,fr,w,cv,w2,Steps.refl _ _,h2,h1,h3,h4,h6,bB.refl _ _,h5⟩
 |vO v m'=>
  obtain⟨h1,rfl,cv,h2,h3,h4,h5⟩:=hs
  exact⟨g,fr,w,cv,Steps.refl _ _,h2,h1,h3,h4,cM.refl _ _ _,bB.refl _ _,h5⟩
theorem qb {c c':bJ} (h:Am.step P E c = .next c') : ∀g fr w,cw P E g c fr w→dI P E g c fr w c':=by
 intro g fr w hc
 have hs:=fN hc
 rw[h] at hs;exact hs
theorem xD {c c':bJ} (h:Am.step P E c = .must true c') : ∀g fr w,cw P E g c fr w→dI P E g c fr w c':=by
 intro g fr w hc
 have hs:=fN hc
 rw[h] at hs;exact hs rfl
theorem xE {c y z:bJ} {b:Bool} (h:Am.step P E c = .test b y z) : ∀g fr w,cw P E g c fr w→dI P E g c fr w (match b with | true=>y | false=>z):=by
 intro g fr w hc
 have hs:=fN hc
 rw[h] at hs
 cases b with
 |true=>exact hs.1 rfl
 |false=>exact hs.2 rfl
theorem jG {c c':bJ} {f:FuncId} {args:List AV} {m:Mem} {ord:List Nat} {dst:Option Tmp} {v:AV} {m1:Mem} (h:Am.step P E c = .call f args m ord dst c') (hd:aC P E f args m v m1) :
  ∀g fr w,cw P E g c fr w→dI P E g c fr w {c' with st:=back ord dst c'.st v m1}:=by
 intro g fr w hc
 have hs:=fN hc
 rw[h] at hs
 exact hs.1 v m1 hd
theorem qM {c c':bJ} {f:FuncId} {args:List AV} {m:Mem} {ord:List Nat} {dst:Option Tmp} {v:AV} {m1:Mem} (h:Am.step P E c = .call f args m ord dst c') (hd:I4 P E f args m v m1) :
  ∀g fr w,cw P E g c fr w→dI P E g c fr w (kZ ord c' v m1):=by
 intro g fr w hc
 have hs:=fN hc
 rw[h] at hs
 exact hs.2 v m1 hd
theorem xF {c c':bJ} {f:FuncId} {args:List AV} {m:Mem} {ord:List Nat} {pv:Option AV} {m1:Mem} (h:Am.step P E c = .late f args m ord pv c') (hd:I6 P E f args m pv m1) :
  ∀g fr w,cw P E g c fr w→dI P E g c fr w {c' with st:=back ord none c'.st (.aS []) m1}:=by
 intro g fr w hc
 have hs:=fN hc
 rw[h] at hs
 exact hs m1 hd
theorem iH {b:Frame} {a:Act} {cs:List Frame} {w:World} : ∀(n:Nat) (t t':List It),sC n t=some t'→(∀x∈t,It.pl x)→Steps P (lone (b.atR a (cY t)) cs w) (lone (b.atR a (cY t')) cs w) ∧ ∀x∈t',It.pl x
 |0,_,_,h,_=>by cases h
 |n+1,t,t',h,hp=>by
  unfold sC at h
  split at h
  · simp only[Option.some.injEq] at h;subst h
    exact⟨Steps.refl _ _,hp⟩
  · obtain⟨h1,h2⟩:=iH n _ t' h (nf trivial (nf trivial fun y hy=>hp y (.tail _ hy)))
    exact⟨.head stepR_seq h1,h2⟩
  · rename_i id ops k
    obtain⟨h1,h2⟩:=iH n _ t' h (nf trivial fun y hy=>hp y (.tail _ hy))
    refine⟨.head ?_ h1,h2⟩
    have:=stepR_region (P:=P) (b:=b) (a:=a) (k:=cY k) (cs:=cs) (w:=w) (ops:=ops) (id:=id)
    simpa[cY,er,List.range_eq_range'] using this
  · obtain⟨h1,h2⟩:=iH n _ t' h (nf trivial (nf trivial fun y hy=>hp y (.tail _ hy)))
    exact⟨.head (step_lone_go (by simp[stepG,stepG.exec,Frame.atR,cY,er])) h1,h2⟩
  · obtain⟨h1,h2⟩:=iH n _ t' h (nf trivial (nf trivial fun y hy=>hp y (.tail _ hy)))
    exact⟨.head stepR_block h1,h2⟩
  · cases h
theorem Aa {b:Frame} {a:Act} {k:List Item} {c0:Frame} {cs:List Frame} {w:World} {ops:Array Oper} {i:Nat} {rest:List Nat} {o:Oper} {ow:Option Value} (hk:b.kind = .deferred) (hb:b.roundOf=none) (ho:ops[i]? = some o) (hr:isRec o=true)
  (h0:c0.mode=cg ow false) :
  _root_.Go.step P (lone (b.atR a (.inRegion ops (i::rest)::k)) (c0::cs) w) = .next (lone (b.atR (a.put o.dst (ow.getD .nilIface)) (.inRegion ops rest::k)) ({c0 with mode:=cg ow true}::cs) w):=by
 unfold isRec at hr
 split at hr
 · rename_i c hop hgd
   split at hr
   · rename_i wv Z9
     have jC:c.args = #[]:=by have:=congrArg List.toArray Z9;simpa using this
     have hw:Region.wanted o (yielded ops a.tmps)=true:=by unfold Region.wanted;rw[hgd]
     have hg:=stepGR_op (P:=P) (b:=b) (k:=k) (cs:=c0::cs) (w:=w) (rest:=rest) ho hw
     have hrun:(o.semAt b.roundOf a.eval).run P w = .ok .recover w:=by
      rw[hb]
      simp only[Oper.semAt,execOp,hop,resolve,wv,jC,Sem.run_bind,Sem.run_pure,Result.andThen_ok,invoke,builtin]
     have lK : ∀v,(b.atR a (.inRegion ops (i::rest)::k)).finish v=b.atR (a.put o.dst v) (.inRegion ops rest::k):=fun v=>by rw[Frame.finish_atR,ho];rfl
     have hkk:(b.atR a (.inRegion ops (i::rest)::k)).kind = .deferred:=hk
     have QG:=tryRecover_deferred hkk (c0::cs)
     have hro:(b.atR a (.inRegion ops (i::rest)::k)).roundOf=none:=hb
     refine step_lone_go ?_
     rw[hg]
     cases ow with
     |none=>
      have e:recoverD (c0::cs)=none:=by unfold recoverD;simp only[h0,cg]
      rw[e] at QG
      have h00:({c0 with mode:=cg none true}:Frame)=c0:=by rw[show cg none true=c0.mode from h0.symm]
      rw[h00]
      simp only[stepG.apply,Sem.runT_eq,hrun,hro,QG,GStep.bare_after,GStep.bare_go,lK,Option.getD_none,if_true]
     |some v=>
      have e:recoverD (c0::cs)=some (v,{c0 with mode:=cg (some v) true}::cs):=by unfold recoverD;simp only[h0,cg]
      rw[e] at QG
      simp only[stepG.apply,Sem.runT_eq,hrun,hro,QG,GStep.bare_after,GStep.bare_go,lK,Option.getD_some,if_true]
   · cases hr
 · cases hr
theorem m4 (hN:eZ P) {f:FuncId} {args:List AV} {m:Mem} {pv:Option AV} {c:bJ} {v:AV} {m':Mem} (hi:A6 P f args m pv=some c) (h:Good P E c (.ret v m')):I6 P E f args m pv m':=by
 unfold A6 at hi
 split at hi
 · rename_i c0 dV
   split at hi
   · rename_i t1 hi1
     refine⟨qa hN dV,fun g w cN ow fr0 cs h0 Bl hr ha hg=> ?_⟩
     obtain⟨e1,e2,e3,_⟩:=oF dV
     have WG:=cw.Ji (P:=P) true dV hr ha hg
     have WH : ∃body,c0.todo=[.code 0 body]:=by
      unfold init at dV
      split at dV
      · split at dV
        · simp only[Option.some.injEq] at dV;subst dV;exact⟨_,rfl⟩
        · cases dV
      · cases dV
     obtain⟨body,hbody⟩:=WH
     obtain⟨f0,t0,eY⟩:=c0
     simp only at hbody e1 e2 e3 hi1 hi
     subst hbody
     obtain⟨b,a,hfr,h1,h2,h3,h4,hk⟩:=WG
     simp only at h1 h2 h3 h4 hk
     obtain⟨Rv,Bd⟩:=iH (P:=P) (b:=b) (a:=a) (cs:=fr0::cs) (w:=w) 20 _ _ hi1 hk
     have aaa:Frame.enter P f cN .deferred=b.atR a (cY [It.code 0 body]):=hfr
     rw[aaa]
     unfold Qz at hi
     simp only at hi
     split at hi
     · rename_i bK ops i sure k
       split at hi
       · rename_i o ho
         have hlt:i<ops.size:=by
          rcases Nat.lt_or_ge i ops.size with q | q
          · exact q
          · rw[Array.getElem?_eq_none q] at ho;cases ho
         have hk' : ∀y∈k,It.pl y:=fun y hy=>Bd y (.tail _ hy)
         cases hb:(isRec o&&fits {eY with bM:= .late} o.dst) with
         |false=>rw[hb] at hi;cases hi
         |true=>
          rw[hb] at hi
          simp only[cond_true,Option.some.injEq] at hi
          simp only[Bool.and_eq_true] at hb
          have hstep:=Aa (P:=P) (a:=a) (k:=cY k) (cs:=cs) (w:=w) (rest:=List.range' (i+1) (ops.size-(i+1))) (ow:=ow) h2.1 h2.2 ho hb.1 h0
          have EI:VA g w (pv.getD (.p (.sc .nilIface))) (ow.getD .nilIface):=by
           cases pv with
           |none=>cases ow with
            |none=>exact .p _ _ (.sc _)
            |some _=>exact Bl.elim
           |some u=>cases ow with
            |none=>exact Bl.elim
            |some cv=>exact Bl
          have hput:=h4.put (m':=eY.mem) hb.2 EI (Ext.refl g w) h4.rel h4.fix
          have hcr:cw P E g c (b.atR (a.put o.dst (ow.getD .nilIface)) (.inRegion ops (List.range' (i+1) (ops.size-(i+1)))::cY k)) w:=by
           subst hi
           exact cw.mk (c:=⟨f0,.ops bK ops (i+1) false::k,put {eY with bM:= .late} o.dst (pv.getD (.p (.sc .nilIface)))⟩) (nf trivial hk') h1 (by rw[gT];exact h2) (h3.put (st:={eY with bM:= .late}) (st':={eY with bM:= .late}) (Ext.refl g w) rfl) hput
          obtain⟨g2,NL,w2,cv,w3,r1,r2,r3,r4,r5,r6,r7,r8⟩:=h g _ w ({fr0 with mode:=cg ow true}::cs) hcr
          have hc:c.st.mem=m∧c.st.fix=m.length∧c.st.bM = .late:=by
           subst hi
           refine⟨?_,?_,?_⟩
           · rw[←e1]
             show(put {eY with bM:= .late} o.dst _).mem=eY.mem
             unfold Am.put;cases o.dst<;>rfl
           · rw[←e2]
             show(put {eY with bM:= .late} o.dst _).fix=eY.fix
             unfold Am.put;cases o.dst<;>rfl
           · show(put {eY with bM:= .late} o.dst _).bM = .late
             rw[gT]
          obtain⟨c1,c2,c3⟩:=hc
          rw[c3] at r2
          obtain⟨⟨r2,r2'⟩,rfl⟩:=r2
          rw[c1] at r6
          rw[c2] at r7 r8
          refine⟨_,g2,cv,NL,Rv.trans (.head ?_ r1),r2,r2',r5,r6,r7,r8⟩
          have he:cY (.ops bK ops i sure::k) = .inRegion ops (i::List.range' (i+1) (ops.size-(i+1)))::cY k:=by
           simp only[cY,er,lJ hlt,List.cons_append,List.nil_append]
          rw[he]
          exact hstep
       · cases hi
     · cases hi
   · cases hi
 · cases hi
theorem tS {c c':bJ} {args:List AV} {m:Mem} {ord:List Nat} {dst:Option Tmp} {v:AV} {m1:Mem} (h:Am.step P E c = .round args m ord dst c') (hd:ET P E args m v m1) :
  ∀g fr w,cw P E g c fr w→dI P E g c fr w {c' with st:=back ord dst c'.st v m1}:=by
 intro g fr w hc
 have hs:=fN hc
 rw[h] at hs
 exact hs v m1 hd
theorem nD {c c':bJ} {f:FuncId} {args:List AV} {m:Mem} {ord:List Nat} {L:Nat} {v:AV} {m1 m2:Mem} {pd:Option Code} (h:Am.step P E c = .range f args m ord L c') (hd:aC P E f args m v m1)
  (he:eM (back ord none c'.st v m1).mem L=some (m2,pd)) : ∀g fr w,cw P E g c fr w→dI P E g c fr w (behind c' m2 pd):=by
 intro g fr w hc
 have hs:=fN hc
 rw[h] at hs
 exact hs v m1 hd m2 pd he
theorem Good.Rw {c:bJ} {l:List bJ} {o:Out} (hg : ∀g fr w,cw P E g c fr w→zV P E g c fr w l) (h : ∀c'∈l,Good P E c' o):Good P E c o:=by
 intro g fr w cs hc
 obtain⟨c',hm,g',fr',w',q1,q2,q3,q4,q5,q6,q7⟩:=hg g fr w hc cs
 cases o with
 |ret v m'=>
  obtain⟨g2,NL,w2,cv,w3,r1,r2,r3,r4,r5,r6,r7,r8⟩:=h c' hm g' fr' w' cs q2
  refine⟨g2,NL,w2,cv,w3,q1.trans r1,by rw[←q7];exact r2,r3.trans q5,r4,r5,q3.trans r6,q4.trans ?_,by rw[←q6];exact r8⟩
  rw[←q6];exact r7
 |vO v m'=>
  obtain⟨g2,NL,w2,cv,r1,r2,r3,r4,r5,r6,r7,r8⟩:=h c' hm g' fr' w' cs q2
  refine⟨g2,NL,w2,cv,q1.trans r1,r2,r3.trans q5,r4,r5,q3.trans r6,q4.trans ?_,by rw[←q6];exact r8⟩
  rw[←q6];exact r7
theorem GA {c:bJ} {l:List bJ} (h:Am.step P E c = .fork l) : ∀g fr w,cw P E g c fr w→zV P E g c fr w l:=by
 intro g fr w hc
 have hs:=fN hc
 rw[h] at hs;exact hs
theorem qc {c c':bJ} {bK:Nat} {ops:Array Oper} {O:FuncId→List AV→Mem→Option (AV×Mem)} {st':St} (h:Am.step P E c = .draw bK ops c') (hO : ∀g args m v m1,O g args m=some (v,m1)→aC P E g args m v m1)
  (hq:iz P E c'.f bK O ops c'.st=some (st',true)) : ∀g fr w,cw P E g c fr w→dI P E g c fr w {c' with st:={st' with bU:=c'.st.bU,bM:=c'.st.bM}}:=by
 intro g fr w hc
 have hs:=fN hc
 rw[h] at hs
 exact hs O st' hO hq
def eJ (P:Program) (E:Env) (l:List b9):Prop:= ∀q∈l,aC P E q.g q.args q.m q.v q.m'
theorem oH {K:List b9} (hK:eJ P E K) {g:FuncId} {args:List AV} {m:Mem} {r:AV×Mem} (h:jX K g args m=some r):aC P E g args m r.1 r.2:=by
 induction K with
 |nil=>cases h
 |cons q K ih=>
  simp only[jX] at h
  cases hb:(Nat.beq q.g g&&(jw args q.args&&nR m q.m)) with
  |true=>
   rw[hb] at h
   simp only[cond_true,Option.some.injEq] at h
   subst h
   simp only[Bool.and_eq_true] at hb
   obtain⟨h1,h2,h3⟩:=hb
   have h1:=Nat.eq_of_beq_eq_true h1
   have h2:=eO h2
   have h3:=jz h3
   subst h1;subst h2;subst h3
   exact hK q (.head _)
  |false=>
   rw[hb] at h
   exact ih (fun x hx=>hK x (.tail _ hx)) h
theorem Jj {o p:Out} (h:A5 o p=true):o=p:=by
 cases o with
 |ret v m=>cases p with
  |ret u n=>
   simp only[A5,Bool.and_eq_true] at h
   rw[iZ h.1,jz h.2]
  |vO u n=>cases h
 |vO v m=>cases p with
  |ret u n=>cases h
  |vO u n=>
   simp only[A5,Bool.and_eq_true] at h
   rw[iZ h.1,jz h.2]
theorem xG : ∀{l:List (Option Out)} {o:Out},agree l=some o → ∀x∈l,x=some o
 |[],_,h,_,_=>by cases h
 |[x],o,h,y,hy=>by
  cases hy with
  |head=>exact h
  |tail _ hy=>cases hy
 |x::y::r,o,h,z,hz=>by
  simp only[agree] at h
  split at h
  · rename_i o1 p1 h1
    cases hb:A5 o1 p1 with
    |false=>rw[hb] at h;cases h
    |true=>
     rw[hb] at h
     simp only[cond_true,Option.some.injEq] at h
     subst h
     cases hz with
     |head=>rw[Jj hb]
     |tail _ hz=>exact xG h1 z hz
  · cases h
theorem bI (hN:eZ P) {K:List b9} (hK:eJ P E K) : ∀(n:Nat) (c:bJ) (o:Out),exec P E K n c=some o→Good P E c o
 |0,_,_,h=>by cases h
 |n+1,c,o,h=>by
  unfold exec at h
  split at h
  · rename_i c' hs;exact Good.br (qb hs) (bI hN hK n c' o h)
  · rename_i b c' hs
    cases b with
    |false=>cases h
    |true=>exact Good.br (xD hs) (bI hN hK n c' o h)
  · rename_i b y z hs
    have:=xE hs
    cases b with
    |true=>exact Good.br this (bI hN hK n y o h)
    |false=>exact Good.br this (bI hN hK n z o h)
  · rename_i g args m ord dst c' hs
    split at h
    · rename_i v m1 hk
      exact Good.br (jG hs (oH hK hk)) (bI hN hK n _ o h)
    · split at h
      · rename_i ci hi
        split at h
        · rename_i v m1 he
          have hd:=dS hN hi (bI hN hK n ci _ he)
          exact Good.br (jG hs hd) (bI hN hK n _ o h)
        · rename_i u m1 he
          have hd:=m0 hN hi (bI hN hK n ci _ he)
          exact Good.br (qM hs hd) (bI hN hK n _ o h)
        · cases h
      · cases h
  · rename_i g args m ord pv c' hs
    split at h
    · rename_i ci hi
      split at h
      · rename_i v m1 he
        have hd:=m4 hN hi (bI hN hK n ci _ he)
        exact Good.br (xF hs hd) (bI hN hK n _ o h)
      · cases h
    · cases h
  · rename_i args m ord dst c' hs
    split at h
    · rename_i ci hi
      split at h
      · rename_i v m1 he
        have hd:=m3 hi (bI hN hK n ci _ he)
        exact Good.br (tS hs hd) (bI hN hK n _ o h)
      · cases h
    · cases h
  · rename_i g args m ord L c' hs
    split at h
    · rename_i ci hi
      split at h
      · rename_i v m1 he
        split at h
        · rename_i m2 pd hend
          have hd:=dS hN hi (bI hN hK n ci _ he)
          exact Good.br (nD hs hd hend) (bI hN hK n _ o h)
        · cases h
      · cases h
    · cases h
  · rename_i bK ops c' hs
    split at h
    · rename_i st' ok hq
      cases ok with
      |false=>cases h
      |true=>
       refine Good.br (qc hs (fun g args m v m1 hO=> ?_) hq) (bI hN hK n _ o h)
       split at hO
       · rename_i r hk
         simp only[Option.some.injEq] at hO
         subst hO
         exact oH hK hk
       · split at hO
         · rename_i ci hi
           split at hO
           · rename_i v' Gr he
             simp only[Option.some.injEq,Prod.mk.injEq] at hO
             obtain⟨rfl,rfl⟩:=hO
             exact dS hN hi (bI hN hK n ci _ he)
           · cases hO
         · cases hO
    · cases h
  · rename_i l hs
    exact Good.Rw (GA hs) fun c' eP=>bI hN hK n c' o (xG h _ (List.mem_map.2 ⟨c',eP,rfl⟩))
  · rename_i o' hs
    simp only[Option.some.injEq] at h;subst h
    exact xC hs
  · cases h
theorem wC (hN:eZ P) {K:List b9} (hK:eJ P E K) {n:Nat} {f:FuncId} {args:List AV} {m m':Mem} {v:AV} (h:EE P E K n f args m=some (.ret v m')):aC P E f args m v m':=by
 unfold EE at h
 split at h
 · rename_i c hi;exact dS hN hi (bI hN hK n c _ h)
 · cases h
theorem jH:eJ P E []:=fun _ hq=>by cases hq
theorem fm {q:b9} {K:List b9} (h:aC P E q.g q.args q.m q.v q.m') (hK:eJ P E K):eJ P E (q::K):=by
 intro x hx
 cases hx with
 |head=>exact h
 |tail _ hx=>exact hK x hx
def Jk (P:Program) (E:Env) (c:bJ):Fin→Prop
 |.out o=>Good P E c o
 |.at c'=> ∀o,Good P E c' o→Good P E c o
theorem Jk.br {c c':bJ} {r:Fin} (hg : ∀g fr w,cw P E g c fr w→dI P E g c fr w c') (h:Jk P E c' r):Jk P E c r:=by
 cases r with
 |out o=>exact Good.br hg h
 | «at» c2=>exact fun o ho=>Good.br hg (h o ho)
end
end Go.Am
end
section
namespace Go.Am
noncomputable section
abbrev OpT:=Program→(Nat→bg)→Bool→Nat→(Operand→AV)→Oper→jm
def WI (P:Program) (rd:Nat→bg) (wr:Bool) (bw:Nat) (ρ:Operand→AV) (o:Oper):jm:=qo P rd wr bw ρ o
def QH (x:Operand) (_:Program) (_:Nat→bg) (_:Bool) (_:Nat) (ρ:Operand→AV) (_:Oper):jm:=some (ρ x,[],true)
def WJ (t:TypeId) (a:Operand) (P:Program) (rd:Nat→bg) (_:Bool) (_:Nat) (ρ:Operand→AV) (_:Oper):jm:=fG (jl P rd t (ρ a))
def Rx (t:TypeId) (a v:Operand) (P:Program) (rd:Nat→bg) (_:Bool) (_:Nat) (ρ:Operand→AV) (_:Oper):jm:=nP P rd t (ρ a) (ρ v)
def aab (x:Operand) (P:Program) (_:Nat→bg) (_:Bool) (_:Nat) (ρ:Operand→AV) (o:Oper):jm:=iq (ij P ρ o (ρ x))
def Dt (t:TypeId) (x:Operand) (f:Nat) (P:Program) (_:Nat→bg) (_:Bool) (_:Nat) (ρ:Operand→AV) (_:Oper):jm:=iq (iS P t (ρ x) f)
def Ry (t:TypeId) (x:Operand) (f:Nat) (P:Program) (_:Nat→bg) (_:Bool) (_:Nat) (ρ:Operand→AV) (_:Oper):jm:=fG (rJ P t (ρ x) f)
def Du (t:TypeId) (x i:Operand) (P:Program) (_:Nat→bg) (_:Bool) (_:Nat) (ρ:Operand→AV) (_:Oper):jm:=fG (iT P t (ρ x) (ρ i))
def Rz (t:TypeId) (x i:Operand) (P:Program) (_:Nat→bg) (_:Bool) (_:Nat) (ρ:Operand→AV) (_:Oper):jm:=fG (rK P t (ρ x) (ρ i))
def Jl (s d:TypeId) (x:Operand) (P:Program) (rd:Nat→bg) (_:Bool) (bw:Nat) (ρ:Operand→AV) (o:Oper):jm:=convertOp P rd bw ρ o s d (ρ x)
def aac (op:BinOp) (t:TypeId) (x y:Operand) (P:Program) (_:Nat→bg) (_:Bool) (_:Nat) (ρ:Operand→AV) (o:Oper):jm:=match zp y with
    |true=>rN P op t (ρ x)
    |false=>match Ey (ρ x) (ρ y) with
     |true=>Ez P op t (ρ x) (ρ y)
     |false=>match rM (ρ x) (ρ y) with
      |true=>mz P op t
      |false=>fG (nQ P ρ o op (ρ x) (ρ y))
def oUn (op:UnOp) (x:Operand) (P:Program) (_:Nat→bg) (_:Bool) (_:Nat) (ρ:Operand→AV) (o:Oper):jm:=fG (sk P ρ o op (ρ x))
def RA (t:TypeId) (x:Operand) (lo hi mx:Option Operand) (P:Program) (_:Nat→bg) (_:Bool) (_:Nat) (ρ:Operand→AV) (_:Oper):jm:=fG (mq P ρ t (ρ x) lo hi mx)
def Jm (x:Operand) (i:Nat) (_:Program) (_:Nat→bg) (_:Bool) (_:Nat) (ρ:Operand→AV) (_:Oper):jm:=match ρ x with
    |.aS vs=>iq vs[i]?
    |_=>none
def RB (t:TypeId) (parts:Array (Nat×Operand)) (P:Program) (_:Nat→bg) (_:Bool) (_:Nat) (ρ:Operand→AV) (_:Oper):jm:=fG (rI P t (parts.toList.map fun q=>(q.1,ρ q.2)))
def WK (c a b:Operand) (_:Program) (_:Nat→bg) (_:Bool) (_:Nat) (ρ:Operand→AV) (_:Oper):jm:=match ρ c with
    |.p (.sc (.bool t))=>some (cond t (ρ a) (ρ b),[],true)
    |_=>none
def aad:Op→OpT
 |.binOp op t x y _=>aac op t x y
 |.unOp op _ x=>oUn op x
 |.slice t x lo hi mx=>RA t x lo hi mx
 |.extract x i=>Jm x i
 |.build t parts=>RB t parts
 |.pick c a b=>WK c a b
 |.move x=>QH x
 |.assign x=>QH x
 |.load t a=>WJ t a
 |.store t a v=>Rx t a v
 |.nilCheck x=>aab x
 |.fieldAddr t x f=>Dt t x f
 |.field t x f=>Ry t x f
 |.indexAddr t x i=>Du t x i
 |.index t x i=>Rz t x i
 |.convert s d x=>Jl s d x
 |_=>WI
def opF (P:Program) (rd:Nat→bg) (wr:Bool) (bw:Nat) (ρ:Operand→AV) (o:Oper):jm:=aad o.op P rd wr bw ρ o
theorem RC (P:Program) (rd:Nat→bg) (wr:Bool) (bw:Nat) (ρ:Operand→AV) (o:Oper):opF P rd wr bw ρ o=qo P rd wr bw ρ o:=by
 obtain⟨dst,op,type,pos,after,guard⟩:=o
 cases op<;>rfl
def Jn (tm:rG) (i:Nat):AV:=List.rec (motive:=fun _=>AV) .an (fun p _ ih=>Bool.rec (motive:=fun _=>AV) ih p.2 (Nat.beq p.1 i)) tm
theorem BK : ∀(tm:rG) (i:Nat),Jn tm i=look tm i
 |[],_=>rfl
 |(k,v)::r,i=>by
  show Bool.rec (motive:=fun _=>AV) (Jn r i) v (Nat.beq k i)=cond (Nat.beq k i) v (look r i)
  rw[BK r i]
  cases Nat.beq k i<;>rfl
def WL (t:Nat) (_:Env) (tm:rG):AV:=Jn tm t
def RD (x:Operand) (E:Env) (tm:rG):AV:=ev E tm x
def aaf:Operand→Env→rG→AV
 |.tmp t=>WL t
 |.const v=>fun _ _=>Et v
 |x=>RD x
def WM (E:Env) (tm:rG) (x:Operand):AV:=aaf x E tm
theorem Jo (E:Env) (tm:rG):WM E tm=ev E tm:=by
 funext x
 cases x with
 |tmp t=>exact BK tm t
 |const v=>rfl
 |global g=>rfl
 |func f=>rfl
def Dv:Op→Bool
 |.call _ | .defer _ | .panic _=>true
 |_=>false
def Ab:Op→Bool
 |.alloc _ | .box .. | .buildSlice .. | .makeSlice .. | .convert .. | .makeMap .. | .range .. =>true
 |.call c=>makes ⟨none,.call c,0,"",#[],none⟩
 |_=>false
def NM (ops:Array Oper) (i:Nat):Option Oper:=List.rec (motive:=fun _=>Nat→Option Oper) (fun _=>none) (fun a _ ih i=>Nat.rec (motive:=fun _=>Option Oper) (some a) (fun j _=>ih j) i) ops.toList i
theorem NN (ops:Array Oper) (i:Nat):NM ops i=ops[i]? :=by
 have : ∀(l:List Oper) (i:Nat),List.rec (motive:=fun _=>Nat→Option Oper) (fun _=>none) (fun a _ ih i=>Nat.rec (motive:=fun _=>Option Oper) (some a) (fun j _=>ih j) i) l i=l[i]? :=by
  intro l
  induction l with
  |nil=>intro i;rfl
  |cons a l ih=>
   intro i
   cases i with
   |zero=>rfl
   |succ i=>exact(ih i).trans (by simp)
 rw[NM,this]
 simp
def E0:jm→Option Tmp→FuncId→List It→rG→Nat→Mem→Nat→List Mark→Qy→Ev
 |none=>fun _ _ _ _ _ _ _ _ _=> .fail
 |some (v,[],ok)=>fun dst f k tm nt mem fix bU bM=>Option.rec (motive:=fun _=>Ev) (.must (ok&&true) ⟨f,k,⟨tm,nt,mem,fix,bU,bM⟩⟩) (fun d=> .must (ok&&Nat.blt d nt) ⟨f,k,⟨(d,v)::tm,nt,mem,fix,bU,bM⟩⟩) dst
 |some (v,us,ok)=>fun dst f k tm nt mem fix bU bM=>Option.rec (motive:=fun _=>Ev) (.must (ok&&true) ⟨f,k,⟨tm,nt,apply mem us,fix,bU,bM⟩⟩) (fun d=> .must (ok&&Nat.blt d nt) ⟨f,k,⟨(d,v)::tm,nt,apply mem us,fix,bU,bM⟩⟩) dst
abbrev CQ (α:Type):=Program→Env→FuncId→rG→Nat→Mem→Nat→List Mark→Qy→α
def tT (todo:List It):CQ Ev:=fun P E f tm nt mem fix bU bM=>step P E ⟨f,todo,⟨tm,nt,mem,fix,bU,bM⟩⟩
def NO (o:Oper) (bK:Nat) (ops:Array Oper) (i:Nat) (_:Bool) (k:List It):CQ Ev:=fun P E f tm nt mem fix bU bM=>
 E0 (opF P (fun i=>mem.getD i .dead) (E.wr f (o.dst.getD 0)) mem.length (WM E tm) o) o.dst f (.ops bK ops (i+1) false::k) tm nt mem fix bU bM
def RE (_:Oper) (bK:Nat) (ops:Array Oper) (i:Nat) (sure:Bool) (k:List It):CQ Ev:=tT (.ops bK ops i sure::k)
abbrev DoT:=Oper→Nat→Array Oper→Nat→Bool→List It→CQ Ev
def QI:Bool→Bool→Option (Nat×Bool)→DoT
 |false,false,none=>NO
 |_,_,_=>RE
def Jp:Option Oper→Nat→Array Oper→Nat→Bool→List It→CQ Ev
 |none=>fun _ _ _ _ k _ _ f tm nt mem fix bU bM=> .next ⟨f,k,⟨tm,nt,mem,fix,bU,bM⟩⟩
 |some o=>QI (Dv o.op) (Ab o.op) o.guard o
def RF (i:Nat) (c:Code) (k:List It):CQ Ev:=tT (.code i c::k)
def RG (_:Nat) (k:List It):CQ Ev:=fun _ _ f tm nt mem fix bU bM=> .next ⟨f,k,⟨tm,nt,mem,fix,bU,bM⟩⟩
def WN (id:Nat) (ops:Array Oper) (_:Nat) (k:List It):CQ Ev:=fun _ _ f tm nt mem fix bU bM=> .next ⟨f,.ops id ops 0 false::k,⟨tm,nt,mem,fix,bU,bM⟩⟩
def WO (a b:Code) (i:Nat) (k:List It):CQ Ev:=fun _ _ f tm nt mem fix bU bM=> .next ⟨f,.code i a :: .code (i+nodes a) b::k,⟨tm,nt,mem,fix,bU,bM⟩⟩
def NP (id:Nat) (b:Code) (i:Nat) (k:List It):CQ Ev:=fun _ _ f tm nt mem fix bU bM=> .next ⟨f,.code i b :: .inBlock id::k,⟨tm,nt,mem,fix,bU,bM⟩⟩
def Jq:AV→bJ→bJ→Ev
 |.p (.sc (.bool t))=>fun y z=> .test t y z
 |_=>fun _ _=> .fail
def RH (x:Operand) (a b:Code) (i:Nat) (k:List It):CQ Ev:=fun _ E f tm nt mem fix bU bM=>
 Jq (WM E tm x) ⟨f,.code (i+1) a::dD (E.keep f (2*i)) k,⟨tm,nt,mem,fix,bU,bM⟩⟩ ⟨f,.code (i+1+nodes a) b::dD (E.keep f (2*i)) k,⟨tm,nt,mem,fix,bU,bM⟩⟩
def RI (id:Nat) (i:Nat) (k:List It):CQ Ev:=fun P E f tm nt mem fix bU bM=>Option.rec (motive:=fun _=>Ev) (tT (.code i (.exit id)::k) P E f tm nt mem fix bU bM) (fun k'=> .next ⟨f,k',⟨tm,nt,mem,fix,bU,bM⟩⟩) (bN id k)
def RJ:Code→Nat→List It→CQ Ev
 |.block id b=>NP id b
 |.cond x a b=>RH x a b
 |.exit id=>RI id
 |.skip=>RG
 |.seq a b=>WO a b
 |.region id ops false=>WN id ops
 |c=>fun i k=>RF i c k
def Jr (k:List It):CQ Ev:=fun _ _ f tm nt mem fix bU bM=> .next ⟨f,k,⟨tm,nt,mem,fix,bU,bM⟩⟩
def aag:It→List It→CQ Ev
 |.inBlock _=>Jr
 |.inScope _=>Jr
 |.ops bK ops i sure=>fun k=>Jp (NM ops i) bK ops i sure k
 |.code i c=>fun k=>RJ c i k
 |x=>fun k=>tT (x::k)
def RK:List It→CQ Ev
 |[]=>tT []
 |x::k=>aag x k
def Js (P:Program) (E:Env) (c:bJ):Ev:=bJ.rec (motive:=fun _=>Ev) (fun f todo st=>St.rec (motive:=fun _=>Ev) (fun tm nt mem fix bU bM=>RK todo P E f tm nt mem fix bU bM) st) c
theorem GB (o:Oper):Ab o.op=makes o:=by
 obtain⟨dst,op,type,pos,after,guard⟩:=o
 cases op<;>rfl
theorem Jt (P:Program) (E:Env) (c:bJ):Js P E c=step P E c:=by
 obtain⟨f,todo,tm,nt,mem,fix,bU,bM⟩:=c
 cases todo with
 |nil=>rfl
 |cons x k=>
  cases x with
  |code i c=>
   cases c with
   |region id ops b=>cases b<;>rfl
   |cond x a b=>
    show Jq (WM E tm x) _ _=_
    rw[Jo]
    simp only[step]
    split
    · rename_i t ht;rw[ht];rfl
    · rename_i hne
      generalize ev E tm x=v at hne
      cases v with
      |p v=>cases v with
       |sc v=>cases v with
        |bool t=>exact absurd rfl (hne t)
        |_=>rfl
       |_=>rfl
      |_=>rfl
   |exit id=>
    show Option.rec (motive:=fun _=>Ev) _ _ (bN id k)=_
    cases he:bN id k with
    |none=>rfl
    |some k'=>simp only[step,he]
   |_=>rfl
  |ops bK ops i sure=>
   show Jp (NM ops i) bK ops i sure k P E f tm nt mem fix bU bM=_
   rw[NN]
   cases ho:ops[i]? with
   |none=>simp only[Jp,step,ho]
   |some o=>
    show QI (Dv o.op) (Ab o.op) o.guard o bK ops i sure k P E f tm nt mem fix bU bM=_
    cases h1:Dv o.op with
    |true=>rfl
    |false=>
     cases h2:Ab o.op with
     |true=>rfl
     |false=>
      cases h3:o.guard with
      |some q=>rfl
      |none=>
       rw[GB] at h2
       have ht:target (ev E tm) o=none:=by
        obtain⟨dst,op,type,pos,after,guard⟩:=o
        cases op<;>first | rfl | cases h1
       have hy:rO (ev E tm) o=none:=by
        obtain⟨dst,op,type,pos,after,guard⟩:=o
        cases op<;>first | rfl | cases h1
       show E0 (opF P (fun i=>mem.getD i .dead) (E.wr f (o.dst.getD 0)) mem.length (WM E tm) o) o.dst f (.ops bK ops (i+1) false::k) tm nt mem fix bU bM=_
       rw[RC,Jo]
       have hr:reserve o mem=mem:=by simp[reserve,h2]
       simp only[step,ho,dm,h3,IC,ht,hy,hr]
       cases hop:qo P (fun i=>mem.getD i .dead) (E.wr f (o.dst.getD 0)) mem.length (ev E tm) o with
       |none=>
        clear hop hr hy ht h3 h2 ho
        obtain⟨dst,op,type,pos,after,guard⟩:=o
        cases op<;>first | rfl | cases h1
       |some r=>
        obtain⟨v,us,ok⟩:=r
        cases us with
        |nil=>cases hd:o.dst<;>simp[E0,fits,put,apply]
        |cons u us=>cases hd:o.dst<;>simp[E0,fits,put]
  |_=>rfl
abbrev RunT:=Program→Env→List b9→(bJ→Option Out)→Option Out
def WQ (c:bJ):RunT:=fun _ _ _ ih=>ih c
def WR (b:Bool) (c:bJ):RunT:=fun _ _ _ ih=>Bool.rec (motive:=fun _=>Option Out) none (ih c) b
def WS (b:Bool) (y z:bJ):RunT:=fun _ _ _ ih=>Bool.rec (motive:=fun _=>Option Out) (ih z) (ih y) b
def WT (g:FuncId) (args:List AV) (m:Mem) (ord:List Nat) (dst:Option Tmp) (c:bJ):RunT:=fun P _ K ih=>match jX K g args m with
     |some (v,m1)=>ih {c with st:=back ord dst c.st v m1}
     |none=>match init P g args m with
      |some ci=>match ih ci with
       |some (.ret v m1)=>ih {c with st:=back ord dst c.st v m1}
       |some (.vO u m1)=>ih (kZ ord c u m1)
       |none=>none
      |none=>none
def WU (g:FuncId) (args:List AV) (m:Mem) (ord:List Nat) (pv:Option AV) (c:bJ):RunT:=fun P _ _ ih=>match A6 P g args m pv with
     |some ci=>match ih ci with
      |some (.ret _ m1)=>ih {c with st:=back ord none c.st (.aS []) m1}
      |_=>none
     |none=>none
def RL (args:List AV) (m:Mem) (ord:List Nat) (dst:Option Tmp) (c:bJ):RunT:=fun _ _ _ ih=>match A4 args m with
     |some ci=>match ih ci with
      |some (.ret v m1)=>ih {c with st:=back ord dst c.st v m1}
      |_=>none
     |none=>none
def RM (g:FuncId) (args:List AV) (m:Mem) (ord:List Nat) (L:Nat) (c:bJ):RunT:=fun P _ _ ih=>match init P g args m with
     |some ci=>match ih ci with
      |some (.ret v m1)=>match eM (back ord none c.st v m1).mem L with
       |some (m2,pd)=>ih (behind c m2 pd)
       |none=>none
      |_=>none
     |none=>none
def WV (bK:Nat) (ops:Array Oper) (c:bJ):RunT:=fun P E K ih=>match iz P E c.f bK (fun g args m=>match jX K g args m with
       |some r=>some r
       |none=>match init P g args m with
        |some ci=>match ih ci with
         |some (.ret v m1)=>some (v,m1)
         |_=>none
        |none=>none) ops c.st with
     |some (st,ok)=>cond ok (ih {c with st:={st with bU:=c.st.bU,bM:=c.st.bM}}) none
     |none=>none
def WW (l:List bJ):RunT:=fun _ _ _ ih=>agree (l.map ih)
def WX (o:Out):RunT:=fun _ _ _ _=>some o
def WY:RunT:=fun _ _ _ _=>none
def QJ:Ev→RunT
 |.next c=>WQ c
 |.must b c=>WR b c
 |.test b y z=>WS b y z
 |.call g args m ord dst c=>WT g args m ord dst c
 |.round args m ord dst c=>RL args m ord dst c
 |.range g args m ord L c=>RM g args m ord L c
 |.draw bK ops c=>WV bK ops c
 |.fork l=>WW l
 |.late g args m ord pv c=>WU g args m ord pv c
 |.done o=>WX o
 |.fail=>WY
def Ju (P:Program) (E:Env) (K:List b9) (n:Nat):bJ→Option Out:=
 Nat.rec (motive:=fun _=>bJ→Option Out) (fun _=>none) (fun _ ih c=>QJ (Js P E c) P E K ih) n
theorem BL (P:Program) (E:Env) (K:List b9) : ∀n,Ju P E K n=exec P E K n
 |0=>by funext c;rfl
 |n+1=>by
  funext c
  show QJ (Js P E c) P E K (Ju P E K n)=exec P E K (n+1) c
  rw[Jt,BL P E K n]
  unfold exec
  cases step P E c with
  |must b c=>cases b<;>rfl
  |test b y z=>cases b<;>rfl
  |_=>rfl
def Ac (P:Program) (E:Env) (K:List b9) (n:Nat) (g:FuncId) (args:List AV) (m:Mem):Option Out:=
 match init P g args m with
 |some c=>Ju P E K n c
 |none=>none
theorem GC (P:Program) (E:Env) (K:List b9) (n:Nat) (g:FuncId) (args:List AV) (m:Mem):Ac P E K n g args m=EE P E K n g args m:=by
 unfold Ac EE
 rw[BL]
 cases init P g args m<;>rfl
theorem ec {P:Program} {E:Env} (hN:eZ P) {K:List b9} (hK:eJ P E K) {n:Nat} {f:FuncId} {args:List AV} {m m':Mem} {v:AV} (h:Ac P E K n f args m=some (.ret v m')):aC P E f args m v m':=
 wC hN hK (n:=n) (by rw[←GC];exact h)
end
end Go.Am
end
section
namespace Go.Am
open Go.RowKit
inductive Tree where
 |out (o:Out)
 |at(c:bJ)
 |must (b:Bool) (t:Tree)
 |need (p:Prop) (t:Tree)
 |test (b:Bool) (y z:Tree)
 |call (q:b9) (t:Tree)
 |stuck
structure bu where
 call:FuncId→List AV→Mem→Option (AV×Mem)
 tU:FuncId→List AV→Mem→Option (AV×Mem):=fun _ _ _=>none
 cut:FuncId→Nat→Bool
 fork:FuncId→Nat→Nat→Bool
 hard:FuncId→Nat→Nat→Bool
 shape:FuncId→Nat→Nat→Option (AV→AV)
def place (c:bJ):Nat×Nat:=match c.todo with
 |.code i _::_=>(0,i)
 |.ops bK _ k _::_=>(bK+1,k)
 |_=>(0,0)
def cutAt (O:bu) (c:bJ):Bool:=match c.todo with
 |.inLoop i _::_=>O.cut c.f i
 |.code i (.loop _)::_=>O.cut c.f i
 |_=>false
def Dw (c:bJ):Option Tmp:=match c.todo with
 |.ops _ ops k _::_=>match ops[k]? with
  |some o=>o.dst
  |none=>none
 |_=>none
def QK (c:bJ):Bool:=match c.todo with
 |.ops .. :: _=>true
 |_=>false
def reshape (sh:AV→AV) (d:Tmp) (c:bJ):bJ:={c with st:=put c.st (some d) (sh (look c.st.tm d))}
def shaped (sh:Option (AV→AV)) (d:Option Tmp) (c:bJ) (k:bJ→Tree):Tree:=
 match sh,d,QK c with
 |some sh,some d,true=> .need (look c.st.tm d=sh (look c.st.tm d)) (k (reshape sh d c))
 |_,_,_=>k c
def Ad (h b:Bool) (t:Tree):Tree:=
 match h with
 |true=> .must b t
 |false=>match b with
  |true=>t
  |false=> .stuck
inductive Sc where
 |fork (y z:Sc)
 |yes (s:Sc)
 |no (s:Sc)
 |lit (s:Sc)
 |ans (g:FuncId) (v:AV) (m:Mem) (s:Sc)
 |tU (f bK:Nat) (L:FuncId→List AV→Mem→Option (AV×Mem)) (s:Sc)
 |fin
def NQ (g:FuncId):Sc→Option (AV×Mem×Sc)
 |.ans h v m s=>cond (Nat.beq h g) (some (v,m,s)) none
 |_=>none
def NR (f bK:Nat):Sc→Option ((FuncId→List AV→Mem→Option (AV×Mem))×Sc)
 |.tU f' aah L s=>cond (Nat.beq f f'&&Nat.beq bK aah) (some (L,s)) none
 |_=>none
def lT (E:Env) (O:FuncId→List AV→Mem→Option (AV×Mem)) (o:Oper) (st:St):List b9:=
 match target (ev E st.tm) o with
 |some (g,args)=>match O g (dO (idx (close st.mem 0 args)) args) (pack st.mem (close st.mem 0 args)) with
  |some (v,m1)=>[⟨g,dO (idx (close st.mem 0 args)) args,pack st.mem (close st.mem 0 args),v,m1⟩]
  |none=>[]
 |none=>[]
def m5 (P:Program) (E:Env) (f bK:Nat) (O:FuncId→List AV→Mem→Option (AV×Mem)) (ops:Array Oper):List Oper→Nat→St→List b9
 |[],_,_=>[]
 |o::r,nx,st=>
  let skip:=m5 P E f bK O ops r nx (put st o.dst (.aS []))
  let nT:=lT E O o st++match gK P E f bK O nx o st with
   |some (d,iy,_)=>m5 P E f bK O ops r iy (put {st with mem:=apply st.mem d.us} o.dst d.v)
   |none=>[]
  match dm ops st.tm o with
  |.yes=>nT
  |.no=>skip
  |.ask _ b want=>match b==want with
   |true=>nT
   |false=>skip
  |.lost=>[]
def asked (P:Program) (E:Env) (f bK:Nat) (O:FuncId→List AV→Mem→Option (AV×Mem)) (ops:Array Oper) (st:St):List b9:=
 m5 P E f bK O ops (ops.toList.take (eW ops)) st.mem.length {st with mem:=st.mem++eg (60+ops.size)}
def Ae:List b9→Tree→Tree
 |[],t=>t
 |q::r,t=> .call q (Ae r t)
def grow (P:Program) (E:Env) (O:bu):Nat→Bool→bJ→Sc→(Out→Sc→Tree)→Tree
 |0,_,_,_,_=> .stuck
 |n+1,top,c,s,K=>match cutAt O c with
  |true=>match top,step P E c with
   |true,.next c'=> .at c'
   |_,_=> .stuck
  |false=>match step P E c with
   |.next c'=>grow P E O n top c' s K
   |.must b c'=>
    Ad (O.hard c.f (place c).1 (place c).2) b (shaped (O.shape c.f (place c).1 (place c).2) (Dw c) c' fun c=>grow P E O n top c s K)
   |.test b y z=>match O.fork c.f (place c).1 (place c).2 with
    |true=>match s with
     |.fork s s'=> .test b (grow P E O n top y s K) (grow P E O n top z s' K)
     |.yes s=> .must b (grow P E O n top y s K)
     |.no s=> .must (!b) (grow P E O n top z s K)
     |.lit s=>match b with
      |true=>grow P E O n top y s K
      |false=>grow P E O n top z s K
     |s=> .test b (grow P E O n top y s K) (grow P E O n top z s K)
    |false=>match b with
     |true=>grow P E O n top y s K
     |false=>grow P E O n top z s K
   |.call g args m ord dst c'=>match NQ g s with
    |some (v,m1,s)=> .call ⟨g,args,m,v,m1⟩ (shaped (O.shape c.f (place c).1 (place c).2) (Dw c) {c' with st:=back ord dst c'.st v m1} fun c=>grow P E O n top c s K)
    |none=>match O.call g args m with
     |some (v,m1)=> .call ⟨g,args,m,v,m1⟩ (shaped (O.shape c.f (place c).1 (place c).2) (Dw c) {c' with st:=back ord dst c'.st v m1} fun c=>grow P E O n top c s K)
     |none=>match init P g args m with
      |some ci=>grow P E O n false ci s fun o s=>match o with
       |.ret v m1=>grow P E O n top {c' with st:=back ord dst c'.st v m1} s K
       |.vO u m1=>grow P E O n top (kZ ord c' u m1) s K
      |none=> .stuck
   |.late g args m ord pv c'=>match A6 P g args m pv with
    |some ci=>grow P E O n false ci s fun o s=>match o with
     |.ret _ m1=>grow P E O n top {c' with st:=back ord none c'.st (.aS []) m1} s K
     |.vO .. => .stuck
    |none=> .stuck
   |.round args m ord dst c'=>match A4 args m with
    |some ci=>grow P E O n false ci s fun o s=>match o with
     |.ret v m1=>grow P E O n top {c' with st:=back ord dst c'.st v m1} s K
     |.vO .. => .stuck
    |none=> .stuck
   |.range g args m ord L c'=>match O.call g args m with
    |some (v,m1)=>match eM (back ord none c'.st v m1).mem L with
      |some (m2,pd)=> .call ⟨g,args,m,v,m1⟩ (grow P E O n top (behind c' m2 pd) s K)
      |none=> .stuck
    |none=>match init P g args m with
     |some ci=>grow P E O n false ci s fun o s=>match o with
      |.ret v m1=>match eM (back ord none c'.st v m1).mem L with
       |some (m2,pd)=>grow P E O n top (behind c' m2 pd) s K
       |none=> .stuck
      |.vO .. => .stuck
     |none=> .stuck
   |.draw bK ops c'=>match NR c'.f bK s with
    |some (L,s)=>match iz P E c'.f bK L ops c'.st with
     |some (st,ok)=>Ae (asked P E c'.f bK L ops c'.st) (Ad (O.hard c.f (place c).1 (place c).2) ok (grow P E O n top {c' with st:={st with bU:=c'.st.bU,bM:=c'.st.bM}} s K))
     |none=> .stuck
    |none=>match iz P E c'.f bK O.tU ops c'.st with
     |some (st,ok)=>Ae (asked P E c'.f bK O.tU ops c'.st) (Ad (O.hard c.f (place c).1 (place c).2) ok (grow P E O n top {c' with st:={st with bU:=c'.st.bU,bM:=c'.st.bM}} s K))
     |none=> .stuck
   |.done o=>K o s
   |_=> .stuck
def Tree.ok (P:Program) (E:Env) (o:Out):Tree→Prop
 |.out o'=>o'=o
 |.at c=>Good P E c o
 |.must b t=>b=true∧t.ok P E o
 |.need p t=>p∧t.ok P E o
 |.test b y z=>(b=true→y.ok P E o)∧(b=false→z.ok P E o)
 |.call q t=>aC P E q.g q.args q.m q.v q.m'∧t.ok P E o
 |.stuck=>False
section
variable {P:Program} {E:Env}
theorem tV {sh:AV→AV} {d:Tmp} {c:bJ} {o:Out} (hin:QK c=true) (h:look c.st.tm d=sh (look c.st.tm d)) (hg:Good P E (reshape sh d c) o):Good P E c o:=by
 intro g fr w cs hc
 have eP:cw P E g (reshape sh d c) fr w:=by
  obtain⟨f,todo,st⟩:=c
  cases todo with
  |nil=>cases hin
  |cons x k=>
   cases x with
   |ops bK ops i sure=>
    obtain⟨b,a,q1,q2,q3,q4,q5,q6⟩:=hc
    exact⟨b,a,q1,q2,q3,q4,q5.known (h▸q5.tm d),q6⟩
   |_=>cases hin
 exact hg g fr w cs eP
theorem qd {h b:Bool} {t:Tree} {o:Out} (k:(Ad h b t).ok P E o):b=true∧t.ok P E o:=by
 cases h with
 |true=>exact k
 |false=>cases b with
  |true=>exact⟨rfl,k⟩
  |false=>exact k.elim
def dB (P:Program) (E:Env) (top:Bool) (c:bJ) (K:Out→Sc→Tree) (o:Out):Prop:=(∃o1 s1,Good P E c o1∧(K o1 s1).ok P E o)∨(top=true∧Good P E c o)
theorem dB.br {top:Bool} {c c':bJ} {K:Out→Sc→Tree} {o:Out} (hg : ∀g fr w,cw P E g c fr w→dI P E g c fr w c') (h:dB P E top c' K o):dB P E top c K o:=by
 rcases h with⟨o1,s1,h1,h2⟩ | ⟨h1,h2⟩
 · exact .inl ⟨o1,s1,Good.br hg h1,h2⟩
 · exact .inr ⟨h1,Good.br hg h2⟩
theorem j9 {top:Bool} {sh:Option (AV→AV)} {d:Option Tmp} {c:bJ} {k:bJ→Tree} {K:Out→Sc→Tree} {o:Out} (hk : ∀c,(k c).ok P E o→dB P E top c K o) (h:(shaped sh d c k).ok P E o):dB P E top c K o:=by
 unfold shaped at h
 split at h
 · rename_i hin
   rcases hk _ h.2 with⟨o1,s1,h1,h2⟩ | ⟨h1,h2⟩
   · exact .inl ⟨o1,s1,tV hin h.1 h1,h2⟩
   · exact .inr ⟨h1,tV hin h.1 h2⟩
 · exact hk c h
def WZ (P:Program) (E:Env) (call:FuncId→List AV→Mem→Option (AV×Mem)):Prop:= ∀g args m v m1,call g args m=some (v,m1)→aC P E g args m v m1
theorem mJ {t:Tree} {o:Out} : ∀{l:List b9},(Ae l t).ok P E o→eJ P E l∧t.ok P E o
 |[],h=>⟨fun _ hq=>(by cases hq),h⟩
 |q::l,h=>⟨fun q' hq=>by
   cases hq with
   |head=>exact h.1
   |tail _ hq=>exact(mJ (l:=l) h.2).1 q' hq,(mJ (l:=l) h.2).2⟩
open Classical in
noncomputable def only(O:FuncId→List AV→Mem→Option (AV×Mem)) (l:List b9) (g:FuncId) (args:List AV) (m:Mem):Option (AV×Mem):=
 if ∃q∈l,q.g=g∧q.args=args∧q.m=m then O g args m else none
theorem NS {O:FuncId→List AV→Mem→Option (AV×Mem)} {l:List b9} {g:FuncId} {args:List AV} {m:Mem} (h : ∃q∈l,q.g=g∧q.args=args∧q.m=m):only O l g args m=O g args m:=by
 unfold only;rw[if_pos h]
theorem Af {f bK:Nat} {O O':FuncId→List AV→Mem→Option (AV×Mem)} {nx:Nat} {o:Oper} {st:St} (h : ∀q∈lT E O o st,O' q.g q.args q.m=O q.g q.args q.m) {r:fo×Nat×Bool} (hr:mB P E f bK O nx o st=some r):mB P E f bK O' nx o st=some r:=by
 unfold mB at hr ⊢
 unfold lT at h
 cases ht:target (ev E st.tm) o with
 |none=>simp only[ht] at hr ⊢;exact hr
 |some ga=>
  obtain⟨g,args⟩:=ga
  simp only[ht] at hr h ⊢
  cases hO:O g (dO (idx (close st.mem 0 args)) args) (pack st.mem (close st.mem 0 args)) with
  |none=>simp only[hO] at hr;cases hr
  |some vm=>
   obtain⟨v,m1⟩:=vm
   simp only[hO] at h hr
   have:=h _ (.head _)
   simp only at this
   rw[this,hO]
   exact hr
theorem BM {f bK:Nat} {O O':FuncId→List AV→Mem→Option (AV×Mem)} {nx:Nat} {o:Oper} {st:St} (h : ∀q∈lT E O o st,O' q.g q.args q.m=O q.g q.args q.m) {r:fo×Nat×Bool} (hr:gK P E f bK O nx o st=some r):gK P E f bK O' nx o st=some r:=by
 unfold gK at hr ⊢
 cases hl:mB P E f bK O nx o st with
 |none=>
  rw[hl] at hr
  unfold ED at hr
  split at hr<;>cases hr
 |some x=>
  rw[Af h hl]
  rw[hl] at hr
  exact hr
theorem nE {f bK:Nat} {O O':FuncId→List AV→Mem→Option (AV×Mem)} {ops:Array Oper} : ∀(l:List Oper) (nx:Nat) (st:St) (r:St×Nat×List fo×Bool),(∀q∈m5 P E f bK O ops l nx st,O' q.g q.args q.m=O q.g q.args q.m)→fR P E f bK O ops l nx st=some r→fR P E f bK O' ops l nx st=some r
 |[],_,_,_,_,h=>h
 |o::l,nx,st,r,ha,h=>by
  unfold fR at h ⊢
  unfold m5 at ha
  have QL : ∀r,(∀q∈m5 P E f bK O ops l nx (put st o.dst (.aS [])),O' q.g q.args q.m=O q.g q.args q.m) →
    (match fR P E f bK O ops l nx (put st o.dst (.aS [])) with
      |some (st',mT,ds,ok)=>some (st',mT,(⟨.aS [],[],[],fun _ _=>false⟩:fo)::ds,fits st o.dst&&ok)
      |none=>none)=some r →
    (match fR P E f bK O' ops l nx (put st o.dst (.aS [])) with
      |some (st',mT,ds,ok)=>some (st',mT,(⟨.aS [],[],[],fun _ _=>false⟩:fo)::ds,fits st o.dst&&ok)
      |none=>none)=some r:=by
   intro r hq hr
   cases hg:fR P E f bK O ops l nx (put st o.dst (.aS [])) with
   |none=>rw[hg] at hr;cases hr
   |some x=>rw[nE l nx _ x hq hg];rw[hg] at hr;exact hr
  have Rm : ∀r,(∀q∈lT E O o st++(match gK P E f bK O nx o st with
        |some (d,iy,_)=>m5 P E f bK O ops l iy (put {st with mem:=apply st.mem d.us} o.dst d.v)
        |none=>[]),O' q.g q.args q.m=O q.g q.args q.m) →
    (match gK P E f bK O nx o st with
      |some (d,iy,ok)=>match fR P E f bK O ops l iy (put {st with mem:=apply st.mem d.us} o.dst d.v) with
       |some (st',mT,ds,ok')=>some (st',mT,d::ds,ok&&(fits st o.dst&&ok'))
       |none=>none
      |none=>none)=some r →
    (match gK P E f bK O' nx o st with
      |some (d,iy,ok)=>match fR P E f bK O' ops l iy (put {st with mem:=apply st.mem d.us} o.dst d.v) with
       |some (st',mT,ds,ok')=>some (st',mT,d::ds,ok&&(fits st o.dst&&ok'))
       |none=>none
      |none=>none)=some r:=by
   intro r hq hr
   cases h1:gK P E f bK O nx o st with
   |none=>rw[h1] at hr;cases hr
   |some x=>
    obtain⟨d,iy,ok⟩:=x
    rw[BM (fun q hm=>hq q (List.mem_append.2 (.inl hm))) h1]
    rw[h1] at hr hq
    dsimp only at hr hq ⊢
    cases hg:fR P E f bK O ops l iy (put {st with mem:=apply st.mem d.us} o.dst d.v) with
    |none=>rw[hg] at hr;cases hr
    |some y=>rw[nE l iy _ y (fun q hm=>hq q (List.mem_append.2 (.inr hm))) hg];rw[hg] at hr;exact hr
  dsimp only at h ha ⊢
  cases hw:dm ops st.tm o with
  |yes=>simp only[hw] at h ha ⊢;exact Rm r ha h
  |no=>simp only[hw] at h ha ⊢;exact QL r ha h
  |lost=>simp only[hw] at h;cases h
  |ask d b want=>
   simp only[hw] at h ha ⊢
   cases hb:b==want with
   |true=>simp only[hb] at h ha ⊢;exact Rm r ha h
   |false=>simp only[hb] at h ha ⊢;exact QL r ha h
theorem xH {f bK:Nat} {O:FuncId→List AV→Mem→Option (AV×Mem)} {ops:Array Oper} {st:St} {r:St×Bool} (h:iz P E f bK O ops st=some r):iz P E f bK (only O (asked P E f bK O ops st)) ops st=some r:=by
 unfold iz at h ⊢
 cases hg:fR P E f bK O ops (ops.toList.take (eW ops)) st.mem.length {st with mem:=st.mem++eg (60+ops.size)} with
 |none=>rw[hg] at h;cases h
 |some x=>
  rw[nE (O':=only O (asked P E f bK O ops st)) _ _ _ x (fun q hq=>NS ⟨q,hq,rfl,rfl,rfl⟩) hg]
  rw[hg] at h;exact h
theorem GD {O:FuncId→List AV→Mem→Option (AV×Mem)} {o:Oper} {st:St} {q:b9} (h:q∈lT E O o st):O q.g q.args q.m=some (q.v,q.m'):=by
 unfold lT at h
 split at h
 · split at h
   · rename_i hO
     cases h with
     |head=>exact hO
     |tail _ h=>cases h
   · cases h
 · cases h
theorem oI {f bK:Nat} {O:FuncId→List AV→Mem→Option (AV×Mem)} {ops:Array Oper} : ∀(l:List Oper) (nx:Nat) (st:St) (q:b9),q∈m5 P E f bK O ops l nx st→O q.g q.args q.m=some (q.v,q.m')
 |[],_,_,_,h=>by cases h
 |o::l,nx,st,q,h=>by
  unfold m5 at h
  have Rm:q∈lT E O o st++(match gK P E f bK O nx o st with
        |some (d,iy,_)=>m5 P E f bK O ops l iy (put {st with mem:=apply st.mem d.us} o.dst d.v)
        |none=>[])→O q.g q.args q.m=some (q.v,q.m'):=by
   intro h
   rcases List.mem_append.1 h with h | h
   · exact GD h
   · split at h
     · exact oI l _ _ q h
     · cases h
  dsimp only at h
  split at h
  · exact Rm h
  · exact oI l _ _ q h
  · split at h
    · exact Rm h
    · exact oI l _ _ q h
  · cases h
theorem tW {f bK:Nat} {O:FuncId→List AV→Mem→Option (AV×Mem)} {ops:Array Oper} {st:St} (h:eJ P E (asked P E f bK O ops st)):WZ P E (only O (asked P E f bK O ops st)):=by
 intro g args m v m1 hO
 unfold only at hO
 split at hO
 · rename_i hq
   obtain⟨q,hm,rfl,rfl,rfl⟩:=hq
   have:=oI _ _ _ q hm
   rw[this] at hO
   obtain⟨rfl,rfl⟩:q.v=v∧q.m'=m1:=by simpa using hO
   exact h q hm
 · cases hO
theorem bn (hN:eZ P) {O:bu} {o:Out} : ∀(n:Nat) (top:Bool) (c:bJ) (s:Sc) (K:Out→Sc→Tree),(grow P E O n top c s K).ok P E o→dB P E top c K o
 |0,_,_,_,_,h=>h.elim
 |n+1,top,c,s,K,h=>by
  unfold grow at h
  split at h
  · split at h
    · rename_i c' hs;exact .inr ⟨rfl,Good.br (qb hs) h⟩
    · exact h.elim
  · split at h
    · rename_i c' hs;exact dB.br (qb hs) (bn hN n top c' s K h)
    · rename_i b c' hs
      obtain⟨rfl,hb⟩:=qd h
      exact dB.br (xD hs) (j9 (fun c=>bn hN n top c s K) hb)
    · rename_i b y z hs
      have gt:=xE hs
      split at h
      · split at h
        · cases b with
          |true=>exact dB.br gt (bn hN n top y _ K (h.1 rfl))
          |false=>exact dB.br gt (bn hN n top z _ K (h.2 rfl))
        · obtain⟨rfl,h⟩:=h
          exact dB.br gt (bn hN n top y _ K h)
        · obtain⟨hb,h⟩:=h
          cases b with
          |true=>cases hb
          |false=>exact dB.br gt (bn hN n top z _ K h)
        · cases b with
          |true=>exact dB.br gt (bn hN n top y _ K h)
          |false=>exact dB.br gt (bn hN n top z _ K h)
        · cases b with
          |true=>exact dB.br gt (bn hN n top y _ K (h.1 rfl))
          |false=>exact dB.br gt (bn hN n top z _ K (h.2 rfl))
      · cases b with
        |true=>exact dB.br gt (bn hN n top y _ K h)
        |false=>exact dB.br gt (bn hN n top z _ K h)
    · rename_i f args m ord dst c' hs
      split at h
      · rename_i v m1 s' _
        exact dB.br (jG hs h.1) (j9 (fun c=>bn hN n top c s' K) h.2)
      split at h
      · exact dB.br (jG hs h.1) (j9 (fun c=>bn hN n top c s K) h.2)
      · split at h
        · rename_i ci hi
          rcases bn hN n false ci s _ h with⟨o1,s1,h1,h2⟩ | ⟨h1,_⟩
          · cases o1 with
            |ret v m1=>exact dB.br (jG hs (dS hN hi h1)) (bn hN n top _ s1 K h2)
            |vO v m1=>exact dB.br (qM hs (m0 hN hi h1)) (bn hN n top _ s1 K h2)
          · cases h1
        · exact h.elim
    · rename_i g args m ord pv c' hs
      split at h
      · rename_i ci hi
        rcases bn hN n false ci s _ h with⟨o1,s1,h1,h2⟩ | ⟨h1,_⟩
        · cases o1 with
          |ret v m1=>exact dB.br (xF hs (m4 hN hi h1)) (bn hN n top _ s1 K h2)
          |vO v m1=>exact h2.elim
        · cases h1
      · exact h.elim
    · rename_i args m ord dst c' hs
      split at h
      · rename_i ci hi
        rcases bn hN n false ci s _ h with⟨o1,s1,h1,h2⟩ | ⟨h1,_⟩
        · cases o1 with
          |ret v m1=>exact dB.br (tS hs (m3 hi h1)) (bn hN n top _ s1 K h2)
          |vO v m1=>exact h2.elim
        · cases h1
      · exact h.elim
    · rename_i g args m ord L c' hs
      split at h
      · split at h
        · rename_i m2 pd hend
          exact dB.br (nD hs h.1 hend) (bn hN n top _ s K h.2)
        · exact h.elim
      split at h
      · rename_i ci hi
        rcases bn hN n false ci s _ h with⟨o1,s1,h1,h2⟩ | ⟨h1,_⟩
        · cases o1 with
          |ret v m1=>
           dsimp only at h2
           split at h2
           · rename_i m2 pd hend
             exact dB.br (nD hs (dS hN hi h1) hend) (bn hN n top _ s1 K h2)
           · exact h2.elim
          |vO v m1=>exact h2.elim
        · cases h1
      · exact h.elim
    · rename_i bK ops c' hs
      split at h
      · rename_i L s' _
        split at h
        · rename_i st ok hq
          obtain⟨hcs,h⟩:=mJ h
          obtain⟨rfl,hb⟩:=qd h
          exact dB.br (qc hs (tW hcs) (xH hq)) (bn hN n top _ s' K hb)
        · exact h.elim
      split at h
      · rename_i st ok hq
        obtain⟨hcs,h⟩:=mJ h
        obtain⟨rfl,hb⟩:=qd h
        exact dB.br (qc hs (tW hcs) (xH hq)) (bn hN n top _ s K hb)
      · exact h.elim
    · rename_i o' hs
      exact .inl ⟨o',s,xC hs,h⟩
    · exact h.elim
def atEnd (o:Out) (_:Sc):Tree:= .out o
theorem aa (hN:eZ P) {O:bu} {n:Nat} {c:bJ} {s:Sc} {t:Tree} {o:Out} (ht:grow P E O n true c s atEnd=t) (h:t.ok P E o):Good P E c o:=by
 subst ht
 rcases bn hN n true c s atEnd h with⟨o1,s1,h1,h2⟩ | ⟨_,h1⟩
 · have:o1=o:=h2
   exact this▸h1
 · exact h1
def aR (P:Program) (E:Env) (O:bu) (n:Nat) (f:FuncId) (args:List AV) (m:Mem) (s:Sc):Tree:=
 match init P f args m with
 |some c=>grow P E O n true c s atEnd
 |none=> .stuck
theorem ah (hN:eZ P) {O:bu} {n:Nat} {f:FuncId} {args:List AV} {m m':Mem} {s:Sc} {v:AV} {t:Tree} (ht:aR P E O n f args m s=t) (h:t.ok P E (.ret v m')):aC P E f args m v m':=by
 subst ht
 unfold aR at h
 split at h
 · rename_i c hi;exact dS hN hi (aa hN rfl h)
 · exact h.elim
theorem Dx {P:Program} (h:(P.funcs.toList.all fun fn=> !(fn.name == "runtime.NumGoroutine"))=true):eZ P:=by
 intro f fn hf
 rw[List.all_eq_true] at h
 have:=h fn (by rw[←Array.getElem?_toList] at hf;exact List.mem_of_getElem? hf)
 simpa using this
def fO (E:Env) (f t:Nat):Code→Nat→List It→Option (Code×List It)
 |.loop b,i,k=>match Nat.beq i t with
  |true=>some (b,k)
  |false=>fO E f t b (i+1) (.inLoop i b::dD (E.keep f (2*i+1)) k)
 |.seq a b,i,k=>match fO E f t a i (.code (i+nodes a) b::k) with
  |some r=>some r
  |none=>fO E f t b (i+nodes a) k
 |.cond _ a b,i,k=>match fO E f t a (i+1) (dD (E.keep f (2*i)) k) with
  |some r=>some r
  |none=>fO E f t b (i+1+nodes a) (dD (E.keep f (2*i)) k)
 |.block id b,i,k=>fO E f t b i (.inBlock id::k)
 |.scope b,i,k=>fO E f t b i (.inScope b::k)
 |_,_,_=>none
def af (P:Program) (E:Env) (f t:Nat) (vs:List AV) (m:Mem) (fix nt:Nat):bJ:=
 match P.funcs[f]? with
 |some fn=>match fn.body with
  |some c=>match fO E f t c 0 [] with
   |some (b,k)=>⟨f,.code (t+1) b :: .inLoop t b::dD (E.keep f (2*t+1)) k,⟨((E.keep f (2*t)).getD []).zip vs,nt,m,fix,[],.call⟩⟩
   |none=>⟨f,[],⟨[],0,[],0,[],.call⟩⟩
  |none=>⟨f,[],⟨[],0,[],0,[],.call⟩⟩
 |none=>⟨f,[],⟨[],0,[],0,[],.call⟩⟩
def Dy (l:List (Nat×Nat×Nat)) (f a b:Nat):Bool:=match l with
 |[]=>false
 |(f',a',b')::r=>cond (Nat.beq f f') (cond (Nat.beq a a') (cond (Nat.beq b b') true (Dy r f a b)) (Dy r f a b)) (Dy r f a b)
def E1 (l:List (Nat×Nat)) (f a:Nat):Bool:=match l with
 |[]=>false
 |(f',a')::r=>cond (Nat.beq f f') (cond (Nat.beq a a') true (E1 r f a)) (E1 r f a)
def Jv (rows:List (Nat×Nat×List Nat)) (f j:Nat):Option (List Nat):=match rows with
 |[]=>none
 |(f',j',l)::r=>cond (Nat.beq f f'&&Nat.beq j j') (some l) (Jv r f j)
def az (_:FuncId) (_:List AV) (_:Mem):Option (AV×Mem):=none
def aK (call tU:FuncId→List AV→Mem→Option (AV×Mem)) (RN:List (Nat×Nat)) (Jw Jx:List (Nat×Nat×Nat)):bu where
 call:=call
 tU:=tU
 cut:=E1 RN
 fork:=Dy Jw
 hard:=Dy Jx
 shape _ _ _:=none
def dw (l:List (Nat×Nat×Nat×AV)) (f a b:Nat):Option (AV→AV):=match l with
 |[]=>none
 |(f',a',b',v)::r=>cond (Nat.beq f f'&&(Nat.beq a a'&&Nat.beq b b')) (some fun _=>v) (dw r f a b)
def kM (call tU:FuncId→List AV→Mem→Option (AV×Mem)) (RN:List (Nat×Nat)) (Jw Jx:List (Nat×Nat×Nat)) (shape:FuncId→Nat→Nat→Option (AV→AV)):bu where
 call:=call
 tU:=tU
 cut:=E1 RN
 fork:=Dy Jw
 hard:=Dy Jx
 shape:=shape
def fq (t:Nat):Code→Nat→Option (Array Tmp×Code×Code)
 |.rangeFunc _ ps as bd,i=>cond (Nat.beq i t) (some (ps,as,bd)) none
 |.seq a b,i=>match fq t a i with
  |some r=>some r
  |none=>fq t b (i+nodes a)
 |.cond _ a b,i=>match fq t a (i+1) with
  |some r=>some r
  |none=>fq t b (i+1+nodes a)
 |.block _ b,i=>fq t b i
 |.scope b,i=>fq t b i
 |.loop b,i=>fq t b (i+1)
 |_,_=>none
def dJ (P:Program) (f t:Nat) (st:LoopState) (pd:Option Code):jQ:=
 match P.funcs[f]? with
 |some fn=>match fn.body with
  |some c=>match fq t c 0 with
   |some (ps,as,bd)=> .loop f ps as bd st pd
   |none=> .Qx
  |none=> .Qx
 |none=> .Qx
end
end Go.Am
end
