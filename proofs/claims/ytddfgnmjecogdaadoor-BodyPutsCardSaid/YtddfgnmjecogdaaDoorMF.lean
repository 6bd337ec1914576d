/-
A function's end; every step.
A range over a function, on the side of the one who ranges: the record is laid, the function is called, the pending jump is told.
Every step of the executor is the machine's.
Runs to the end, and runs along one way: what they tell is so.
The executor again, cut so that the kernel goes through it fast: what is chosen between is closed, and a state's parts are handed on as they are. It is the same function.
Trees: all ways through code at once, with callees answered by functions; a tree that is right makes its code right.
-/
import Derived.Test.YtddfgnmjecogdaaDoorME
import Derived.RangeFuncLeaves
import Derived.RangeFuncIn
import Derived.RangeFuncRecord
section
namespace Go.Am
open Go.RowKit
section
variable {P:Program} {E:Env} {g:Gh} {w:World}
def Ar (a:Act):ResultVar→Sem Value
 |.tmp t=>pure (a.tmps.getD t undef)
 |.cell x t=>do loadVar t (←asAddr (a.tmps.getD x undef))
theorem fJ {st:St} {a:Act} (h:bn E g st a w) : ∀{rs:List ResultVar} {vs:List AV},eS P st rs=some (vs,true) →
  ∃mA:List Value,(rs.mapM (Ar a)).run P w = .ok mA w∧bM g w vs mA
 |[],vs,he=>by
  simp only[eS,Option.some.injEq,Prod.mk.injEq,and_true] at he;subst he
  exact⟨[],rfl,trivial⟩
 |.tmp t::rs,vs,he=>by
  simp only[eS,Option.map_eq_some_iff,Prod.mk.injEq] at he
  obtain⟨⟨us,ok⟩,h1,rfl,rfl⟩:=he
  obtain⟨mA,k1,k2⟩:=fJ h h1
  refine⟨_::mA,?_,h.tm t,k2⟩
  simp only[List.mapM_cons,Sem.run_bind,Ar,Sem.run_pure,Result.andThen_ok,k1]
 |.cell x t::rs,vs,he=>by
  simp only[eS] at he
  split at he
  · rename_i v ok us Lf h1 h2
    simp only[Option.some.injEq,Prod.mk.injEq,Bool.and_eq_true] at he
    obtain⟨rfl,rfl,rfl⟩:=he
    obtain⟨c,o,cv,k1,k2,k3⟩:=lW h.rel (h.tm x) h1
    obtain⟨mA,k4,k5⟩:=fJ h h2
    refine⟨cv::mA,?_,k3,k5⟩
    have ha:(asAddr (.pointer (some ⟨c,o,none⟩))).run P w = .ok ⟨c,o,none⟩ w:=rfl
    have hone:(Ar a (.cell x t)).run P w = .ok cv w:=by simp only[Ar,k1,Sem.run_bind,ha,Result.andThen_ok,k2]
    simp only[List.mapM_cons,Sem.run_bind,hone,Sem.run_pure,Result.andThen_ok,k4]
  · cases he
theorem s9 {vs:List AV} {mA:List Value} (h:bM g w vs mA) : ∃cv,(if h:mA.toArray.size=1 then mA.toArray[0] else .tuple mA.toArray)=cv∧VA g w (one vs) cv:=by
 refine⟨_,rfl,?_⟩
 match vs,mA,h with
 |[v],[cv],h=>exact h.1
 |[],[],_=>exact VA.fY.2 trivial
 |v::v'::vs,cv::JD::mA,h=>
  rw[dif_neg (by simp)]
  exact VA.fY.2 h
theorem wF {fn:Func} {a:Act} {mA:List Value} {cv:Value} (h:(fn.results.toList.mapM (Ar a)).run P w = .ok mA w)
  (hc:(if h:mA.toArray.size=1 then mA.toArray[0] else .tuple mA.toArray)=cv):(results fn a.tmps).run P w = .ok cv w:=by
 have e:results fn a.tmps=(do let vs ←fn.results.mapM (Ar a);pure (if h:vs.size=1 then vs[0] else .tuple vs)):=rfl
 rw[e,Array.mapM_eq_mapM_toList]
 simp only[Sem.run_bind,Sem.run_map,h,Result.andThen_ok,Sem.run_pure,hc]
theorem Rel.td {m:Mem} (h:Rel g m w) : ∀(F:List Nat),(∀b∈F,∃l,m[b]? = some (.pc l)) →
  ∃g' m',Rel g' m' w∧Ext g w g' w∧bO g m w g' m' w∧g'.aN=g.aN∧g'.lo=g.lo∧g'.hi=g.hi∧m'.length=m.length∧(∀i,i∉F→m'[i]? = m[i]?) ∧
   ∀b∈F,∀l c,m[b]? = some (.pc l)→g.aN b=some c → ∀o,o<l.length→g'.pure c o
 |[],_=>⟨g,m,h,Ext.refl _ _,bO.refl _ _ _,rfl,rfl,rfl,rfl,fun _ _=>rfl,fun _ hb=>by cases hb⟩
 |b::F,hF=>by
  obtain⟨g',m',k1,k2,k3,k4,k5,k6,k7,k8,k9⟩:=Rel.td h F fun b hb=>hF b (.tail _ hb)
  by_cases hb:b∈F
  · refine⟨g',m',k1,k2,k3,k4,k5,k6,k7,fun i hi=>k8 i fun q=>hi (.tail _ q),fun b' hb'=> ?_⟩
    cases hb' with
    |head=>exact k9 b hb
    |tail _ hb'=>exact k9 b' hb'
  · obtain⟨l,hl⟩:=hF b (.head _)
    have hl':m'[b]? = some (.pc l):=(k8 b hb).trans hl
    obtain⟨c,cs,e,n,q1,_⟩:=h.cells b _ _ hl rfl
    obtain⟨r1,r2,r3⟩:=k1.zb hl' (by rw[k4];exact q1)
    refine⟨_,_,r1,k2.trans r2,k3.trans r3,k4,k5,k6,by simp[k7],fun i hi=> ?_,fun b' hb' l' c' FF cY o ho=> ?_⟩
    · have hne:b≠i:=fun e=>hi (e ▸ .head _)
      rw[List.getElem?_set_ne hne]
      exact k8 i fun q=>hi (.tail _ q)
    · cases hb' with
      |head=>
       rw[hl] at FF;cases FF
       rw[q1] at cY;cases cY
       exact .inr ⟨rfl,Nat.zero_le _,ho⟩
      |tail _ hb'=>exact .inl (k9 b' hb' l' c' FF cY o ho)
theorem As {m:Mem} {kept:List Nat} {v:AV} : ∀b∈(freeze m kept v).2.2,∃l,m[b]? = some (.pc l):=by
 intro b hb
 unfold freeze at hb
 split at hb
 · rename_i b' off len sz cap
   cases hk:(has kept b'||Nat.beq len 0) with
   |true=>simp[hk] at hb
   |false=>
    simp only[hk,cond_false] at hb
    split at hb
    · rename_i l hl
      simp only[List.mem_singleton] at hb
      subst hb
      exact⟨l,getD_some hl (by simp)⟩
    · simp at hb
 · simp at hb
theorem qq {m:Mem} {kept:List Nat} : ∀{vs:List AV},∀b∈(dV m kept vs).2.2,∃l,m[b]? = some (.pc l)
 |[],b,hb=>by simp[dV] at hb
 |v::vs,b,hb=>by
  simp only[dV,List.mem_append] at hb
  rcases hb with hb | hb
  · exact As b hb
  · exact qq b hb
theorem uS {m:Mem} (h:Rel g m w) {g':Gh} (he:Ext g w g' w) {kept:List Nat} {v:AV} {cv:Value} (hv:VA g w v cv) (hok:(freeze m kept v).2.1=true)
  (hp : ∀b∈(freeze m kept v).2.2,∀l c,m[b]? = some (.pc l)→g.aN b=some c → ∀o,o<l.length→g'.pure c o):VA g' w (freeze m kept v).1 cv:=by
 unfold freeze at hok hp ⊢
 split at hok
 · rename_i b off len sz cap
   cases hk:(has kept b||Nat.beq len 0) with
   |true=>simp only[cond_true];exact hv.mono he
   |false=>
    simp only[hk,cond_false] at hok hp ⊢
    split at hok
    · rename_i l hl
      simp only[hl] at hp ⊢
      have hl:=getD_some hl (by simp)
      obtain⟨hok,hz⟩:=(Bool.and_eq_true _ _).mp hok
      have hle:=Nat.le_of_ble_eq_true hok
      have hz:=Nat.le_of_ble_eq_true hz
      cases hv with
      |ms _ _ _ _ cap c hc hcap=>
      obtain⟨c',cs,e,n,k1,k2,k3,k4,k5⟩:=h.cells b _ _ hl rfl
      rw[hc] at k1;cases k1
      have hlen:=k4.1.len
      simp only[List.length_map,Array.length_toList] at hlen
      have hpure:=hp b (by simp) l c hl hc
      have JR:vJ g w l cs.toList:=aK.bV (by simpa using k4.1.len) fun i a b=>by
       have:=k4.1.get i (by simpa using a) b
       rw[List.getElem_map,VA.pv] at this
       exact this
      refine .p _ _ (VP.mk (us:=(cs.toList.drop off).take (len*sz)) (aK.mono (fun _ _ q=>VP.mono he.pure q) ((JR.drop off).take (len*sz))) (by simp;omega) hcap hz fun k v hk=> ?_)
      rw[List.getElem?_take] at hk
      split at hk
      · rename_i hlt
        rw[List.getElem?_drop] at hk
        have hk':=aM hk
        refine⟨by rw[aD k2];simpa using hk,hpure (off+k) (by omega),k4.2 v (List.mem_of_getElem? hk)⟩
      · cases hk
    · exact hv.mono he
 · exact hv.mono he
theorem kJ {m:Mem} (h:Rel g m w) {g':Gh} (he:Ext g w g' w) {kept:List Nat} : ∀{vs:List AV} {mA:List Value},bM g w vs mA→(dV m kept vs).2.1=true →
  (∀b∈(dV m kept vs).2.2,∀l c,m[b]? = some (.pc l)→g.aN b=some c → ∀o,o<l.length→g'.pure c o)→bM g' w (dV m kept vs).1 mA
 |[],[],_,_,_=>trivial
 |v::vs,cv::mA,hv,hok,hp=>by
  simp only[dV,Bool.and_eq_true,List.mem_append] at hok hp ⊢
  exact⟨uS h he hv.1 hok.1 fun b hb=>hp b (.inl hb),kJ h he hv.2 hok.2 fun b hb=>hp b (.inr hb)⟩
 |[],_::_,h,_,_=>h.elim
 |_::_,[],h,_,_=>h.elim
theorem qu : ∀{l ord:List Nat},ue l ord=true → ∀i∈l,i∉ord
 |[],_,_,_,h=>by cases h
 |j::l,ord,h,i,hi=>by
  simp only[ue,Bool.and_eq_true,Bool.not_eq_true'] at h
  cases hi with
  |head=>exact fun q=>by rw[zh.2 q] at h;cases h.1
  |tail _ hi=>exact qu h.2 i hi
theorem qv {c:bD} {b:Frame} {a:Act} {todo:List Item} (hs:bn E g c.st a w) (hrb:cF g c.st.aZ b) (qh : ∀i,c.st.aZ ≠ .round i) (qg:b.fn=c.f) (hd:a.defers=[]) {fr:Frame}
  (hst : ∀cs,Steps P (lone fr cs w) (lone {b.atR a todo with mode:= .returning} cs w)):uM P E g c fr w (iw P c):=by
 unfold iw
 split
 · rename_i fn hfn
   split
   · rename_i vs ok hres
     intro hok cs
     simp only[Bool.and_eq_true] at hok
     obtain⟨⟨rfl,hfz⟩,hni⟩:=hok
     obtain⟨mA,k1,k2⟩:=fJ hs hres
     obtain⟨g',m',r1,r2,r3,r4,r5,r6,r7,r8,r9⟩:=hs.rel.td _ (qq (m:=c.st.mem) (kept:=close c.st.mem c.st.fix []) (vs:=vs))
     have k3:=kJ hs.rel r2 k2 hfz r9
     obtain⟨cv,Lw,_⟩:=s9 k2
     obtain⟨JD,Kk,k4⟩:=s9 k3
     have:JD=cv:=Kk.symm.trans Lw
     subst this
     have hrun:=wF (P:=P) k1 Lw
     generalize Mo:dV c.st.mem (close c.st.mem c.st.fix []) vs=fz at *
     obtain⟨hnd,jF⟩:=cS c.st.mem c.st.fix [one fz.1]
     generalize BP:close c.st.mem c.st.fix [one fz.1]=ord at *
     have hpk:Am.pack c.st.mem ord=Am.pack m' ord:=by
      unfold Am.pack
      refine List.map_congr_left fun i hi=> ?_
      rw[List.getD_eq_getElem?_getD,List.getD_eq_getElem?_getD,r8 i fun q=>qu hni i q hi]
     obtain⟨p1,p2⟩:=r1.pack hnd
     have hlen:c.st.fix≤ord.length:=by
      rcases Nat.eq_zero_or_pos c.st.fix with e | e
      · omega
      · have:=aM (jF (c.st.fix-1) (by omega));omega
     refine⟨g'.pack ord,_,w,hst cs,?_,?_,?_,rfl,rfl,rfl⟩
     · refine⟨qg,JD,w,?_,?_,?_,bO.refl _ _ _,?_⟩
       · show BG P c.st.aZ {b.atR a todo with mode:= .returning} w JD w
         have H9:P.funcs[b.fn]? = some fn:=by rw[qg];exact hfn
         generalize c.st.aZ=r at hrb qh
         cases r with
         |call=>exact⟨⟨rfl,hd,hrb.1,fn,H9,hrun⟩,rfl⟩
         |late=>exact⟨⟨⟨rfl,hd,fn,H9,hrun⟩,hrb.1⟩,rfl⟩
         |round i=>exact absurd rfl (qh i)
       · simp only[look,Nat.beq_refl,cond_true]
         exact k4.fU (bK.pack g' ord)
       · show Rel (g'.pack ord) (Am.pack c.st.mem ord) w
         rw[hpk];exact p1
       · show c.st.fix≤(Am.pack c.st.mem ord).length
         simpa[Am.pack] using hlen
     · refine r3.trans ⟨Nat.le_refl _,fun _ _ _=>rfl,fun _ _ p=>⟨p,rfl⟩,fun _ _ p=> .inl p,fun c' ho=> .inl (p2 c' ?_),rfl,rfl,rfl⟩
       have ho:dH (g'.pack ord) (Am.pack c.st.mem ord) c':=ho
       rw[hpk] at ho;exact ho
     · intro k c' hk cY
       have:=jF k hk
       simp[Gh.pack,this,r4,r5,r6,cY]
   · trivial
 · trivial
theorem mB {r:Nat} {w:World} (h:w.heap[r]? = some (.deferred (some []))):(Instr.takeDeferred r).run P w = .ok [] {w with heap:=w.heap.setIfInBounds r (.deferred none)}:=by
 simp[Instr.takeDeferred,Sem.run_bind,getObj,setObj,Sem.run,h,Result.andThen]
theorem zm {b:Frame} {a:Act} {todo:List Item} : ∀{mk:List Mark} {ds:List Deferred} {st:St} {m:Mem} {w:World},iy mk st.mem=some m→Mk g mk ds→bn E g st a w →
  ∃w',(∀cs,Steps P (lone {b.atR {a with defers:=ds} todo with mode:= .returning} cs w) (lone {b.atR {a with defers:=[]} todo with mode:= .returning} cs w')) ∧
   bn E g {st with mem:=m,bq:=[]} {a with defers:=[]} w'∧bO g st.mem w g m w'
 |[],[],st,m,w,h,_,hs=>by
  simp only[iy,Option.some.injEq] at h
  subst h
  exact⟨w,fun cs=>Steps.refl _ _,⟨hs.tm,hs.nt,hs.rel,hs.fix,hs.ct⟩,bO.refl _ _ _⟩
 |.late .. :: mk,_,st,m,w,h,hm,hs=>by
  simp only[iy] at h
  cases h
 |.range i::mk,d::ds,st,m,w,h,hm,hs=>by
  simp only[iy] at h
  split at h
  · rename_i hb
    obtain⟨⟨D,hD,rfl⟩,hm⟩:=hm
    have hib:=getD_some hb (by simp)
    obtain⟨c,ob,vs,k1,k2,k3,k4,_⟩:=hs.rel.obs i _ _ hib
    rw[hD] at k1;cases k1
    obtain⟨rfl,_⟩:=k4
    obtain⟨e1,e2,e3⟩:=cj w (o':= .deferred none) k2
    obtain⟨r1,r2,r3⟩:=hs.rel.eE (xO:= .shut) (l':=[]) (vs':=[]) hib hD e1 e2 rfl rfl rfl e3 ⟨rfl,rfl⟩ trivial
    have hs':bn E g {st with mem:=st.mem.set i (.ob .shut [])} a {w with heap:=w.heap.setIfInBounds D (.deferred none)}:=
     ⟨fun k=>(hs.tm k).mono r2,hs.nt,r1,by simpa using hs.fix,hs.ct.mono r2.pure⟩
    obtain⟨w',q1,q2,q3⟩:=zm (st:={st with mem:=st.mem.set i (.ob .shut [])}) h hm hs'
    refine⟨w',fun cs=> .head ?_ (q1 cs),q2,r3.trans q3⟩
    exact step_collected (fr:={b.atR {a with defers:={target:= .collected D,args:= #[]}::ds} todo with mode:= .returning}) (fun e=>by cases e) rfl rfl (mB k2)
  · cases h
 |[],_::_,_,_,_,_,hm,_=>hm.elim
 |.range _::_,[],_,_,_,_,hm,_=>hm.elim
theorem BU {f:FuncId} {fa ca:Array Value} {fn:Func} (hf:P.funcs[f]? = some fn) (hb:fn.body.isSome=true) (hn:(fn.name == "runtime.NumGoroutine")=false) :
  (invoke (.fn (.func f) ca) fa).run P w = .ok (.enter f (fa++ca)) w:=by
 have HQ:fn.body.isNone=false:=by cases hq:fn.body<;>simp_all
 simp only[invoke,callFunc,Sem.run_bind,run_program,Result.andThen_ok,hf,hn,Bool.false_eq_true,if_false,HQ,Sem.run_pure]
theorem m9 : ∀{l:List (Nat×Nat)} {cs:List Value},Jz g l cs→bM g w (mps l) cs
 |[],[],_=>trivial
 |(b,off)::l,_::cs,h=>by
  obtain⟨⟨c,h1,h2⟩,h3⟩:=h
  exact⟨by rw[h2];exact .mp b off c h1,m9 h3⟩
 |[],_::_,h=>h.elim
 |_::_,[],h=>h.elim
theorem wG (cv:Option Value):settle (bB cv true) = .returning:=by cases cv<;>rfl
theorem zn {c:bD} {b:Frame} {a:Act} {todo:List Item} {gf:FuncId} {first caps:List (Nat×Nat)} {pv:Option AV} {mh:Option Value} {d:Deferred}
  (hs:bn E g c.st a w) (hrb:cF g c.st.aZ b) (qh : ∀i,c.st.aZ ≠ .round i) (qg:b.fn=c.f) (hd:a.defers=[d]) (hm:Mark.Ok g (.late gf first caps) d) (vX:BI g w pv mh) {fr:Frame}
  (hst : ∀cs,Steps P (lone fr cs w) (lone {b.atR a todo with mode:=bB mh false} cs w)):uM P E g c fr w (uf c pv gf first caps):=by
 unfold uf
 obtain⟨fa,ca,h1,h2,rfl⟩:=hm
 have hargs:bM g w (mps first++mps caps) (fa++ca).toList:=by
  rw[Array.toList_append]
  exact(m9 h1).append (m9 h2)
 dsimp only
 generalize mps first++mps caps=args at *
 obtain⟨hnd,_⟩:=cS c.st.mem 0 (pv.toList++args)
 generalize close c.st.mem 0 (pv.toList++args)=ord at *
 cases hlt:fq ord c.st.mem.length with
 |false=>trivial
 |true=>
  intro m1 dc cs
  obtain⟨⟨fn,DA,DB,DC⟩,dc⟩:=dc
  obtain⟨BE,BF⟩:=hs.rel.pack hnd
  have iF:=bK.pack g ord
  have Kl:BI (g.pack ord) w (pv.map (fU (idx ord))) mh:=by
   cases pv with
   |none=>cases mh with
    |none=>exact trivial
    |some v=>exact vX.elim
   |some u=>cases mh with
    |none=>exact vX.elim
    |some v=>exact VA.fU iF vX
  obtain⟨w',g',cv,fr',q1,q2,q3,q5,q6,q7,q8⟩:=dc (g.pack ord) w (fa++ca) mh {b.atR {a with defers:=[]} todo with mode:=bB mh false} cs rfl Kl BE (bM.fU iF hargs) (hs.ct.mono fun _ _ p=>⟨p,rfl⟩)
  have hlen:(Am.pack c.st.mem ord).length=ord.length:=by simp[Am.pack]
  rw[hlen] at q7 q8
  obtain⟨r1,r2,r3,r4⟩:=hs.rel.back hnd (dG hlt) q5 q6 q7 q8
  have yf:=step_defer (P:=P) (fr:={b.atR a todo with mode:=bB mh false}) (cs:=cs) (w:=w) (ds:=[]) (by cases mh<;>exact fun e=>by cases e) hd rfl (BU DA DB DC)
  have hleave:=step_going_returned (P:=P) (c:={b.atR {a with defers:=[]} todo with mode:=bB mh true}) (cs:=cs) q3 q2
  have iO:c.st.fix≤(bF (aI ord c.st.mem.length) ord m1 c.st.mem).length:=by
   rw[cm _ _ _ _ q8];have:=hs.fix;omega
  refine⟨_,{b.atR {a with defers:=[]} todo with mode:= .returning},w',(hst cs).trans (.head yf (q1.trans (.one ?_))),⟨b,{a with defers:=[]},todo,rfl,qg,hrb.ext fun i c q=>(r2.aN i c q).1,qh,rfl,rfl,⟨fun k=>(hs.tm k).mono r2,hs.nt,r1,iO,hs.ct.mono r2.pure⟩⟩,r3,aP.me r2 _,rfl,rfl,rfl⟩
  rw[hleave]
  simp only[wG]
theorem At {c:bD} {b:Frame} {a:Act} {todo:List Item} {u:AV} {cv:Value} (hs:bn E g c.st a w) (hrb:cF g c.st.aZ b) (qg:b.fn=c.f) (hd:Mk g c.st.bq a.defers) (hu:VA g w u cv) :
  uM P E g c {b.atR a todo with mode:=bB (some cv) false} w (o8 P c u):=by
 unfold o8
 split
 · trivial
 · rename_i qh
   have qh : ∀i,c.st.aZ ≠ .round i:=fun i e=>qh i e
   split
   · rename_i hmk
     split
     · rename_i fn hfn
       intro cs
       have hds:a.defers=[]:=by
        rw[hmk] at hd
        cases hq:a.defers with
        |nil=>rfl
        |cons _ _=>rw[hq] at hd;exact hd.elim
       obtain⟨hnd,jF⟩:=cS c.st.mem c.st.fix [u]
       generalize close c.st.mem c.st.fix [u]=ord at *
       obtain⟨p1,p2⟩:=hs.rel.pack hnd
       have hlen:c.st.fix≤ord.length:=by
        rcases Nat.eq_zero_or_pos c.st.fix with e | e
        · omega
        · have:=aM (jF (c.st.fix-1) (by omega));omega
       refine⟨g.pack ord,_,w,Steps.refl _ _,⟨qg,cv,⟨rfl,hds,fn,?_⟩,hu.fU (bK.pack g ord),p1,?_⟩,?_,?_,rfl,rfl,rfl⟩
       · show P.funcs[b.fn]? = some fn
         rw[qg];exact hfn
       · show c.st.fix≤(Am.pack c.st.mem ord).length
         simpa[Am.pack] using hlen
       · exact⟨Nat.le_refl _,fun _ _ _=>rfl,fun _ _ p=>⟨p,rfl⟩,fun _ _ p=> .inl p,fun c' ho=> .inl (p2 c' ho),rfl,rfl,rfl⟩
       · intro k c' hk cY
         have:=jF k hk
         simp[Gh.pack,this,cY]
     · trivial
   · rename_i gf first caps hmk
     rw[hmk] at hd
     cases hq:a.defers with
     |nil=>rw[hq] at hd;exact hd.elim
     |cons d ds=>
      rw[hq] at hd
      obtain⟨Km,hd2⟩:=hd
      cases ds with
      |nil=>exact zn (pv:=some u) (mh:=some cv) hs hrb qh qg hq Km hu fun cs=>Steps.refl _ _
      |cons _ _=>exact hd2.elim
   · trivial
theorem th {c:bD} {b:Frame} {a:Act} {todo:List Item} (hs:bn E g c.st a w) (hrb:cF g c.st.aZ b) (qh : ∀i,c.st.aZ ≠ .round i) (qg:b.fn=c.f) (hd:Mk g c.st.bq a.defers) {fr:Frame}
  (hst : ∀cs,Steps P (lone fr cs w) (lone {b.atR a todo with mode:= .returning} cs w)):uM P E g c fr w (ending P c):=by
 have key : ∀m,iy c.st.bq c.st.mem=some m→uM P E g c fr w (iw P {c with st:={c.st with mem:=m,bq:=[]}}):=by
  intro m hm
  obtain⟨w',q1,q2,q3⟩:=zm (P:=P) (b:=b) (todo:=todo) hm hd hs
  have h1:=qv (P:=P) (E:=E) (c:={c with st:={c.st with mem:=m,bq:=[]}}) (b:=b) (a:={a with defers:=[]}) (todo:=todo) q2 hrb qh qg rfl (fr:={b.atR {a with defers:=[]} todo with mode:= .returning}) fun cs=>Steps.refl _ _
  unfold iw at h1 ⊢
  split
  · rename_i fn hfn
    rw[hfn] at h1
    simp only at h1
    split
    · rename_i vs ok hres
      simp only[hres] at h1
      intro hok cs
      obtain⟨g',fr',w2,s1,s2,s3,s4,s5,s6,s7⟩:=h1 hok cs
      exact⟨g',fr',w2,((hst cs).trans (q1 cs)).trans s1,s2,q3.trans s3,s4,s5,s6,s7⟩
    · trivial
  · trivial
 unfold ending
 split
 · rename_i hmk
   have h:=key c.st.mem (by rw[hmk];rfl)
   have e:({c with st:={c.st with mem:=c.st.mem,bq:=[]}}:bD)=c:=by
    obtain⟨f,t,st⟩:=c
    obtain⟨tm,nt,mem,fix,bq,aZ⟩:=st
    simp only at hmk
    subst hmk
    rfl
   rw[e] at h
   exact h
 · rename_i gf first caps hmk
   rw[hmk] at hd
   cases hq:a.defers with
   |nil=>rw[hq] at hd;exact hd.elim
   |cons d ds=>
    rw[hq] at hd
    obtain⟨Km,hd2⟩:=hd
    cases ds with
    |nil=>exact zn (pv:=none) (mh:=none) hs hrb qh qg hq Km trivial hst
    |cons _ _=>exact hd2.elim
 · split
   · rename_i m hm
     exact key m hm
   · trivial
end
end Go.Am
end
section
namespace Go.Am
open Go.RowKit
section
variable {P:Program} {E:Env} {g:Gh} {w:World}
theorem zo (m:Mem) (b b':av):(m++[b]).set m.length b'=m++[b']:=by
 rw[List.set_append_right _ _ (Nat.le_refl _)];simp
theorem yg {st:St} {a:Act} (h:bn E g st a w):bM g w ((upTo st.nt).map (look st.tm)) a.tmps.toList:=by
 refine aK.bV (by simp[h.nt,fC]) fun i hi hi'=> ?_
 have hu:(upTo st.nt)[i]? = some i:=qd st.nt i (by simpa[fC] using hi)
 have e:((upTo st.nt).map (look st.tm))[i]=look st.tm i:=by
  have:((upTo st.nt).map (look st.tm))[i]? = some (look st.tm i):=by rw[List.getElem?_map,hu];rfl
  rw[List.getElem?_eq_getElem hi] at this
  exact Option.some.inj this
 rw[e]
 have:=h.tm i
 rw[Array.getD_eq_getD_getElem?,Array.getElem?_eq_getElem (by simpa using hi')] at this
 simpa using this
theorem Au {st:St} {a:Act} (hs:bn E g st a w) (f:FuncId) (ps:Array Tmp) (as bd:Code) :
  ∃g',Rel g' (bY st f ps as bd) ((w.alloc (.deferred (some []))).alloc (.loop {state:= .ready,pending:=none,fn:=f,tmps:=a.tmps,params:=ps,assign:=as,body:=bd,defers:=w.heap.size})) ∧
   Ext g w g' ((w.alloc (.deferred (some []))).alloc (.loop {state:= .ready,pending:=none,fn:=f,tmps:=a.tmps,params:=ps,assign:=as,body:=bd,defers:=w.heap.size})) ∧
   bO g st.mem w g' (bY st f ps as bd) ((w.alloc (.deferred (some []))).alloc (.loop {state:= .ready,pending:=none,fn:=f,tmps:=a.tmps,params:=ps,assign:=as,body:=bd,defers:=w.heap.size})) ∧
   g'.aN st.mem.length=some w.heap.size∧g'.aN (st.mem.length+1)=some (w.heap.size+1):=by
 obtain⟨r1,s1⟩:=hs.rel.reserve
 obtain⟨r2,e2,s2⟩:=r1.oO (i:=st.mem.length) (ob:= .z7) (l:=[]) (vs:=[]) (by simp) trivial (cE w (.deferred (some []))) ⟨rfl,rfl⟩
 rw[zo] at r2 s2
 obtain⟨r3,s3⟩:=r2.reserve
 have hv:=(yg hs).mono e2
 obtain⟨r4,e4,s4⟩:=r3.oO (i:=st.mem.length+1) (ob:= .loop f ps as bd .ready none) (l:=(upTo st.nt).map (look st.tm)) (vs:=a.tmps.toList)
  (by simp) hv (cE _ (.loop {state:= .ready,pending:=none,fn:=f,tmps:=a.tmps,params:=ps,assign:=as,body:=bd,defers:=w.heap.size})) ⟨w.heap.size,by simp⟩
 have hl:(st.mem++[av.ob .z7 []]).length=st.mem.length+1:=by simp
 have Lx:=zo (st.mem++[av.ob .z7 []]) .free (.ob (.loop f ps as bd .ready none) ((upTo st.nt).map (look st.tm)))
 rw[hl] at Lx
 rw[Lx] at r4 s4
 refine⟨_,r4,e2.trans e4,s1.trans (s2.trans (s3.trans s4)),?_,?_⟩
 · have:=(e4.aN st.mem.length w.heap.size (by simp[Gh.put])).1
   exact this
 · simp[Gh.put]
theorem rZ {a:Act} {x:Operand} {f:FuncId} {fa ca:Array Value} {l:Nat} (hx:a.eval x = .func (.func f) fa ca)
  {fn:Func} (hf:P.funcs[f]? = some fn) (hb:fn.body.isSome=true) (hn:(fn.name == "runtime.NumGoroutine")=false) :
  ∃d,(resolve a.eval (rangeCall x l) 0).run P w = .ok d w∧(invoke d.target d.args).run P w = .ok (.enter f (fa ++ #[.func (.yield l) #[] #[]]++ca)) w:=by
 have HQ:fn.body.isNone=false:=by cases hq:fn.body<;>simp_all
 refine⟨{target:= .fn (.func f) ca,args:=fa ++ #[.func (.yield l) #[] #[]]},?_,?_⟩
 · simp only[resolve,hx,Deferred.ofValue,Sem.run_pure]
   have e:Array.map a.eval #[Operand.const (Value.func (Fn.yield l) #[] #[])] = #[Value.func (Fn.yield l) #[] #[]]:=by simp[Act.eval]
   rw[e]
 · simp only[invoke,callFunc,Sem.run_bind,run_program,Result.andThen_ok,hf,hn,Bool.false_eq_true,if_false,HQ,Sem.run_pure]
theorem wH {m m':Mem} {L l:Nat} {pd:Option Code} (h:Rel g m w) (hl:g.aN L=some l) (he:dM m L=some (m',pd)) :
  ∃w',(Instr.endLoop l).run P w = .ok pd w'∧Rel g m' w'∧Ext g w g w'∧bO g m w g m' w':=by
 unfold dM at he
 split at he
 · rename_i f ps as bd st zp vals hb
   have hib:=getD_some hb (by simp)
   obtain⟨c,ob,vs,k1,k2,k3,k4,_⟩:=h.obs L _ _ hib
   rw[hl] at k1;cases k1
   obtain⟨D,rfl⟩:=k4
   have fin:st ≠ .busy→some (m.set L (.ob (.loop f ps as bd .exhausted zp) vals),zp)=some (m',pd) → ∃w',(Instr.endLoop l).run P w = .ok pd w'∧Rel g m' w'∧Ext g w g w'∧bO g m w g m' w':=by
    intro hst e
    simp only[Option.some.injEq,Prod.mk.injEq] at e
    obtain⟨rfl,rfl⟩:=e
    obtain⟨e1,e2,e3⟩:=cj w (o':= .loop {state:= .exhausted,pending:=zp,fn:=f,tmps:=vs.toArray,params:=ps,assign:=as,body:=bd,defers:=D}) k2
    obtain⟨r1,r2,r3⟩:=h.eE (xO:= .loop f ps as bd .exhausted zp) (l':=vals) (vs':=vs) hib hl e1 e2 rfl rfl rfl e3 ⟨D,rfl⟩ k3
    exact⟨_,run_endLoop k2 hst,r1,r2,r3⟩
   cases st with
   |busy=>cases he
   |ready=>exact fin (fun e=>by cases e) he
   |done=>exact fin (fun e=>by cases e) he
   |exhausted=>exact fin (fun e=>by cases e) he
 · cases he
theorem BV {st:St} {a:Act} {b:Frame} {k:List Item} {x:Operand} {ps:Array Tmp} {as bd:Code} {gf:FuncId} {first captured:List AV} {v:AV} {m1 m2:Mem} {pd:Option Code}
  (hs:bn E g st a w) (hr:b.roundOf=none) (hd:Mk g st.bq a.defers) (hx:ev E st.tm x = .fn (.func gf) first captured)
  (hlt:fq (close (bY st b.fn ps as bd) 0 (first++[.vy (st.mem.length+1)]++captured)) (bY st b.fn ps as bd).length=true)
  (dc:aB P E gf (cO (idx (close (bY st b.fn ps as bd) 0 (first++[.vy (st.mem.length+1)]++captured))) (first++[.vy (st.mem.length+1)]++captured))
    (pack (bY st b.fn ps as bd) (close (bY st b.fn ps as bd) 0 (first++[.vy (st.mem.length+1)]++captured))) v m1)
  (hend:dM (back (close (bY st b.fn ps as bd) 0 (first++[.vy (st.mem.length+1)]++captured)) none {st with mem:=bY st b.fn ps as bd} v m1).mem (st.mem.length+1)=some (m2,pd)) :
  ∀cs,∃g' a' w',Steps P (lone (b.atR a (.code (.rangeFunc x ps as bd)::k)) cs w) (lone (b.atR a' ((pd.map Item.code).toList++k)) cs w') ∧
   Mk g' (.range st.mem.length::st.bq) a'.defers∧bn E g' {st with mem:=m2,bq:= .range st.mem.length::st.bq} a' w'∧bO g st.mem w g' m2 w'∧aP g g' st.fix ∧ ∀i c,g.aN i=some c→g'.aN i=some c:=by
 intro cs
 obtain⟨g1,r1,e1,s1,d1,d2⟩:=Au hs b.fn ps as bd
 generalize hM:bY st b.fn ps as bd=M at *
 generalize hW:(w.alloc (.deferred (some []))).alloc (.loop {state:= .ready,pending:=none,fn:=b.fn,tmps:=a.tmps,params:=ps,assign:=as,body:=bd,defers:=w.heap.size})=W at *
 have Nc:st.mem.length+2≤M.length:=by rw[←hM];simp[bY]
 have rR:=dQ hs x
 rw[hx,VA.fns] at rR
 obtain⟨fa,ca,rR,Ft,hca⟩:=rR
 obtain⟨⟨fn,DA,DB,DC⟩,dc⟩:=dc
 obtain⟨d,hres,hinv⟩:=rZ (P:=P) (w:=W) (l:=w.heap.size+1) rR DA DB DC
 have yf:=stepR_rangeFunc (P:=P) (b:=b) (a:=a) (k:=k) (cs:=cs) (w:=w) (g:=x) (ps:=ps) (assign:=as) (body:=bd) (w₁:=W) (by rw[hr,←hW];exact run_enterLoop_outer _ _ _ _ _) hres hinv
 have hargs:bM g1 W (first++[.vy (st.mem.length+1)]++captured) (fa ++ #[Value.func (.yield (w.heap.size+1)) #[] #[]]++ca).toList:=by
  simp only[Array.toList_append]
  have hy:bM g1 W [.vy (st.mem.length+1)] [Value.func (.yield (w.heap.size+1)) #[] #[]]:=⟨.vy _ _ d2,trivial⟩
  exact((Ft.mono e1).append hy).append (hca.mono e1)
 generalize first++[.vy (st.mem.length+1)]++captured=args at *
 obtain⟨hnd,_⟩:=cS M 0 args
 generalize close M 0 args=ord at *
 obtain⟨BE,BF⟩:=r1.pack hnd
 have iF:=bK.pack g1 ord
 have Ia:dJ E g1 W:=hs.ct.mono e1.pure
 obtain⟨w',g',cv,fr,q1,q2,q3,q4,q5,q6,q7,q8⟩:=dc (g1.pack ord) W _ (b.atR {a with defers:=[{target:= .collected w.heap.size,args:= #[]}]++a.defers} (.inRangeFunc (w.heap.size+1)::k)::cs) BE
  (bM.fU iF hargs) (Ia.mono fun _ _ p=>⟨p,rfl⟩)
 have hlen:(Am.pack M ord).length=ord.length:=by simp[Am.pack]
 rw[hlen] at q7 q8
 obtain⟨r2,e2,s2,r4⟩:=r1.back hnd (dG hlt) q5 q6 q7 q8
 have hmem:(back ord none {st with mem:=M} v m1).mem=bF (aI ord M.length) ord m1 M:=rfl
 rw[hmem] at hend
 have hL:(g1.back g' ord M.length).aN (st.mem.length+1)=some (w.heap.size+1):=(e2.aN _ _ d2).1
 obtain⟨w2,f1,f2,f3,f4⟩:=wH (P:=P) r2 hL hend
 have hleave:=step_leave_returned (P:=P) (c:=b.atR {a with defers:=[{target:= .collected w.heap.size,args:= #[]}]++a.defers} (.inRangeFunc (w.heap.size+1)::k)) (cs:=cs) q2
 rw[finish_atR_inRangeFunc] at hleave
 have wI:Ext g w (g1.back g' ord M.length) w2:=(e1.trans e2).trans f3
 have hm2:st.fix≤m2.length:=by
  have vQ:=cm (aI ord M.length) ord m1 M q8
  have Ff:m2.length=(bF (aI ord M.length) ord m1 M).length:=by
   unfold dM at hend
   split at hend
   · split at hend
     · cases hend
     · simp only[Option.some.injEq,Prod.mk.injEq] at hend
       obtain⟨rfl,_⟩:=hend
       simp
   · cases hend
  have:=hs.fix
  omega
 refine⟨g1.back g' ord M.length,{a with defers:=[{target:= .collected w.heap.size,args:= #[]}]++a.defers},w2,.head yf (q1.trans (.head hleave (.one (stepR_endRangeFunc f1)))),?_,?_,s1.trans (s2.trans f4),aP.me wI _,fun i c q=>(wI.aN i c q).1⟩
 · exact⟨⟨w.heap.size,(e2.aN _ _ d1).1,rfl⟩,hd.ext fun i c q=>(wI.aN i c q).1⟩
 · exact⟨fun j=>(hs.tm j).mono wI,hs.nt,f2,hm2,hs.ct.mono wI.pure⟩
end
end Go.Am
end
section
namespace Go.Am
open Go.RowKit
section
variable {P:Program} {E:Env} {g:Gh} {w:World}
theorem bW {id:Nat} : ∀{k k':List It},bg id k=some k'→exitTo id (cg k)=some (cg k')
 |[],_,h=>by simp[bg] at h
 |.inBlock i::k,k',h=>by
  simp only[bg] at h
  cases hb:Nat.beq i id with
  |true=>
   simp only[hb,cond_true,Option.some.injEq] at h;subst h
   have:=Nat.eq_of_beq_eq_true hb
   subst this
   simp[cg,er,exitTo]
  |false=>
   simp only[hb,cond_false] at h
   have hne:(i==id)=false:=by
    rw[beq_eq_false_iff_ne];intro e;subst e;simp[Nat.beq_refl] at hb
   simp only[cg,er,List.cons_append,List.nil_append,exitTo,hne,Bool.false_eq_true,if_false]
   exact bW h
 |.code _ _::k,k',h=>by
  simp only[bg] at h
  simpa[cg,er,exitTo] using bW h
 |.ops _ _ _ _::k,k',h=>by
  simp only[bg] at h
  simpa[cg,er,exitTo] using bW h
 |.inLoop _ _::k,k',h=>by
  simp only[bg] at h
  simpa[cg,er,exitTo] using bW h
 |.forget _::k,k',h=>by
  simp only[bg] at h
  simpa[cg,er] using bW h
 |.fin::k,k',h=>by
  simp only[bg] at h
  simpa[cg,er] using bW h
 |.rG _::k,k',h=>by
  simp only[bg] at h
  simpa[cg,er] using bW h
 |.eD _::k,k',h=>by
  simp only[bg] at h
  simpa[cg,er] using bW h
 |.leave::k,k',h=>by
  simp only[bg] at h
  simpa[cg,er] using bW h
 |.begin::k,k',h=>by
  simp only[bg] at h
  simpa[cg,er,exitTo] using bW h
 |.inScope _::k,k',h=>by
  simp only[bg] at h
  simpa[cg,er,exitTo] using bW h
theorem bE {id:Nat} : ∀{k:List It},bg id k=none→exitTo id (cg k)=none
 |[],_=>rfl
 |.inBlock i::k,h=>by
  simp only[bg] at h
  cases hb:Nat.beq i id with
  |true=>simp[hb] at h
  |false=>
   simp only[hb,cond_false] at h
   have hne:(i==id)=false:=by
    rw[beq_eq_false_iff_ne];intro e;subst e;simp[Nat.beq_refl] at hb
   simp only[cg,er,List.cons_append,List.nil_append,exitTo,hne,Bool.false_eq_true,if_false]
   exact bE h
 |.code _ _::k,h=>by
  simp only[bg] at h
  simpa[cg,er,exitTo] using bE h
 |.ops _ _ _ _::k,h=>by
  simp only[bg] at h
  simpa[cg,er,exitTo] using bE h
 |.inLoop _ _::k,h=>by
  simp only[bg] at h
  simpa[cg,er,exitTo] using bE h
 |.forget _::k,h=>by
  simp only[bg] at h
  simpa[cg,er] using bE h
 |.fin::k,h=>by
  simp only[bg] at h
  simpa[cg,er] using bE h
 |.rG _::k,h=>by
  simp only[bg] at h
  simpa[cg,er] using bE h
 |.eD _::k,h=>by
  simp only[bg] at h
  simpa[cg,er] using bE h
 |.leave::k,h=>by
  simp only[bg] at h
  simpa[cg,er] using bE h
 |.begin::k,h=>by
  simp only[bg] at h
  simpa[cg,er,exitTo] using bE h
 |.inScope _::k,h=>by
  simp only[bg] at h
  simpa[cg,er,exitTo] using bE h
theorem bX {l:Nat} : ∀{k k':List It},cJ l k=some k'→gotoIn l (cg k)=some (cg k')
 |[],_,h=>by simp[cJ] at h
 |.inScope b::k,k',h=>by
  simp only[cJ] at h
  simp only[cg,er,List.cons_append,List.nil_append,gotoIn]
  cases hf:findLabel b l with
  |some rest=>
   simp only[hf,Option.some.injEq] at h;subst h
   rfl
  |none=>
   simp only[hf] at h
   exact bX h
 |.code _ _::k,k',h=>by
  simp only[cJ] at h
  simpa[cg,er,gotoIn] using bX h
 |.ops _ _ _ _::k,k',h=>by
  simp only[cJ] at h
  simpa[cg,er,gotoIn] using bX h
 |.inBlock _::k,k',h=>by
  simp only[cJ] at h
  simpa[cg,er,gotoIn] using bX h
 |.inLoop _ _::k,k',h=>by
  simp only[cJ] at h
  simpa[cg,er,gotoIn] using bX h
 |.forget _::k,k',h=>by
  simp only[cJ] at h
  simpa[cg,er] using bX h
 |.fin::k,k',h=>by
  simp only[cJ] at h
  simpa[cg,er] using bX h
 |.rG _::k,k',h=>by
  simp only[cJ] at h
  simpa[cg,er] using bX h
 |.eD _::k,k',h=>by
  simp only[cJ] at h
  simpa[cg,er] using bX h
 |.leave::k,k',h=>by
  simp only[cJ] at h
  simpa[cg,er] using bX h
 |.begin::k,k',h=>by
  simp only[cJ] at h
  simpa[cg,er,gotoIn] using bX h
theorem lq {l:Nat} : ∀{k k':List It},(∀x∈k,It.pl x)→cJ l k=some k' → ∀x∈k',It.pl x
 |[],_,_,h=>by simp[cJ] at h
 |x::k,k',hf,h=>by
  have ht : ∀y∈k,It.pl y:=fun y hy=>hf y (.tail _ hy)
  cases x with
  |inScope b=>
   simp only[cJ] at h
   cases hl:findLabel b l with
   |some rest=>
    simp only[hl,Option.some.injEq] at h;subst h
    intro y hy
    cases hy with
    |head=>exact trivial
    |tail _ hy=>exact hf y hy
   |none=>
    simp only[hl] at h
    exact lq ht h
  |_=>simp only[cJ] at h;exact lq ht h
theorem lu {id:Nat} : ∀{k k':List It},(∀x∈k,It.pl x)→bg id k=some k' → ∀x∈k',It.pl x
 |[],_,_,h=>by simp[bg] at h
 |x::k,k',hf,h=>by
  have ht : ∀y∈k,It.pl y:=fun y hy=>hf y (.tail _ hy)
  cases x with
  |inBlock i=>
   simp only[bg] at h
   cases hb:Nat.beq i id with
   |true=>simp only[hb,cond_true,Option.some.injEq] at h;subst h;exact ht
   |false=>simp only[hb,cond_false] at h;exact lu ht h
  |_=>simp only[bg] at h;exact lu ht h
theorem wJ {g':Gh} {ρ:Nat→Option Nat} {f:Nat→Value} : ∀(keep:List Nat) (tm:mO),(∀k,VA g' w (fU ρ (look tm k)) (f k)) → ∀k,VA g' w (look (keep.zip (cO ρ (keep.map (look tm)))) k) (f k)
 |[],tm,_,k=> .ah _
 |i::keep,tm,h,k=>by
  simp only[List.map_cons,cO,List.zip_cons_cons,fP]
  by_cases e:i=k
  · subst e;simp only[if_true];exact h i
  · simp only[e,if_false];exact wJ keep tm h k
theorem qw {keep:List Nat} {st:St}:(forget keep st).aZ=st.aZ:=by
 obtain⟨tm,nt,mem,fix,bq,aZ⟩:=st
 cases bq with
 |cons i l=>rfl
 |nil=>cases aZ<;>rfl
theorem n8 {keep:Option (List Nat)} {st:St}:(fc keep st).aZ=st.aZ:=by
 cases keep with
 |none=>rfl
 |some keep=>exact qw
theorem tj {st:St} {a:Act} (h:bn E g st a w) (keep:List Nat) : ∃g',bn E g' (forget keep st) a w∧bO g st.mem w g' (forget keep st).mem w∧aP g g' st.fix∧(forget keep st).fix=st.fix∧(∀ds,Mk g st.bq ds→Mk g' (forget keep st).bq ds) ∧ ∀b,cF g st.aZ b→cF g' (forget keep st).aZ b:=by
 obtain⟨tm,nt,mem,fix,bq,aZ⟩:=st
 have stay:forget keep ⟨tm,nt,mem,fix,bq,aZ⟩=⟨tm,nt,mem,fix,bq,aZ⟩→_:=fun this=>(show ∃g',bn E g' (forget keep ⟨tm,nt,mem,fix,bq,aZ⟩) a w∧bO g mem w g' (forget keep ⟨tm,nt,mem,fix,bq,aZ⟩).mem w∧aP g g' fix∧(forget keep ⟨tm,nt,mem,fix,bq,aZ⟩).fix=fix∧(∀ds,Mk g bq ds→Mk g' (forget keep ⟨tm,nt,mem,fix,bq,aZ⟩).bq ds) ∧ ∀b,cF g aZ b→cF g' (forget keep ⟨tm,nt,mem,fix,bq,aZ⟩).aZ b from by
  rw[this]
  exact⟨g,h,bO.refl _ _ _,aP.refl _ _,rfl,fun _ q=>q,fun _ q=>q⟩)
 cases bq with
 |cons i bq=>exact stay rfl
 |nil=>
  cases aZ with
  |round i=>exact stay rfl
  |late=>exact stay rfl
  |call=>
   obtain⟨hnd,jF⟩:=cS mem fix (keep.map (look tm))
   obtain⟨h1,h2⟩:=h.rel.pack hnd
   have hlen:fix≤(close mem fix (keep.map (look tm))).length:=by
    rcases Nat.eq_zero_or_pos fix with e | e
    · omega
    · have:=aM (jF (fix-1) (by omega));omega
   refine⟨g.pack (close mem fix (keep.map (look tm))),⟨wJ keep tm fun k=>(h.tm k).fU (bK.pack g _),h.nt,h1,?_,h.ct.mono fun _ _ p=>⟨p,rfl⟩⟩,?_,?_,rfl,?_,fun _ q=>q⟩
   · show fix≤(Am.pack mem _).length
     simpa[Am.pack] using hlen
   · exact⟨Nat.le_refl _,fun _ _ _=>rfl,fun _ _ p=>⟨p,rfl⟩,fun _ _ p=> .inl p,fun c ho=> .inl (h2 c ho),rfl,rfl,rfl⟩
   · intro k c hk hc
     have:=jF k hk
     simp[Gh.pack,this,hc]
   · intro ds hd
     cases ds with
     |nil=>exact trivial
     |cons _ _=>exact hd.elim
theorem qx {st:St} {a:Act} (h:bn E g st a w) (keep:Option (List Nat)) : ∃g',bn E g' (fc keep st) a w∧bO g st.mem w g' (fc keep st).mem w∧aP g g' st.fix∧(fc keep st).fix=st.fix∧(∀ds,Mk g st.bq ds→Mk g' (fc keep st).bq ds) ∧ ∀b,cF g st.aZ b→cF g' (fc keep st).aZ b:=by
 cases keep with
 |none=>exact⟨g,h,bO.refl _ _ _,aP.refl _ _,rfl,fun _ q=>q,fun _ q=>q⟩
 |some keep=>exact tj h keep
theorem jG (keep:Option (List Nat)) (k:List It):cg (cP keep k)=cg k:=by cases keep<;>rfl
theorem jH {keep:Option (List Nat)} {k:List It} (h : ∀x∈k,It.pl x) : ∀x∈cP keep k,It.pl x:=by
 cases keep with
 |none=>exact h
 |some keep=>
  intro x hx
  cases hx with
  |head=>exact trivial
  |tail _ hx=>exact h x hx
theorem qy {st:St} {a:Act} {i l:Nat} {f:FuncId} {ps:Array Tmp} {as bd:Code} {s s':LoopState} {pd zp:Option Code} {vals:List AV}
  (h:bn E g st a w) (hl:g.aN i=some l) (hb:st.mem.getD i .dead = .ob (.loop f ps as bd s pd) vals) :
  ∃r:Loop,w.heap[l]? = some (.loop r)∧r.state=s ∧
   Rel g (st.mem.set i (.ob (.loop f ps as bd s' zp) vals)) (w.putObj l (.loop {r with state:=s',pending:=zp})) ∧
   Ext g w g (w.putObj l (.loop {r with state:=s',pending:=zp})) ∧
   bO g st.mem w g (st.mem.set i (.ob (.loop f ps as bd s' zp) vals)) (w.putObj l (.loop {r with state:=s',pending:=zp})) ∧
   dH g st.mem l:=by
 have hib:=getD_some hb (by simp)
 obtain⟨c,ob,vs,k1,k2,k3,k4,_⟩:=h.rel.obs i _ _ hib
 rw[hl] at k1;cases k1
 obtain⟨D,rfl⟩:=k4
 obtain⟨e1,e2,e3⟩:=cj w (o':= .loop {state:=s',pending:=zp,fn:=f,tmps:=vs.toArray,params:=ps,assign:=as,body:=bd,defers:=D}) k2
 obtain⟨r1,r2,r3⟩:=h.rel.eE (xO:= .loop f ps as bd s' zp) (l':=vals) (vs':=vs) hib hl e1 e2 rfl rfl rfl e3 ⟨D,rfl⟩ k3
 exact⟨_,k2,rfl,r1,r2,r3,i,_,hib,rfl,hl⟩
theorem jI {c:bD} {b:Frame} {a:Act} {i l:Nat} {jump:Option Code} {todo:List Item} (hs:bn E g c.st a w) (Mp:c.st.aZ = .round i) (hl:g.aN i=some l) (qg:b.fn=c.f)
  (hst : ∀(v:Value) (w':World),(Instr.endRound l jump).run P w = .ok v w' → ∀(d:Frame) (cs:List Frame),_root_.Go.step P (lone (b.atR a todo) (d::cs) w) = .next (lone (d.finish v) cs w')) :
  uM P E g c (b.atR a todo) w (jg c i jump):=by
 unfold jg
 split
 · rename_i f ps as bd s pd vals hb
   dsimp only
   cases hlt:Nat.blt i c.st.fix with
   |false=>trivial
   |true=>
   rw[Nat.blt_eq] at hlt
   intro cs
   obtain⟨r,q1,_,q2,q3,q4,q5⟩:=qy (s':=dm jump) (zp:=jump) hs hl hb
   have hrun:=run_endRound (P:=P) jump q1
   have FG:(if jump.isNone then LoopState.ready else .done)=(dm jump):=by cases jump<;>rfl
   rw[FG] at hrun
   generalize hm:c.st.mem.set i (.ob (.loop f ps as bd (dm jump) jump) vals)=m at *
   obtain⟨hnd,jF⟩:=cS m c.st.fix []
   generalize BP:close m c.st.fix []=ord at *
   obtain⟨p1,p2⟩:=q2.pack hnd
   have hlen:c.st.fix≤ord.length:=by
    rcases Nat.eq_zero_or_pos c.st.fix with e | e
    · omega
    · have:=aM (jF (c.st.fix-1) (by omega));omega
   have own : ∀c',dH (g.pack ord) (Am.pack m ord) c'→dH g c.st.mem c':=fun c' ho=>(q4.owned c' (p2 c' ho)).elim id fun hh=>by
    have h1:=q2.gW (p2 c' ho)
    rw[World.putObj_size] at h1
    omega
   refine⟨g.pack ord,_,w,Steps.refl _ _,⟨qg,.bool jump.isNone,_,?_,.p _ _ (.sc _),p1,?_,?_⟩,?_,?_,rfl,rfl,rfl⟩
   · show BG P c.st.aZ _ w _ _
     rw[Mp]
     exact fun d cs=> .one (hst _ _ hrun d cs)
   · have Mq:dH (g.pack ord) (Am.pack m ord) l:=by
      have hi:=jF i hlt
      have J5:m[i]? = some (.ob (.loop f ps as bd (dm jump) jump) vals):=by
       rw[←hm,List.getElem?_set_self (aM (getD_some hb (by simp)))]
      refine⟨i,ez (idx ord) (.ob (.loop f ps as bd (dm jump) jump) vals),?_,rfl,by simp[Gh.pack,hi,hl]⟩
      unfold Am.pack
      rw[List.getElem?_map,hi]
      simp[List.getD_eq_getElem?_getD,J5]
     exact⟨by simp,fun c' _ hno=>World.putObj_heap_other fun e=>hno (e▸Mq),fun c' o p=>⟨p,(q4.pure c' o p).2⟩,fun _ _ p=> .inl p,fun _ ho=> .inl ho,rfl,rfl,rfl⟩
   · show c.st.fix≤(Am.pack m ord).length
     simpa[Am.pack] using hlen
   · exact⟨Nat.le_refl _,fun _ _ _=>rfl,fun _ _ p=>⟨p,rfl⟩,fun _ _ p=> .inl p,fun c' ho=> .inl (own c' ho),rfl,rfl,rfl⟩
   · intro k c' hk cY
     have:=jF k hk
     simp[Gh.pack,this,cY]
 · trivial
theorem eI {c:bD} {fr:Frame} (h:bH P E g c fr w):uM P E g c fr w (Am.step P E c):=by
 obtain⟨f,todo,st⟩:=c
 cases todo with
 |nil=>
  obtain⟨b,a,rfl,h1,h2,h3,h4,_⟩:=h
  simp only[Am.step]
  split
  · rename_i i hr
    rw[hr] at h2
    obtain⟨hk,l,hl,hro⟩:=h2
    exact jI (c:=⟨f,[],st⟩) h4 hr hl h1 fun v w' hrun d cs=>stepR_round_end hro hk hrun
  · rename_i qh
    have qh : ∀i,st.aZ ≠ .round i:=fun i e=>qh i e
    exact th (c:=⟨f,[],st⟩) (b:=b) (a:=a) (todo:=[]) h4 h2 qh h1 h3 fun cs=> .one (stepR_end (h2.uK qh))
 |cons x k=>
  by_cases jB:It.pl x
  case neg=>
   cases x with
   |fin=>
    obtain⟨h1,cv,w2,h2,h3,h4,h6,h5⟩:=h
    exact⟨h1,rfl,cv,w2,h2,h3,h4,h6,h5⟩
   |rG u=>
    obtain⟨h1,cv,h2,h3,h4,h5⟩:=h
    exact⟨h1,rfl,cv,h2,h3,h4,h5⟩
   |eD u=>
    obtain⟨b,a,todo,cv,rfl,h1,h2,h3,h4,h5⟩:=h
    exact At (c:=⟨f,.eD u::k,st⟩) h4 h2 h1 h3 h5
   |leave=>
    obtain⟨b,a,todo,rfl,h1,h2,h3,_,h5,h6⟩:=h
    exact qv (c:=⟨f,.leave::k,st⟩) (b:=b) (a:=a) (todo:=todo) h6 h2 h3 h1 h5 fun cs=>Steps.refl _ _
   |_=>exact absurd trivial jB
  have h' : ∃(b:Frame) (a:Act),fr=b.atR a (er x++cg k)∧b.fn=f∧cF g st.aZ b∧Mk g st.bq a.defers∧bn E g st a w ∧ ∀y∈x::k,It.pl y:=by
   cases x<;>first
    |exact absurd jB id
    |exact h
  obtain⟨b,a,rfl,h1,h2,h3,h4,Mr⟩:=h'
  have hk : ∀y∈k,It.pl y:=fun y hy=>Mr y (.tail _ hy)
  clear h
  cases x with
  |fin=>exact absurd jB id
  |rG u=>exact absurd jB id
  |eD u=>exact absurd jB id
  |leave=>exact absurd jB id
  |begin=>
   simp only[Am.step]
   split
   · rename_i i hr
     unfold o9
     split
     · rename_i f' ps as bd pd vals hb
       intro cs
       have h2':=h2
       rw[hr] at h2'
       obtain⟨_,l,hl,hro⟩:=h2'
       obtain⟨r,q1,q0,q2,q3,q4,_⟩:=qy (s':= .busy) (zp:=pd) h4 hl hb
       have hp:r.pending=pd:=by
        have hib:=getD_some hb (by simp)
        obtain⟨c,ob,vs,k1,k2,k3,k4,_⟩:=h4.rel.obs i _ _ hib
        rw[hl] at k1;cases k1
        obtain⟨D,rfl⟩:=k4
        rw[q1] at k2;cases k2
        rfl
       have hrun:=run_beginRound (P:=P) q1 q0
       rw[show({r with state:= .busy}:Loop)={r with state:= .busy,pending:=pd} by rw[←hp]] at hrun
       refine⟨g,_,_,.one (stepR_beginRound hro hrun),bH.mk (a:=a) (c:=⟨f,k,{st with mem:=st.mem.set i (.ob (.loop f' ps as bd .busy pd) vals)}⟩) hk h1 h2 h3 ⟨fun j=>(h4.tm j).mono q3,h4.nt,q2,by simpa using h4.fix,h4.ct.mono q3.pure⟩,q4,aP.refl _ _,rfl,rfl,rfl⟩
     · trivial
   · trivial
  |inScope bd=>exact cL.quiet (fun cs=> .one (step_lone_go (by simp[stepG,stepG.exec,Frame.atR,er]))) hk h1 rfl h2 h3 h4 rfl rfl
  |inBlock id=>exact cL.quiet (fun cs=> .one stepR_inBlock) hk h1 rfl h2 h3 h4 rfl rfl
  |forget keep=>
   intro cs
   obtain⟨g',q1,q2,q3,q4,q5,q6⟩:=tj h4 keep
   exact⟨g',_,w,Steps.refl _ _,bH.mk (c:=⟨f,k,forget keep st⟩) hk h1 (q6 _ h2) (q5 _ h3) q1,q2,q3,rfl,q4,qw⟩
  |inLoop i body=>
   intro cs
   obtain⟨g',q1,q2,q3,q4,q5,q6⟩:=qx h4 (E.keep f (2*i))
   exact⟨g',_,w,.one stepR_inLoop,bH.mk (c:=⟨f,.code (i+1) body :: .inLoop i body::k,fc (E.keep f (2*i)) st⟩) (nf trivial (nf trivial hk)) h1 (q6 _ h2) (q5 _ h3) q1,q2,q3,rfl,q4,n8⟩
  |ops aU ops i sure=>
   simp only[Am.step]
   cases ho:ops[i]? with
   |none=>
    have hi:ops.size-i=0:=by
     have:ops.size≤i:=by
      rcases Nat.lt_or_ge i ops.size with q | q
      · rw[Array.getElem?_eq_getElem q] at ho;cases ho
      · exact q
     omega
    refine cL.quiet (c':=⟨f,k,st⟩) (fun cs=> .one ?_) hk h1 rfl h2 h3 h4 rfl rfl
    simp only[er,hi,List.range'_zero,List.cons_append,List.nil_append]
    exact stepR_region_end
   |some o=>
    obtain⟨w1,w2,w3⟩:=kf h4 (ops:=ops) (o:=o)
    have hi:i<ops.size:=by
     rcases Nat.lt_or_ge i ops.size with q | q
     · exact q
     · rw[Array.getElem?_eq_none q] at ho;cases ho
    have skip:Region.wanted o (yielded ops a.tmps)=false→fits st o.dst=true→cL P E g ⟨f,.ops aU ops i sure::k,st⟩ (b.atR a (er (.ops aU ops i sure)++cg k)) w ⟨f,.ops aU ops (i+1) false::k,put st o.dst (.aO [])⟩:=by
     intro hw hf cs
     have hst:=stepR_op_skip (P:=P) (b:=b) (a:=a) (k:=cg k) (cs:=cs) (w:=w) (ops:=ops) (i:=i) (rest:=List.range' (i+1) (ops.size-(i+1))) (by simp[ho,hw])
     simp only[ho,Option.bind_some] at hst
     rw[←jA hi] at hst
     have hp:=h4.put (v:= .aO []) (cv:=undef) hf (VA.fY.2 trivial) (Ext.refl g w) h4.rel h4.fix
     refine⟨g,_,w,.one hst,bH.mk (a:=a.put o.dst undef) (c:=⟨f,.ops aU ops (i+1) false::k,put st o.dst (.aO [])⟩) (nf trivial hk) h1 (h2.put (Ext.refl g w) rfl) (h3.put (Ext.refl g w) rfl) hp,?_,aP.refl _ _,rfl,?_,fN⟩
     · have:(put st o.dst (.aO [])).mem=st.mem:=by unfold Am.put;cases o.dst<;>rfl
       show bO g st.mem w g (put st o.dst (.aO [])).mem w
       rw[this];exact bO.refl _ _ _
     · show(put st o.dst (.aO [])).fix=st.fix
       unfold Am.put;cases o.dst<;>rfl
    dsimp only
    cases Ao:cw ops st.tm o with
    |yes=>exact zk (c:=⟨f,.ops aU ops i sure::k,st⟩) h4 h1 h2 h3 ho (w1 Ao) hk
    |no=>
     dsimp only
     cases hf:fits st o.dst with
     |false=>trivial
     |true=>exact skip (w2 Ao) hf
    |lost=>trivial
    |ask d bb want=>
     obtain⟨q1,q2⟩:=w3 d bb want Ao
     dsimp only
     cases sure with
     |false=>
      have known : ∀b':Bool,bb=b'→cL P E g ⟨f,.ops aU ops i false::k,st⟩ (b.atR a (er (.ops aU ops i false)++cg k)) w ⟨f,.ops aU ops i true::k,put st (some d) (sB b')⟩:=by
       intro b' e
       subst e
       refine cL.quiet (c':=⟨f,.ops aU ops i true::k,put st (some d) (sB bb)⟩) (fun cs=>Steps.refl _ _) (nf trivial hk) h1 rfl h2 h3 (h4.known ?_) rfl rfl
       rw[q2];exact .p _ _ (.sc _)
      exact⟨known true,known false⟩
     |true=>
      dsimp only
      cases hb:bb==want with
      |true=>exact zk (c:=⟨f,.ops aU ops i true::k,st⟩) h4 h1 h2 h3 ho (q1.trans hb) hk
      |false=>
       dsimp only
       cases hf:fits st o.dst with
       |false=>trivial
       |true=>exact skip (q1.trans hb) hf
  |code i code=>
   cases code with
   |skip=>exact cL.quiet (c':=⟨f,k,st⟩) (fun cs=> .one stepR_skip) hk h1 rfl h2 h3 h4 rfl rfl
   |region id ops draw=>
    cases draw with
    |true=>
     simp only[Am.step]
     split
     · rename_i st' ok hq
       intro hok cs
       subst hok
       obtain⟨g',a',w',r1,r2,r3,r4,r5,r6,r7⟩:=DH (b:=b) (k:=cg k) h4 hq
       refine⟨g',_,w',r1 cs,bH.mk (a:=a') (c:=⟨f,k,{st' with bq:=st.bq,aZ:=st.aZ}⟩) hk h1 (h2.ext r7) (by rw[r2];exact h3.ext r7) ⟨r3.tm,r3.nt,r3.rel,r3.fix,r3.ct⟩,r4,r5,rfl,r6,rfl⟩
     · split
       · rename_i Kj hq
         obtain⟨st',hm,g',a',w',r1,r2,r3,r4,r5,r6,r7⟩:=DN (b:=b) (k:=cg k) (aU:=id) h4 hq
         intro cs
         exact⟨_,List.mem_map.2 ⟨st',hm,rfl⟩,g',_,w',r1 cs,bH.mk (a:=a') (c:=⟨f,k,{st' with bq:=st.bq,aZ:=st.aZ}⟩) hk h1 (h2.ext r7) (by rw[r2];exact h3.ext r7) ⟨r3.tm,r3.nt,r3.rel,r3.fix,r3.ct⟩,r4,r5,rfl,r6,rfl⟩
       intro O st' hO hq cs
       obtain⟨g',a',w',r1,r2,r3,r4,r5,r6,r7⟩:=FE (b:=b) (k:=k) hO h4 hq cs
       have hk' : ∀y∈eT id ops k,It.pl y:=by
        unfold eT
        cases mR ops with
        |false=>exact hk
        |true=>exact nf trivial hk
       exact⟨g',_,w',r1,bH.mk (a:=a') (c:=⟨f,eT id ops k,{st' with bq:=st.bq,aZ:=st.aZ}⟩) hk' h1 (h2.ext r7) (by rw[r2];exact h3.ext r7) ⟨r3.tm,r3.nt,r3.rel,r3.fix,r3.ct⟩,r4,r5,rfl,r6,rfl⟩
    |false=>
     refine cL.quiet (c':=⟨f,.ops id ops 0 false::k,st⟩) (fun cs=> .one ?_) (nf trivial hk) h1 rfl h2 h3 h4 rfl rfl
     have:=stepR_region (P:=P) (b:=b) (a:=a) (k:=cg k) (cs:=cs) (w:=w) (ops:=ops) (id:=id)
     simpa[cg,er,List.range_eq_range'] using this
   |seq x y=>exact cL.quiet (c':=⟨f,.code i x :: .code (i+nodes x) y::k,st⟩) (fun cs=> .one stepR_seq) (nf trivial (nf trivial hk)) h1 rfl h2 h3 h4 rfl rfl
   |cond x y z=>
    simp only[Am.step]
    split
    · rename_i t hx
      have hv:=dQ h4 x
      rw[hx,VA.pv] at hv
      generalize hz:a.eval x=cv at hv
      cases hv
      refine⟨fun e=> ?_,fun e=> ?_⟩<;>subst e
      · refine cL.quiet (c':=⟨f,.code (i+1) y::cP (E.keep f (2*i)) k,st⟩) (fun cs=> .one ?_) (nf trivial (jH hk)) h1 rfl h2 h3 h4 rfl rfl
        simp only[cg,jG];exact stepR_cond hz
      · refine cL.quiet (c':=⟨f,.code (i+1+nodes y) z::cP (E.keep f (2*i)) k,st⟩) (fun cs=> .one ?_) (nf trivial (jH hk)) h1 rfl h2 h3 h4 rfl rfl
        simp only[cg,jG];exact stepR_cond hz
    · trivial
   |block id body=>exact cL.quiet (c':=⟨f,.code i body :: .inBlock id::k,st⟩) (fun cs=> .one stepR_block) (nf trivial (nf trivial hk)) h1 rfl h2 h3 h4 rfl rfl
   |loop body=>
    intro cs
    obtain⟨g',q1,q2,q3,q4,q5,q6⟩:=qx h4 (E.keep f (2*i))
    refine⟨g',b.atR a (cg (.code (i+1) body :: .inLoop i body::cP (E.keep f (2*i+1)) k)),w,.one ?_,bH.mk (c:=⟨f,.code (i+1) body :: .inLoop i body::cP (E.keep f (2*i+1)) k,fc (E.keep f (2*i)) st⟩) (nf trivial (nf trivial (jH hk))) h1 (q6 _ h2) (q5 _ h3) q1,q2,q3,rfl,q4,n8⟩
    simp only[cg,jG];exact stepR_loop
   |exit id=>
    simp only[Am.step]
    split
    · rename_i k' hk'
      exact cL.quiet (c':=⟨f,k',st⟩) (fun cs=> .one (stepR_exit (bW hk'))) (lu hk hk') h1 rfl h2 h3 h4 rfl rfl
    · rename_i hx
      split
      · rename_i j hr
        rw[hr] at h2
        obtain⟨hk,l,hl,hro⟩:=h2
        exact jI (c:=⟨f,.code i (.exit id)::k,st⟩) h4 hr hl h1 fun v w' hrun d cs=>stepR_round_exit hro hk (bE hx) hrun
      · trivial
   |scope bd=>exact cL.quiet (c':=⟨f,.code i bd :: .inScope bd::k,st⟩) (fun cs=> .one (step_lone_go (by simp[stepG,stepG.exec,Frame.atR,cg,er]))) (nf trivial (nf trivial hk)) h1 rfl h2 h3 h4 rfl rfl
   |label l=>exact cL.quiet (c':=⟨f,k,st⟩) (fun cs=> .one stepR_label) hk h1 rfl h2 h3 h4 rfl rfl
   |goto l=>
    simp only[Am.step]
    split
    · rename_i k' hk'
      exact cL.quiet (c':=⟨f,k',st⟩) (fun cs=> .one (stepR_goto (bX hk'))) (lq hk hk') h1 rfl h2 h3 h4 rfl rfl
    · trivial
   |rangeFunc x ps as bd=>
    simp only[Am.step]
    split
    · rename_i hr
      have h2':=h2
      rw[hr] at h2'
      unfold yW
      split
      · rename_i gf first captured hx
        dsimp only
        cases hlt:fq (close (bY st f ps as bd) 0 (first++[.vy (st.mem.length+1)]++captured)) (bY st f ps as bd).length with
        |false=>trivial
        |true=>
         subst h1
         intro v m1 hd m2 pd hend cs
         obtain⟨g',a',w',s1,s2,s3,s4,s5,s6⟩:=BV (P:=P) (k:=cg k) h4 h2'.2 h3 hx hlt hd hend cs
         have e:(pd.map Item.code).toList++cg k=cg (behind ⟨b.fn,k,{st with mem:=bY st b.fn ps as bd,bq:= .range st.mem.length::st.bq}⟩ m2 pd).todo:=by
          cases pd<;>rfl
         rw[e] at s1
         refine⟨g',_,w',s1,bH.mk (a:=a') (c:=behind ⟨b.fn,k,{st with mem:=bY st b.fn ps as bd,bq:= .range st.mem.length::st.bq}⟩ m2 pd) ?_ rfl (h2.ext s6) s2 s3,s4,s5,rfl,rfl,rfl⟩
         cases pd with
         |none=>exact hk
         |some code=>exact nf trivial hk
      · trivial
    · trivial
   |ret=>
    simp only[Am.step]
    split
    · rename_i j hr
      rw[hr] at h2
      obtain⟨hk,l,hl,hro⟩:=h2
      exact jI (c:=⟨f,.code i .ret::k,st⟩) h4 hr hl h1 fun v w' hrun d cs=>stepR_round_ret hro hk hrun
    · rename_i qh
      have qh : ∀i,st.aZ ≠ .round i:=fun i e=>qh i e
      exact th (c:=⟨f,.code i .ret::k,st⟩) (b:=b) (a:=a) (todo:= .code .ret::cg k) h4 h2 qh h1 h3 fun cs=> .one (stepR_ret (h2.uK qh))
   |_=>trivial
end
end Go.Am
end
section
namespace Go.Am
open Go.RowKit
def ec (P:Program):Prop:= ∀(f:FuncId) (fn:Func),P.funcs[f]? = some fn→(fn.name == "runtime.NumGoroutine")=false
def Good (P:Program) (E:Env) (c:bD) (o:Out):Prop:=
 ∀(g:Gh) (fr:Frame) (w:World) (cs:List Frame),bH P E g c fr w→match o with
  |.ret v m'=> ∃g' fr' w' cv w2,Steps P (lone fr cs w) (lone fr' cs w')∧BG P c.st.aZ fr' w' cv w2∧fr'.fn=c.f∧VA g' w2 v cv∧Rel g' m' w2∧bO g c.st.mem w g' m' w2∧aP g g' c.st.fix∧c.st.fix≤m'.length
  |.rB v m'=> ∃g' fr' w' cv,Steps P (lone fr cs w) (lone fr' cs w')∧fr'.leaving P w' (.panicked [{v:=cv,recovered:=false}])∧fr'.fn=c.f∧VA g' w' v cv∧Rel g' m' w'∧bO g c.st.mem w g' m' w'∧aP g g' c.st.fix∧c.st.fix≤m'.length
section
variable {P:Program} {E:Env}
theorem Good.aH {c c':bD} {o:Out} (hg : ∀g fr w,bH P E g c fr w→cL P E g c fr w c') (h:Good P E c' o):Good P E c o:=by
 intro g fr w cs hc
 obtain⟨g',fr',w',q1,q2,q3,q4,q5,q6,q7⟩:=hg g fr w hc cs
 cases o with
 |ret v m'=>
  obtain⟨g2,DO,w2,cv,w3,r1,r2,r3,r4,r5,r6,r7,r8⟩:=h g' fr' w' cs q2
  refine⟨g2,DO,w2,cv,w3,q1.trans r1,by rw[←q7];exact r2,r3.trans q5,r4,r5,q3.trans r6,q4.trans ?_,by rw[←q6];exact r8⟩
  rw[←q6];exact r7
 |rB v m'=>
  obtain⟨g2,DO,w2,cv,r1,r2,r3,r4,r5,r6,r7,r8⟩:=h g' fr' w' cs q2
  refine⟨g2,DO,w2,cv,q1.trans r1,r2,r3.trans q5,r4,r5,q3.trans r6,q4.trans ?_,by rw[←q6];exact r8⟩
  rw[←q6];exact r7
theorem lz : ∀n,upTo n=List.range n
 |0=>rfl
 |n+1=>by rw[upTo,lz n,List.range_succ]
theorem lA : ∀(l:List AV) (s k:Nat),look ((List.range' s l.length).zip l) k=if s≤k then l.getD (k-s) .ah else .ah
 |[],s,k=>by simp[look]
 |v::l,s,k=>by
  simp only[List.length_cons,List.range'_succ,List.zip_cons_cons,fP]
  by_cases e:s=k
  · subst e;simp
  · simp only[e,if_false]
    rw[lA l (s+1) k]
    by_cases h:s+1≤k
    · have h1:s≤k:=by omega
      have h2:k-s=(k-(s+1))+1:=by omega
      simp[h,h1,h2]
    · have h1 : ¬s≤k:=by omega
      simp[h,h1]
def yh:Bool→EM
 |false=> .call
 |true=> .late
def kindOf:Bool→CallKind
 |false=> .normal
 |true=> .deferred
theorem bH.BW {g:Gh} {w:World} {f:FuncId} {args:List AV} {m:Mem} {c:bD} {bS:Array Value} (z:Bool) (hi:init P f args m=some c) (hr:Rel g m w) (ha:bM g w args bS.toList) (hg:dJ E g w) :
  bH P E g {c with st:={c.st with aZ:=yh z}} (Frame.enter P f bS (kindOf z)) w:=by
 unfold init at hi
 split at hi
 · rename_i fn hf
   split at hi
   · rename_i body hb
     simp only[Option.some.injEq] at hi;subst hi
     have hlen:=ha.len
     simp only[Array.length_toList] at hlen
     let b:Frame:={(default:Frame) with fn:=f,kind:=kindOf z,roundOf:=none}
     have Ib:Frame.enter P f bS (kindOf z)=b.atR {tmps:=bS++Array.replicate (fn.ntmps-bS.size) undef,defers:=[]} [.code body]:=by
      simp[Frame.enter,Frame.atR,hf,hb,b]
     rw[Ib]
     refine bH.mk (c:=⟨f,[.code 0 body],⟨(upTo args.length).zip args,max fn.ntmps args.length,m,m.length,[],yh z⟩⟩) (nf trivial (fun _ h=>by cases h)) rfl (by cases z<;>exact⟨rfl,rfl⟩) trivial ⟨?_,?_,hr,Nat.le_refl _,hg⟩
     · intro k
       rw[lz,List.range_eq_range',lA]
       simp only[Nat.zero_le,if_true,Nat.sub_zero]
       rcases Nat.lt_or_ge k args.length with hk | hk
       · rw[List.getD_eq_getElem?_getD,List.getElem?_eq_getElem hk]
         have hk':k<bS.toList.length:=by simp;omega
         have hk2:k<bS.size:=by omega
         have:=ha.get k hk hk'
         simp only[Option.getD_some,Array.getD_eq_getD_getElem?]
         rw[Array.getElem?_append_left hk2,Array.getElem?_eq_getElem hk2]
         simpa using this
       · rw[List.getD_eq_getElem?_getD,List.getElem?_eq_none hk]
         exact .ah _
     · simp;omega
   · cases hi
 · cases hi
theorem mC {f:FuncId} {args:List AV} {m:Mem} {c:bD} (hi:init P f args m=some c):c.st.mem=m∧c.st.fix=m.length∧c.f=f∧c.st.aZ = .call:=by
 unfold init at hi
 split at hi
 · split at hi
   · simp only[Option.some.injEq] at hi;subst hi;exact⟨rfl,rfl,rfl,rfl⟩
   · cases hi
 · cases hi
theorem bH.enter {g:Gh} {w:World} {f:FuncId} {args:List AV} {m:Mem} {c:bD} {bS:Array Value} (hi:init P f args m=some c) (hr:Rel g m w) (ha:bM g w args bS.toList) (hg:dJ E g w) :
  bH P E g c (Frame.enter P f bS .normal) w:=by
 have h:=bH.BW (P:=P) false hi hr ha hg
 have e:({c with st:={c.st with aZ:=yh false}}:bD)=c:=by
  obtain⟨_,_,_,h4⟩:=mC hi
  obtain⟨f,t,tm,nt,mem,fix,bq,aZ⟩:=c
  simp only at h4
  subst h4
  rfl
 rw[e] at h
 exact h
theorem ng (hN:ec P) {f:FuncId} {args:List AV} {m:Mem} {c:bD} (hi:init P f args m=some c) : ∃fn,P.funcs[f]? = some fn∧fn.body.isSome=true∧(fn.name == "runtime.NumGoroutine")=false:=by
 unfold init at hi
 split at hi
 · rename_i fn hf
   split at hi
   · rename_i body hb
     exact⟨fn,hf,by simp[hb],hN f fn hf⟩
   · cases hi
 · cases hi
theorem kK (hN:ec P) {f:FuncId} {args:List AV} {m:Mem} {c:bD} {v:AV} {m':Mem} (hi:init P f args m=some c) (h:Good P E c (.rB v m')):BH P E f args m v m':=by
 refine⟨ng hN hi,fun g w bS cs hr ha hg=> ?_⟩
 obtain⟨g',fr',w',cv,q1,q2,q3,q4,q5,q6,q7,q8⟩:=h g _ w cs (bH.enter hi hr ha hg)
 obtain⟨e1,e2,e3,e4⟩:=mC hi
 rw[e1] at q6;rw[e2] at q7 q8;rw[e3] at q3
 exact⟨_,g',cv,fr',q1,q2,q3,q4,q5,q6,q7,q8⟩
theorem cT (hN:ec P) {f:FuncId} {args:List AV} {m:Mem} {c:bD} {v:AV} {m':Mem} (hi:init P f args m=some c) (h:Good P E c (.ret v m')):aB P E f args m v m':=by
 refine⟨ng hN hi,fun g w bS cs hr ha hg=> ?_⟩
 obtain⟨g',fr',w',cv,w2,q1,q2,q3,q4,q5,q6,q7,q8⟩:=h g _ w cs (bH.enter hi hr ha hg)
 obtain⟨e1,e2,e3,e4⟩:=mC hi
 rw[e1] at q6;rw[e2] at q7 q8;rw[e3] at q3;rw[e4] at q2
 obtain⟨q2,rfl⟩:=q2
 exact⟨_,g',cv,fr',q1,q2,q3,q4,q5,q6,q7,q8⟩
theorem mD {g:Gh} {w:World} : ∀(ds:List Nat) (vs:List AV) (mA:List Value) (tm:mO) (t:Array Value),bM g w vs mA→ds.length=vs.length→(∀d∈ds,d<t.size)→(∀k,VA g w (look tm k) (t.getD k undef)) →
  (∀k,VA g w (look (xM tm ds vs) k) (((ds.zip mA).foldl (fun t (q:Nat×Value)=>t.setIfInBounds q.1 q.2) t).getD k undef))∧((ds.zip mA).foldl (fun t (q:Nat×Value)=>t.setIfInBounds q.1 q.2) t).size=t.size
 |[],[],[],tm,t,_,_,_,h=>⟨h,rfl⟩
 |d::ds,v::vs,cv::mA,tm,t,hv,hl,hd,h=>by
  have hdt:=hd d (.head _)
  obtain⟨q1,q2⟩:=mD ds vs mA ((d,v)::tm) (t.setIfInBounds d cv) hv.2 (by simpa using hl) (fun d' hd'=>by simpa using hd d' (.tail _ hd')) fun k=>by
   simp only[fP]
   by_cases hk:d=k
   · subst hk
     simp only[if_true,Array.getD_eq_getD_getElem?,Array.getElem?_setIfInBounds_self_of_lt hdt,Option.getD_some]
     exact hv.1
   · simp only[hk,if_false,Array.getD_eq_getD_getElem?]
     rw[Array.getElem?_setIfInBounds_ne hk,←Array.getD_eq_getD_getElem?]
     exact h k
  exact⟨q1,q2.trans (by simp)⟩
 |[],_::_,_,_,_,_,hl,_,_=>by simp at hl
 |_::_,[],_,_,_,_,hl,_,_=>by simp at hl
 |[],[],_::_,_,_,h,_,_,_=>h.elim
 |_::_,_::_,[],_,_,h,_,_,_=>h.elim
theorem kL {args:List AV} {m:Mem} {c:bD} {v:AV} {m':Mem} (hi:vG args m=some c) (h:Good P E c (.ret v m')):zj P E args m v m':=by
 intro g w i l xs Dz d cs hargs hr hl hx hg
 subst hargs
 unfold vG at hi
 dsimp only at hi
 split at hi
 · rename_i f ps as bd s pd vals hb
   cases hc:(Nat.beq xs.length ps.toList.length&&fq ps.toList vals.length) with
   |false=>rw[hc] at hi;cases hi
   |true=>
    rw[hc] at hi
    simp only[cond_true,Option.some.injEq] at hi
    simp only[Bool.and_eq_true] at hc
    have hlen:=Nat.eq_of_beq_eq_true hc.1
    have hlt:=dG hc.2
    have hib:=getD_some hb (by simp)
    obtain⟨c0,ob,vs,k1,k2,k3,k4,_⟩:=hr.obs i _ _ hib
    rw[hl] at k1;cases k1
    obtain⟨D,rfl⟩:=k4
    have hxl:=hx.len
    simp only[Array.length_toList] at hxl
    have hvl:=k3.len
    have yj:=run_yield (P:=P) (args:=Dz) k2 (by show Dz.size=ps.size;simp at hlen;omega)
    dsimp only at yj
    have y8:(ps.zip Dz).foldl (fun tmps (t,a)=>tmps.setIfInBounds t a) vs.toArray=(ps.toList.zip Dz.toList).foldl (fun t (q:Nat×Value)=>t.setIfInBounds q.1 q.2) vs.toArray:=by
     rw[←Array.foldl_toList,Array.toList_zip]
    rw[y8] at yj
    obtain⟨t1,t2⟩:=mD ps.toList xs Dz.toList ((upTo vals.length).zip vals) vs.toArray hx hlen.symm (fun d hd=>by have:=hlt d hd;simp;omega) fun k=>by
     rw[lz,List.range_eq_range',lA]
     simp only[Nat.zero_le,if_true,Nat.sub_zero]
     rcases Nat.lt_or_ge k vals.length with hk | hk
     · rw[List.getD_eq_getElem?_getD,List.getElem?_eq_getElem hk]
       have hk':k<vs.length:=by omega
       have:=k3.get k hk hk'
       simp only[Option.getD_some,Array.getD_eq_getD_getElem?]
       simpa[hk'] using this
     · rw[List.getD_eq_getElem?_getD,List.getElem?_eq_none hk]
       exact .ah _
    generalize (ps.toList.zip Dz.toList).foldl (fun t (q:Nat×Value)=>t.setIfInBounds q.1 q.2) vs.toArray=T at *
    let b:Frame:={(default:Frame) with fn:=f,kind:= .normal,roundOf:=some l}
    have Ib:Frame.round l f T as bd .normal=b.atR {tmps:=T,defers:=[]} (cg c.todo):=by
     rw[←hi]
     simp[Frame.round,Frame.atR,cg,er,b]
    have yl:bH P E g c (Frame.round l f T as bd .normal) w:=by
     rw[Ib]
     subst hi
     exact bH.mk (nf trivial (nf trivial (nf trivial fun _ h=>by cases h))) rfl ⟨rfl,l,hl,rfl⟩ trivial ⟨t1,by rw[t2];simp;omega,hr,Nat.le_refl _,hg⟩
    have hm:c.st.mem=m∧c.st.fix=m.length∧c.st.aZ = .round i:=by subst hi;exact⟨rfl,rfl,rfl⟩
    obtain⟨e1,e2,e3⟩:=hm
    obtain⟨g',fr',w',cv,w2,q1,q2,q3,q4,q5,q6,q7,q8⟩:=h g _ w (d::cs) yl
    rw[e1] at q6;rw[e2] at q7 q8;rw[e3] at q2
    exact⟨f,T,as,bd,w2,g',cv,yj,q1.trans (q2 d cs),q4,q5,q6,q7,q8⟩
 · cases hi
theorem tq {c:bD} {o:Out} (h:Am.step P E c = .done o):Good P E c o:=by
 intro g fr w cs hc
 have hs:=eI hc
 rw[h] at hs
 cases o with
 |ret v m'=>
  obtain⟨h1,rfl,cv,w2,h2,h3,h4,h6,h5⟩:=hs
  exact⟨g,fr,w,cv,w2,Steps.refl _ _,h2,h1,h3,h4,h6,aP.refl _ _,h5⟩
 |rB v m'=>
  obtain⟨h1,rfl,cv,h2,h3,h4,h5⟩:=hs
  exact⟨g,fr,w,cv,Steps.refl _ _,h2,h1,h3,h4,bO.refl _ _ _,aP.refl _ _,h5⟩
theorem nh {c c':bD} (h:Am.step P E c = .next c') : ∀g fr w,bH P E g c fr w→cL P E g c fr w c':=by
 intro g fr w hc
 have hs:=eI hc
 rw[h] at hs;exact hs
theorem tr {c c':bD} (h:Am.step P E c = .must true c') : ∀g fr w,bH P E g c fr w→cL P E g c fr w c':=by
 intro g fr w hc
 have hs:=eI hc
 rw[h] at hs;exact hs rfl
theorem tv {c y z:bD} {b:Bool} (h:Am.step P E c = .test b y z) : ∀g fr w,bH P E g c fr w→cL P E g c fr w (match b with | true=>y | false=>z):=by
 intro g fr w hc
 have hs:=eI hc
 rw[h] at hs
 cases b with
 |true=>exact hs.1 rfl
 |false=>exact hs.2 rfl
theorem hU {c c':bD} {f:FuncId} {args:List AV} {m:Mem} {ord:List Nat} {dst:Option Tmp} {v:AV} {m1:Mem} (h:Am.step P E c = .call f args m ord dst c') (hd:aB P E f args m v m1) :
  ∀g fr w,bH P E g c fr w→cL P E g c fr w {c' with st:=back ord dst c'.st v m1}:=by
 intro g fr w hc
 have hs:=eI hc
 rw[h] at hs
 exact hs.1 v m1 hd
theorem n9 {c c':bD} {f:FuncId} {args:List AV} {m:Mem} {ord:List Nat} {dst:Option Tmp} {v:AV} {m1:Mem} (h:Am.step P E c = .call f args m ord dst c') (hd:BH P E f args m v m1) :
  ∀g fr w,bH P E g c fr w→cL P E g c fr w (jh ord c' v m1):=by
 intro g fr w hc
 have hs:=eI hc
 rw[h] at hs
 exact hs.2 v m1 hd
theorem tw {c c':bD} {f:FuncId} {args:List AV} {m:Mem} {ord:List Nat} {pv:Option AV} {m1:Mem} (h:Am.step P E c = .late f args m ord pv c') (hd:BJ P E f args m pv m1) :
  ∀g fr w,bH P E g c fr w→cL P E g c fr w {c' with st:=back ord none c'.st (.aO []) m1}:=by
 intro g fr w hc
 have hs:=eI hc
 rw[h] at hs
 exact hs m1 hd
theorem gk {b:Frame} {a:Act} {cs:List Frame} {w:World} : ∀(n:Nat) (t t':List It),pE n t=some t'→(∀x∈t,It.pl x)→Steps P (lone (b.atR a (cg t)) cs w) (lone (b.atR a (cg t')) cs w) ∧ ∀x∈t',It.pl x
 |0,_,_,h,_=>by cases h
 |n+1,t,t',h,hp=>by
  unfold pE at h
  split at h
  · simp only[Option.some.injEq] at h;subst h
    exact⟨Steps.refl _ _,hp⟩
  · obtain⟨h1,h2⟩:=gk n _ t' h (nf trivial (nf trivial fun y hy=>hp y (.tail _ hy)))
    exact⟨.head stepR_seq h1,h2⟩
  · rename_i id ops k
    obtain⟨h1,h2⟩:=gk n _ t' h (nf trivial fun y hy=>hp y (.tail _ hy))
    refine⟨.head ?_ h1,h2⟩
    have:=stepR_region (P:=P) (b:=b) (a:=a) (k:=cg k) (cs:=cs) (w:=w) (ops:=ops) (id:=id)
    simpa[cg,er,List.range_eq_range'] using this
  · obtain⟨h1,h2⟩:=gk n _ t' h (nf trivial (nf trivial fun y hy=>hp y (.tail _ hy)))
    exact⟨.head (step_lone_go (by simp[stepG,stepG.exec,Frame.atR,cg,er])) h1,h2⟩
  · obtain⟨h1,h2⟩:=gk n _ t' h (nf trivial (nf trivial fun y hy=>hp y (.tail _ hy)))
    exact⟨.head stepR_block h1,h2⟩
  · cases h
theorem uT {b:Frame} {a:Act} {k:List Item} {c0:Frame} {cs:List Frame} {w:World} {ops:Array Oper} {i:Nat} {rest:List Nat} {o:Oper} {mh:Option Value} (hk:b.kind = .deferred) (hb:b.roundOf=none) (ho:ops[i]? = some o) (hr:isRec o=true)
  (h0:c0.mode=bB mh false) :
  _root_.Go.step P (lone (b.atR a (.inRegion ops (i::rest)::k)) (c0::cs) w) = .next (lone (b.atR (a.put o.dst (mh.getD .nilIface)) (.inRegion ops rest::k)) ({c0 with mode:=bB mh true}::cs) w):=by
 unfold isRec at hr
 split at hr
 · rename_i c hop hgd
   split at hr
   · rename_i rW Kn
     have gZ:c.args = #[]:=by have:=congrArg List.toArray Kn;simpa using this
     have hw:Region.wanted o (yielded ops a.tmps)=true:=by unfold Region.wanted;rw[hgd]
     have hg:=stepGR_op (P:=P) (b:=b) (k:=k) (cs:=c0::cs) (w:=w) (rest:=rest) ho hw
     have hrun:(o.semAt b.roundOf a.eval).run P w = .ok .recover w:=by
      rw[hb]
      simp only[Oper.semAt,execOp,hop,resolve,rW,gZ,Sem.run_bind,Sem.run_pure,Result.andThen_ok,invoke,builtin]
     have jB : ∀v,(b.atR a (.inRegion ops (i::rest)::k)).finish v=b.atR (a.put o.dst v) (.inRegion ops rest::k):=fun v=>by rw[Frame.finish_atR,ho];rfl
     have hkk:(b.atR a (.inRegion ops (i::rest)::k)).kind = .deferred:=hk
     have Hu:=tryRecover_deferred hkk (c0::cs)
     have hro:(b.atR a (.inRegion ops (i::rest)::k)).roundOf=none:=hb
     refine step_lone_go ?_
     rw[hg]
     cases mh with
     |none=>
      have e:recoverD (c0::cs)=none:=by unfold recoverD;simp only[h0,bB]
      rw[e] at Hu
      have Ms:({c0 with mode:=bB none true}:Frame)=c0:=by rw[show bB none true=c0.mode from h0.symm]
      rw[Ms]
      simp only[stepG.apply,Sem.runT_eq,hrun,hro,Hu,GStep.bare_after,GStep.bare_go,jB,Option.getD_none,if_true]
     |some v=>
      have e:recoverD (c0::cs)=some (v,{c0 with mode:=bB (some v) true}::cs):=by unfold recoverD;simp only[h0,bB]
      rw[e] at Hu
      simp only[stepG.apply,Sem.runT_eq,hrun,hro,Hu,GStep.bare_after,GStep.bare_go,jB,Option.getD_some,if_true]
   · cases hr
 · cases hr
theorem kM (hN:ec P) {f:FuncId} {args:List AV} {m:Mem} {pv:Option AV} {c:bD} {v:AV} {m':Mem} (hi:vI P f args m pv=some c) (h:Good P E c (.ret v m')):BJ P E f args m pv m':=by
 unfold vI at hi
 split at hi
 · rename_i c0 sF
   split at hi
   · rename_i t1 hi1
     refine⟨ng hN sF,fun g w bS mh Ly cs h0 vX hr ha hg=> ?_⟩
     obtain⟨e1,e2,e3,_⟩:=mC sF
     have Ib:=bH.BW (P:=P) true sF hr ha hg
     have Ic : ∃body,c0.todo=[.code 0 body]:=by
      unfold init at sF
      split at sF
      · split at sF
        · simp only[Option.some.injEq] at sF;subst sF;exact⟨_,rfl⟩
        · cases sF
      · cases sF
     obtain⟨body,hbody⟩:=Ic
     obtain⟨f0,t0,dZ⟩:=c0
     simp only at hbody e1 e2 e3 hi1 hi
     subst hbody
     obtain⟨b,a,hfr,h1,h2,h3,h4,hk⟩:=Ib
     simp only at h1 h2 h3 h4 hk
     obtain⟨FH,Bs⟩:=gk (P:=P) (b:=b) (a:=a) (cs:=Ly::cs) (w:=w) 20 _ _ hi1 hk
     have Ko:Frame.enter P f bS .deferred=b.atR a (cg [It.code 0 body]):=hfr
     rw[Ko]
     unfold EN at hi
     simp only at hi
     split at hi
     · rename_i aU ops i sure k
       split at hi
       · rename_i o ho
         have hlt:i<ops.size:=by
          rcases Nat.lt_or_ge i ops.size with q | q
          · exact q
          · rw[Array.getElem?_eq_none q] at ho;cases ho
         have hk' : ∀y∈k,It.pl y:=fun y hy=>Bs y (.tail _ hy)
         cases hb:(isRec o&&fits {dZ with aZ:= .late} o.dst) with
         |false=>rw[hb] at hi;cases hi
         |true=>
          rw[hb] at hi
          simp only[cond_true,Option.some.injEq] at hi
          simp only[Bool.and_eq_true] at hb
          have hstep:=uT (P:=P) (a:=a) (k:=cg k) (cs:=cs) (w:=w) (rest:=List.range' (i+1) (ops.size-(i+1))) (mh:=mh) h2.1 h2.2 ho hb.1 h0
          have AZ:VA g w (pv.getD (.p (.sc .nilIface))) (mh.getD .nilIface):=by
           cases pv with
           |none=>cases mh with
            |none=>exact .p _ _ (.sc _)
            |some _=>exact vX.elim
           |some u=>cases mh with
            |none=>exact vX.elim
            |some cv=>exact vX
          have hput:=h4.put (m':=dZ.mem) hb.2 AZ (Ext.refl g w) h4.rel h4.fix
          have Mt:bH P E g c (b.atR (a.put o.dst (mh.getD .nilIface)) (.inRegion ops (List.range' (i+1) (ops.size-(i+1)))::cg k)) w:=by
           subst hi
           exact bH.mk (c:=⟨f0,.ops aU ops (i+1) false::k,put {dZ with aZ:= .late} o.dst (pv.getD (.p (.sc .nilIface)))⟩) (nf trivial hk') h1 (by rw[fN];exact h2) (h3.put (st:={dZ with aZ:= .late}) (st':={dZ with aZ:= .late}) (Ext.refl g w) rfl) hput
          obtain⟨g2,DO,w2,cv,w3,r1,r2,r3,r4,r5,r6,r7,r8⟩:=h g _ w ({Ly with mode:=bB mh true}::cs) Mt
          have hc:c.st.mem=m∧c.st.fix=m.length∧c.st.aZ = .late:=by
           subst hi
           refine⟨?_,?_,?_⟩
           · rw[←e1]
             show(put {dZ with aZ:= .late} o.dst _).mem=dZ.mem
             unfold Am.put;cases o.dst<;>rfl
           · rw[←e2]
             show(put {dZ with aZ:= .late} o.dst _).fix=dZ.fix
             unfold Am.put;cases o.dst<;>rfl
           · show(put {dZ with aZ:= .late} o.dst _).aZ = .late
             rw[fN]
          obtain⟨c1,c2,c3⟩:=hc
          rw[c3] at r2
          obtain⟨⟨r2,Mu⟩,rfl⟩:=r2
          rw[c1] at r6
          rw[c2] at r7 r8
          refine⟨_,g2,cv,DO,FH.trans (.head ?_ r1),r2,Mu,r5,r6,r7,r8⟩
          have he:cg (.ops aU ops i sure::k) = .inRegion ops (i::List.range' (i+1) (ops.size-(i+1)))::cg k:=by
           simp only[cg,er,jA hlt,List.cons_append,List.nil_append]
          rw[he]
          exact hstep
       · cases hi
     · cases hi
   · cases hi
 · cases hi
theorem qz {c c':bD} {args:List AV} {m:Mem} {ord:List Nat} {dst:Option Tmp} {v:AV} {m1:Mem} (h:Am.step P E c = .round args m ord dst c') (hd:zj P E args m v m1) :
  ∀g fr w,bH P E g c fr w→cL P E g c fr w {c' with st:=back ord dst c'.st v m1}:=by
 intro g fr w hc
 have hs:=eI hc
 rw[h] at hs
 exact hs v m1 hd
theorem lB {c c':bD} {f:FuncId} {args:List AV} {m:Mem} {ord:List Nat} {L:Nat} {v:AV} {m1 m2:Mem} {pd:Option Code} (h:Am.step P E c = .range f args m ord L c') (hd:aB P E f args m v m1)
  (he:dM (back ord none c'.st v m1).mem L=some (m2,pd)) : ∀g fr w,bH P E g c fr w→cL P E g c fr w (behind c' m2 pd):=by
 intro g fr w hc
 have hs:=eI hc
 rw[h] at hs
 exact hs v m1 hd m2 pd he
theorem Good.FI {c:bD} {l:List bD} {o:Out} (hg : ∀g fr w,bH P E g c fr w→uL P E g c fr w l) (h : ∀c'∈l,Good P E c' o):Good P E c o:=by
 intro g fr w cs hc
 obtain⟨c',hm,g',fr',w',q1,q2,q3,q4,q5,q6,q7⟩:=hg g fr w hc cs
 cases o with
 |ret v m'=>
  obtain⟨g2,DO,w2,cv,w3,r1,r2,r3,r4,r5,r6,r7,r8⟩:=h c' hm g' fr' w' cs q2
  refine⟨g2,DO,w2,cv,w3,q1.trans r1,by rw[←q7];exact r2,r3.trans q5,r4,r5,q3.trans r6,q4.trans ?_,by rw[←q6];exact r8⟩
  rw[←q6];exact r7
 |rB v m'=>
  obtain⟨g2,DO,w2,cv,r1,r2,r3,r4,r5,r6,r7,r8⟩:=h c' hm g' fr' w' cs q2
  refine⟨g2,DO,w2,cv,q1.trans r1,r2,r3.trans q5,r4,r5,q3.trans r6,q4.trans ?_,by rw[←q6];exact r8⟩
  rw[←q6];exact r7
theorem Av {c:bD} {l:List bD} (h:Am.step P E c = .fork l) : ∀g fr w,bH P E g c fr w→uL P E g c fr w l:=by
 intro g fr w hc
 have hs:=eI hc
 rw[h] at hs;exact hs
theorem ni {c c':bD} {aU:Nat} {ops:Array Oper} {O:FuncId→List AV→Mem→Option (AV×Mem)} {st':St} (h:Am.step P E c = .draw aU ops c') (hO : ∀g args m v m1,O g args m=some (v,m1)→aB P E g args m v m1)
  (hq:fX P E c'.f aU O ops c'.st=some (st',true)) : ∀g fr w,bH P E g c fr w→cL P E g c fr w {c' with st:={st' with bq:=c'.st.bq,aZ:=c'.st.aZ}}:=by
 intro g fr w hc
 have hs:=eI hc
 rw[h] at hs
 exact hs O st' hO hq
def dK (P:Program) (E:Env) (l:List bA):Prop:= ∀q∈l,aB P E q.g q.args q.m q.v q.m'
theorem mE {K:List bA} (hK:dK P E K) {g:FuncId} {args:List AV} {m:Mem} {r:AV×Mem} (h:iz K g args m=some r):aB P E g args m r.1 r.2:=by
 induction K with
 |nil=>cases h
 |cons q K ih=>
  simp only[iz] at h
  cases hb:(Nat.beq q.g g&&(gU args q.args&&lO m q.m)) with
  |true=>
   rw[hb] at h
   simp only[cond_true,Option.some.injEq] at h
   subst h
   simp only[Bool.and_eq_true] at hb
   obtain⟨h1,h2,h3⟩:=hb
   have h1:=Nat.eq_of_beq_eq_true h1
   have h2:=dN h2
   have h3:=gX h3
   subst h1;subst h2;subst h3
   exact hK q (.head _)
  |false=>
   rw[hb] at h
   exact ih (fun x hx=>hK x (.tail _ hx)) h
theorem BX {o p:Out} (h:vH o p=true):o=p:=by
 cases o with
 |ret v m=>cases p with
  |ret u n=>
   simp only[vH,Bool.and_eq_true] at h
   rw[gF h.1,gX h.2]
  |rB u n=>cases h
 |rB v m=>cases p with
  |ret u n=>cases h
  |rB u n=>
   simp only[vH,Bool.and_eq_true] at h
   rw[gF h.1,gX h.2]
theorem tA : ∀{l:List (Option Out)} {o:Out},agree l=some o → ∀x∈l,x=some o
 |[],_,h,_,_=>by cases h
 |[x],o,h,y,hy=>by
  cases hy with
  |head=>exact h
  |tail _ hy=>cases hy
 |x::y::r,o,h,z,hz=>by
  simp only[agree] at h
  split at h
  · rename_i o1 p1 h1
    cases hb:vH o1 p1 with
    |false=>rw[hb] at h;cases h
    |true=>
     rw[hb] at h
     simp only[cond_true,Option.some.injEq] at h
     subst h
     cases hz with
     |head=>rw[BX hb]
     |tail _ hz=>exact tA h1 z hz
  · cases h
theorem aT (hN:ec P) {K:List bA} (hK:dK P E K) : ∀(n:Nat) (c:bD) (o:Out),exec P E K n c=some o→Good P E c o
 |0,_,_,h=>by cases h
 |n+1,c,o,h=>by
  unfold exec at h
  split at h
  · rename_i c' hs;exact Good.aH (nh hs) (aT hN hK n c' o h)
  · rename_i b c' hs
    cases b with
    |false=>cases h
    |true=>exact Good.aH (tr hs) (aT hN hK n c' o h)
  · rename_i b y z hs
    have:=tv hs
    cases b with
    |true=>exact Good.aH this (aT hN hK n y o h)
    |false=>exact Good.aH this (aT hN hK n z o h)
  · rename_i g args m ord dst c' hs
    split at h
    · rename_i v m1 hk
      exact Good.aH (hU hs (mE hK hk)) (aT hN hK n _ o h)
    · split at h
      · rename_i ci hi
        split at h
        · rename_i v m1 he
          have hd:=cT hN hi (aT hN hK n ci _ he)
          exact Good.aH (hU hs hd) (aT hN hK n _ o h)
        · rename_i u m1 he
          have hd:=kK hN hi (aT hN hK n ci _ he)
          exact Good.aH (n9 hs hd) (aT hN hK n _ o h)
        · cases h
      · cases h
  · rename_i g args m ord pv c' hs
    split at h
    · rename_i ci hi
      split at h
      · rename_i v m1 he
        have hd:=kM hN hi (aT hN hK n ci _ he)
        exact Good.aH (tw hs hd) (aT hN hK n _ o h)
      · cases h
    · cases h
  · rename_i args m ord dst c' hs
    split at h
    · rename_i ci hi
      split at h
      · rename_i v m1 he
        have hd:=kL hi (aT hN hK n ci _ he)
        exact Good.aH (qz hs hd) (aT hN hK n _ o h)
      · cases h
    · cases h
  · rename_i g args m ord L c' hs
    split at h
    · rename_i ci hi
      split at h
      · rename_i v m1 he
        split at h
        · rename_i m2 pd hend
          have hd:=cT hN hi (aT hN hK n ci _ he)
          exact Good.aH (lB hs hd hend) (aT hN hK n _ o h)
        · cases h
      · cases h
    · cases h
  · rename_i aU ops c' hs
    split at h
    · rename_i st' ok hq
      cases ok with
      |false=>cases h
      |true=>
       refine Good.aH (ni hs (fun g args m v m1 hO=> ?_) hq) (aT hN hK n _ o h)
       split at hO
       · rename_i r hk
         simp only[Option.some.injEq] at hO
         subst hO
         exact mE hK hk
       · split at hO
         · rename_i ci hi
           split at hO
           · rename_i v' Ak he
             simp only[Option.some.injEq,Prod.mk.injEq] at hO
             obtain⟨rfl,rfl⟩:=hO
             exact cT hN hi (aT hN hK n ci _ he)
           · cases hO
         · cases hO
    · cases h
  · rename_i l hs
    exact Good.FI (Av hs) fun c' cY=>aT hN hK n c' o (tA h _ (List.mem_map.2 ⟨c',cY,rfl⟩))
  · rename_i o' hs
    simp only[Option.some.injEq] at h;subst h
    exact tq hs
  · cases h
theorem sj (hN:ec P) {K:List bA} (hK:dK P E K) {n:Nat} {f:FuncId} {args:List AV} {m m':Mem} {v:AV} (h:yZ P E K n f args m=some (.ret v m')):aB P E f args m v m':=by
 unfold yZ at h
 split at h
 · rename_i c hi;exact cT hN hi (aT hN hK n c _ h)
 · cases h
theorem hY:dK P E []:=fun _ hq=>by cases hq
theorem ej {q:bA} {K:List bA} (h:aB P E q.g q.args q.m q.v q.m') (hK:dK P E K):dK P E (q::K):=by
 intro x hx
 cases hx with
 |head=>exact h
 |tail _ hx=>exact hK x hx
def BY (P:Program) (E:Env) (c:bD):Fin→Prop
 |.out o=>Good P E c o
 |.at c'=> ∀o,Good P E c' o→Good P E c o
theorem BY.aH {c c':bD} {r:Fin} (hg : ∀g fr w,bH P E g c fr w→cL P E g c fr w c') (h:BY P E c' r):BY P E c r:=by
 cases r with
 |out o=>exact Good.aH hg h
 | «at» c2=>exact fun o ho=>Good.aH hg (h o ho)
end
end Go.Am
end
section
namespace Go.Am
noncomputable section
abbrev Mv:=Program→(Nat→av)→Bool→Nat→(Operand→AV)→Oper→gO
def Ie (P:Program) (rd:Nat→av) (wr:Bool) (aF:Nat) (ρ:Operand→AV) (o:Oper):gO:=nH P rd wr aF ρ o
def EU (x:Operand) (_:Program) (_:Nat→av) (_:Bool) (_:Nat) (ρ:Operand→AV) (_:Oper):gO:=some (ρ x,[],true)
def Ig (t:TypeId) (a:Operand) (P:Program) (rd:Nat→av) (_:Bool) (_:Nat) (ρ:Operand→AV) (_:Oper):gO:=eC (gN P rd t (ρ a))
def FJ (t:TypeId) (a v:Operand) (P:Program) (rd:Nat→av) (_:Bool) (_:Nat) (ρ:Operand→AV) (_:Oper):gO:=lK P rd t (ρ a) (ρ v)
def Kp (x:Operand) (P:Program) (_:Nat→av) (_:Bool) (_:Nat) (ρ:Operand→AV) (o:Oper):gO:=fS (fR P ρ o (ρ x))
def ym (t:TypeId) (x:Operand) (f:Nat) (P:Program) (_:Nat→av) (_:Bool) (_:Nat) (ρ:Operand→AV) (_:Oper):gO:=fS (gy P t (ρ x) f)
def FK (t:TypeId) (x:Operand) (f:Nat) (P:Program) (_:Nat→av) (_:Bool) (_:Nat) (ρ:Operand→AV) (_:Oper):gO:=eC (oC P t (ρ x) f)
def yp (t:TypeId) (x i:Operand) (P:Program) (_:Nat→av) (_:Bool) (_:Nat) (ρ:Operand→AV) (_:Oper):gO:=eC (gz P t (ρ x) (ρ i))
def FL (t:TypeId) (x i:Operand) (P:Program) (_:Nat→av) (_:Bool) (_:Nat) (ρ:Operand→AV) (_:Oper):gO:=eC (oD P t (ρ x) (ρ i))
def BZ (s d:TypeId) (x:Operand) (P:Program) (rd:Nat→av) (_:Bool) (aF:Nat) (ρ:Operand→AV) (o:Oper):gO:=convertOp P rd aF ρ o s d (ρ x)
def Kq (op:BinOp) (t:TypeId) (x y:Operand) (P:Program) (_:Nat→av) (_:Bool) (_:Nat) (ρ:Operand→AV) (o:Oper):gO:=match uc y with
    |true=>oH P op t (ρ x)
    |false=>match yT (ρ x) (ρ y) with
     |true=>yU P op t (ρ x) (ρ y)
     |false=>match oG (ρ x) (ρ y) with
      |true=>jZ P op t
      |false=>eC (lM P ρ o op (ρ x) (ρ y))
def Mw (op:UnOp) (x:Operand) (P:Program) (_:Nat→av) (_:Bool) (_:Nat) (ρ:Operand→AV) (o:Oper):gO:=eC (oW P ρ o op (ρ x))
def FM (t:TypeId) (x:Operand) (lo hi mx:Option Operand) (P:Program) (_:Nat→av) (_:Bool) (_:Nat) (ρ:Operand→AV) (_:Oper):gO:=eC (jX P ρ t (ρ x) lo hi mx)
def B0 (x:Operand) (i:Nat) (_:Program) (_:Nat→av) (_:Bool) (_:Nat) (ρ:Operand→AV) (_:Oper):gO:=match ρ x with
    |.aO vs=>fS vs[i]?
    |_=>none
def FN (t:TypeId) (parts:Array (Nat×Operand)) (P:Program) (_:Nat→av) (_:Bool) (_:Nat) (ρ:Operand→AV) (_:Oper):gO:=eC (oB P t (parts.toList.map fun q=>(q.1,ρ q.2)))
def Ih (c a b:Operand) (_:Program) (_:Nat→av) (_:Bool) (_:Nat) (ρ:Operand→AV) (_:Oper):gO:=match ρ c with
    |.p (.sc (.bool t))=>some (cond t (ρ a) (ρ b),[],true)
    |_=>none
def Kr:Op→Mv
 |.binOp op t x y _=>Kq op t x y
 |.unOp op _ x=>Mw op x
 |.slice t x lo hi mx=>FM t x lo hi mx
 |.extract x i=>B0 x i
 |.build t parts=>FN t parts
 |.pick c a b=>Ih c a b
 |.move x=>EU x
 |.assign x=>EU x
 |.load t a=>Ig t a
 |.store t a v=>FJ t a v
 |.nilCheck x=>Kp x
 |.fieldAddr t x f=>ym t x f
 |.field t x f=>FK t x f
 |.indexAddr t x i=>yp t x i
 |.index t x i=>FL t x i
 |.convert s d x=>BZ s d x
 |_=>Ie
def Ks (P:Program) (rd:Nat→av) (wr:Bool) (aF:Nat) (ρ:Operand→AV) (o:Oper):gO:=Kr o.op P rd wr aF ρ o
theorem FO (P:Program) (rd:Nat→av) (wr:Bool) (aF:Nat) (ρ:Operand→AV) (o:Oper):Ks P rd wr aF ρ o=nH P rd wr aF ρ o:=by
 obtain⟨dst,op,type,pos,after,guard⟩:=o
 cases op<;>rfl
def B2 (tm:mO) (i:Nat):AV:=List.rec (motive:=fun _=>AV) .ah (fun p _ ih=>Bool.rec (motive:=fun _=>AV) ih p.2 (Nat.beq p.1 i)) tm
theorem wK : ∀(tm:mO) (i:Nat),B2 tm i=look tm i
 |[],_=>rfl
 |(k,v)::r,i=>by
  show Bool.rec (motive:=fun _=>AV) (B2 r i) v (Nat.beq k i)=cond (Nat.beq k i) v (look r i)
  rw[wK r i]
  cases Nat.beq k i<;>rfl
def Ii (t:Nat) (_:Env) (tm:mO):AV:=B2 tm t
def FP (x:Operand) (E:Env) (tm:mO):AV:=ev E tm x
def Kt:Operand→Env→mO→AV
 |.tmp t=>Ii t
 |.const v=>fun _ _=>yR v
 |x=>FP x
def Ij (E:Env) (tm:mO) (x:Operand):AV:=Kt x E tm
theorem B3 (E:Env) (tm:mO):Ij E tm=ev E tm:=by
 funext x
 cases x with
 |tmp t=>exact wK tm t
 |const v=>rfl
 |global g=>rfl
 |func f=>rfl
def yq:Op→Bool
 |.call _ | .defer _ | .panic _=>true
 |_=>false
def uU:Op→Bool
 |.alloc _ | .box .. | .buildSlice .. | .makeSlice .. | .convert .. | .makeMap .. | .range .. =>true
 |.call c=>makes ⟨none,.call c,0,"",#[],none⟩
 |_=>false
def DP (ops:Array Oper) (i:Nat):Option Oper:=List.rec (motive:=fun _=>Nat→Option Oper) (fun _=>none) (fun a _ ih i=>Nat.rec (motive:=fun _=>Option Oper) (some a) (fun j _=>ih j) i) ops.toList i
theorem DQ (ops:Array Oper) (i:Nat):DP ops i=ops[i]? :=by
 have : ∀(l:List Oper) (i:Nat),List.rec (motive:=fun _=>Nat→Option Oper) (fun _=>none) (fun a _ ih i=>Nat.rec (motive:=fun _=>Option Oper) (some a) (fun j _=>ih j) i) l i=l[i]? :=by
  intro l
  induction l with
  |nil=>intro i;rfl
  |cons a l ih=>
   intro i
   cases i with
   |zero=>rfl
   |succ i=>exact(ih i).trans (by simp)
 rw[DP,this]
 simp
def zq:gO→Option Tmp→FuncId→List It→mO→Nat→Mem→Nat→List Mark→EM→Ev
 |none=>fun _ _ _ _ _ _ _ _ _=> .fail
 |some (v,[],ok)=>fun dst f k tm nt mem fix bq aZ=>Option.rec (motive:=fun _=>Ev) (.must (ok&&true) ⟨f,k,⟨tm,nt,mem,fix,bq,aZ⟩⟩) (fun d=> .must (ok&&Nat.blt d nt) ⟨f,k,⟨(d,v)::tm,nt,mem,fix,bq,aZ⟩⟩) dst
 |some (v,us,ok)=>fun dst f k tm nt mem fix bq aZ=>Option.rec (motive:=fun _=>Ev) (.must (ok&&true) ⟨f,k,⟨tm,nt,apply mem us,fix,bq,aZ⟩⟩) (fun d=> .must (ok&&Nat.blt d nt) ⟨f,k,⟨(d,v)::tm,nt,apply mem us,fix,bq,aZ⟩⟩) dst
abbrev xB (α:Type):=Program→Env→FuncId→mO→Nat→Mem→Nat→List Mark→EM→α
def qA (todo:List It):xB Ev:=fun P E f tm nt mem fix bq aZ=>step P E ⟨f,todo,⟨tm,nt,mem,fix,bq,aZ⟩⟩
def DR (o:Oper) (aU:Nat) (ops:Array Oper) (i:Nat) (_:Bool) (k:List It):xB Ev:=fun P E f tm nt mem fix bq aZ=>
 zq (Ks P (fun i=>mem.getD i .dead) (E.wr f (o.dst.getD 0)) mem.length (Ij E tm) o) o.dst f (.ops aU ops (i+1) false::k) tm nt mem fix bq aZ
def FQ (_:Oper) (aU:Nat) (ops:Array Oper) (i:Nat) (sure:Bool) (k:List It):xB Ev:=qA (.ops aU ops i sure::k)
abbrev Mx:=Oper→Nat→Array Oper→Nat→Bool→List It→xB Ev
def EV:Bool→Bool→Option (Nat×Bool)→Mx
 |false,false,none=>DR
 |_,_,_=>FQ
def B4:Option Oper→Nat→Array Oper→Nat→Bool→List It→xB Ev
 |none=>fun _ _ _ _ k _ _ f tm nt mem fix bq aZ=> .next ⟨f,k,⟨tm,nt,mem,fix,bq,aZ⟩⟩
 |some o=>EV (yq o.op) (uU o.op) o.guard o
def FR (i:Nat) (c:Code) (k:List It):xB Ev:=qA (.code i c::k)
def FT (_:Nat) (k:List It):xB Ev:=fun _ _ f tm nt mem fix bq aZ=> .next ⟨f,k,⟨tm,nt,mem,fix,bq,aZ⟩⟩
def Ik (id:Nat) (ops:Array Oper) (_:Nat) (k:List It):xB Ev:=fun _ _ f tm nt mem fix bq aZ=> .next ⟨f,.ops id ops 0 false::k,⟨tm,nt,mem,fix,bq,aZ⟩⟩
def Il (a b:Code) (i:Nat) (k:List It):xB Ev:=fun _ _ f tm nt mem fix bq aZ=> .next ⟨f,.code i a :: .code (i+nodes a) b::k,⟨tm,nt,mem,fix,bq,aZ⟩⟩
def DS (id:Nat) (b:Code) (i:Nat) (k:List It):xB Ev:=fun _ _ f tm nt mem fix bq aZ=> .next ⟨f,.code i b :: .inBlock id::k,⟨tm,nt,mem,fix,bq,aZ⟩⟩
def B5:AV→bD→bD→Ev
 |.p (.sc (.bool t))=>fun y z=> .test t y z
 |_=>fun _ _=> .fail
def FU (x:Operand) (a b:Code) (i:Nat) (k:List It):xB Ev:=fun _ E f tm nt mem fix bq aZ=>
 B5 (Ij E tm x) ⟨f,.code (i+1) a::cP (E.keep f (2*i)) k,⟨tm,nt,mem,fix,bq,aZ⟩⟩ ⟨f,.code (i+1+nodes a) b::cP (E.keep f (2*i)) k,⟨tm,nt,mem,fix,bq,aZ⟩⟩
def FV (id:Nat) (i:Nat) (k:List It):xB Ev:=fun P E f tm nt mem fix bq aZ=>Option.rec (motive:=fun _=>Ev) (qA (.code i (.exit id)::k) P E f tm nt mem fix bq aZ) (fun k'=> .next ⟨f,k',⟨tm,nt,mem,fix,bq,aZ⟩⟩) (bg id k)
def FW:Code→Nat→List It→xB Ev
 |.block id b=>DS id b
 |.cond x a b=>FU x a b
 |.exit id=>FV id
 |.skip=>FT
 |.seq a b=>Il a b
 |.region id ops false=>Ik id ops
 |c=>fun i k=>FR i c k
def B6 (k:List It):xB Ev:=fun _ _ f tm nt mem fix bq aZ=> .next ⟨f,k,⟨tm,nt,mem,fix,bq,aZ⟩⟩
def Ku:It→List It→xB Ev
 |.inBlock _=>B6
 |.inScope _=>B6
 |.ops aU ops i sure=>fun k=>B4 (DP ops i) aU ops i sure k
 |.code i c=>fun k=>FW c i k
 |x=>fun k=>qA (x::k)
def FX:List It→xB Ev
 |[]=>qA []
 |x::k=>Ku x k
def B7 (P:Program) (E:Env) (c:bD):Ev:=bD.rec (motive:=fun _=>Ev) (fun f todo st=>St.rec (motive:=fun _=>Ev) (fun tm nt mem fix bq aZ=>FX todo P E f tm nt mem fix bq aZ) st) c
theorem Aw (o:Oper):uU o.op=makes o:=by
 obtain⟨dst,op,type,pos,after,guard⟩:=o
 cases op<;>rfl
theorem B8 (P:Program) (E:Env) (c:bD):B7 P E c=step P E c:=by
 obtain⟨f,todo,tm,nt,mem,fix,bq,aZ⟩:=c
 cases todo with
 |nil=>rfl
 |cons x k=>
  cases x with
  |code i c=>
   cases c with
   |region id ops b=>cases b<;>rfl
   |cond x a b=>
    show B5 (Ij E tm x) _ _=_
    rw[B3]
    simp only[step]
    split
    · rename_i t ht;rw[ht];rfl
    · rename_i hne
      generalize ev E tm x=v at hne
      cases v with
      |p v=>cases v with
       |sc v=>cases v with
        |bool t=>exact absurd rfl (hne t)
        |_=>rfl
       |_=>rfl
      |_=>rfl
   |exit id=>
    show Option.rec (motive:=fun _=>Ev) _ _ (bg id k)=_
    cases he:bg id k with
    |none=>rfl
    |some k'=>simp only[step,he]
   |_=>rfl
  |ops aU ops i sure=>
   show B4 (DP ops i) aU ops i sure k P E f tm nt mem fix bq aZ=_
   rw[DQ]
   cases ho:ops[i]? with
   |none=>simp only[B4,step,ho]
   |some o=>
    show EV (yq o.op) (uU o.op) o.guard o aU ops i sure k P E f tm nt mem fix bq aZ=_
    cases h1:yq o.op with
    |true=>rfl
    |false=>
     cases h2:uU o.op with
     |true=>rfl
     |false=>
      cases h3:o.guard with
      |some q=>rfl
      |none=>
       rw[Aw] at h2
       have ht:target (ev E tm) o=none:=by
        obtain⟨dst,op,type,pos,after,guard⟩:=o
        cases op<;>first | rfl | cases h1
       have hy:oI (ev E tm) o=none:=by
        obtain⟨dst,op,type,pos,after,guard⟩:=o
        cases op<;>first | rfl | cases h1
       show zq (Ks P (fun i=>mem.getD i .dead) (E.wr f (o.dst.getD 0)) mem.length (Ij E tm) o) o.dst f (.ops aU ops (i+1) false::k) tm nt mem fix bq aZ=_
       rw[FO,B3]
       have hr:reserve o mem=mem:=by simp[reserve,h2]
       simp only[step,ho,cw,h3,Bi,ht,hy,hr]
       cases hop:nH P (fun i=>mem.getD i .dead) (E.wr f (o.dst.getD 0)) mem.length (ev E tm) o with
       |none=>
        clear hop hr hy ht h3 h2 ho
        obtain⟨dst,op,type,pos,after,guard⟩:=o
        cases op<;>first | rfl | cases h1
       |some r=>
        obtain⟨v,us,ok⟩:=r
        cases us with
        |nil=>cases hd:o.dst<;>simp[zq,fits,put,apply]
        |cons u us=>cases hd:o.dst<;>simp[zq,fits,put]
  |_=>rfl
abbrev RunT:=Program→Env→List bA→(bD→Option Out)→Option Out
def Im (c:bD):RunT:=fun _ _ _ ih=>ih c
def Io (b:Bool) (c:bD):RunT:=fun _ _ _ ih=>Bool.rec (motive:=fun _=>Option Out) none (ih c) b
def Ip (b:Bool) (y z:bD):RunT:=fun _ _ _ ih=>Bool.rec (motive:=fun _=>Option Out) (ih z) (ih y) b
def Iq (g:FuncId) (args:List AV) (m:Mem) (ord:List Nat) (dst:Option Tmp) (c:bD):RunT:=fun P _ K ih=>match iz K g args m with
     |some (v,m1)=>ih {c with st:=back ord dst c.st v m1}
     |none=>match init P g args m with
      |some ci=>match ih ci with
       |some (.ret v m1)=>ih {c with st:=back ord dst c.st v m1}
       |some (.rB u m1)=>ih (jh ord c u m1)
       |none=>none
      |none=>none
def Ir (g:FuncId) (args:List AV) (m:Mem) (ord:List Nat) (pv:Option AV) (c:bD):RunT:=fun P _ _ ih=>match vI P g args m pv with
     |some ci=>match ih ci with
      |some (.ret _ m1)=>ih {c with st:=back ord none c.st (.aO []) m1}
      |_=>none
     |none=>none
def FY (args:List AV) (m:Mem) (ord:List Nat) (dst:Option Tmp) (c:bD):RunT:=fun _ _ _ ih=>match vG args m with
     |some ci=>match ih ci with
      |some (.ret v m1)=>ih {c with st:=back ord dst c.st v m1}
      |_=>none
     |none=>none
def FZ (g:FuncId) (args:List AV) (m:Mem) (ord:List Nat) (L:Nat) (c:bD):RunT:=fun P _ _ ih=>match init P g args m with
     |some ci=>match ih ci with
      |some (.ret v m1)=>match dM (back ord none c.st v m1).mem L with
       |some (m2,pd)=>ih (behind c m2 pd)
       |none=>none
      |_=>none
     |none=>none
def Is (aU:Nat) (ops:Array Oper) (c:bD):RunT:=fun P E K ih=>match fX P E c.f aU (fun g args m=>match iz K g args m with
       |some r=>some r
       |none=>match init P g args m with
        |some ci=>match ih ci with
         |some (.ret v m1)=>some (v,m1)
         |_=>none
        |none=>none) ops c.st with
     |some (st,ok)=>cond ok (ih {c with st:={st with bq:=c.st.bq,aZ:=c.st.aZ}}) none
     |none=>none
def Iu (l:List bD):RunT:=fun _ _ _ ih=>agree (l.map ih)
def Iv (o:Out):RunT:=fun _ _ _ _=>some o
def Iw:RunT:=fun _ _ _ _=>none
def EW:Ev→RunT
 |.next c=>Im c
 |.must b c=>Io b c
 |.test b y z=>Ip b y z
 |.call g args m ord dst c=>Iq g args m ord dst c
 |.round args m ord dst c=>FY args m ord dst c
 |.range g args m ord L c=>FZ g args m ord L c
 |.draw aU ops c=>Is aU ops c
 |.fork l=>Iu l
 |.late g args m ord pv c=>Ir g args m ord pv c
 |.done o=>Iv o
 |.fail=>Iw
def B9 (P:Program) (E:Env) (K:List bA) (n:Nat):bD→Option Out:=
 Nat.rec (motive:=fun _=>bD→Option Out) (fun _=>none) (fun _ ih c=>EW (B7 P E c) P E K ih) n
theorem wL (P:Program) (E:Env) (K:List bA) : ∀n,B9 P E K n=exec P E K n
 |0=>by funext c;rfl
 |n+1=>by
  funext c
  show EW (B7 P E c) P E K (B9 P E K n)=exec P E K (n+1) c
  rw[B8,wL P E K n]
  unfold exec
  cases step P E c with
  |must b c=>cases b<;>rfl
  |test b y z=>cases b<;>rfl
  |_=>rfl
def uV (P:Program) (E:Env) (K:List bA) (n:Nat) (g:FuncId) (args:List AV) (m:Mem):Option Out:=
 match init P g args m with
 |some c=>B9 P E K n c
 |none=>none
theorem Ax (P:Program) (E:Env) (K:List bA) (n:Nat) (g:FuncId) (args:List AV) (m:Mem):uV P E K n g args m=yZ P E K n g args m:=by
 unfold uV yZ
 rw[wL]
 cases init P g args m<;>rfl
theorem cX {P:Program} {E:Env} (hN:ec P) {K:List bA} (hK:dK P E K) {n:Nat} {f:FuncId} {args:List AV} {m m':Mem} {v:AV} (h:uV P E K n f args m=some (.ret v m')):aB P E f args m v m':=
 sj hN hK (n:=n) (by rw[←Ax];exact h)
end
end Go.Am
end
section
namespace Go.Am
open Go.RowKit
inductive Tree where
 |out (o:Out)
 |at(c:bD)
 |must (b:Bool) (t:Tree)
 |need (p:Prop) (t:Tree)
 |test (b:Bool) (y z:Tree)
 |call (q:bA) (t:Tree)
 |stuck
structure dR where
 call:FuncId→List AV→Mem→Option (AV×Mem)
 Di:FuncId→List AV→Mem→Option (AV×Mem):=fun _ _ _=>none
 cut:FuncId→Nat→Bool
 fork:FuncId→Nat→Nat→Bool
 hard:FuncId→Nat→Nat→Bool
 shape:FuncId→Nat→Nat→Option (AV→AV)
def place (c:bD):Nat×Nat:=match c.todo with
 |.code i _::_=>(0,i)
 |.ops aU _ k _::_=>(aU+1,k)
 |_=>(0,0)
def cutAt (O:dR) (c:bD):Bool:=match c.todo with
 |.inLoop i _::_=>O.cut c.f i
 |.code i (.loop _)::_=>O.cut c.f i
 |_=>false
def yu (c:bD):Option Tmp:=match c.todo with
 |.ops _ ops k _::_=>match ops[k]? with
  |some o=>o.dst
  |none=>none
 |_=>none
def EX (c:bD):Bool:=match c.todo with
 |.ops .. :: _=>true
 |_=>false
def reshape (sh:AV→AV) (d:Tmp) (c:bD):bD:={c with st:=put c.st (some d) (sh (look c.st.tm d))}
def shaped (sh:Option (AV→AV)) (d:Option Tmp) (c:bD) (k:bD→Tree):Tree:=
 match sh,d,EX c with
 |some sh,some d,true=> .need (look c.st.tm d=sh (look c.st.tm d)) (k (reshape sh d c))
 |_,_,_=>k c
def uW (h b:Bool) (t:Tree):Tree:=
 match h with
 |true=> .must b t
 |false=>match b with
  |true=>t
  |false=> .stuck
inductive Sc where
 |fork (y z:Sc)
 |yes (s:Sc)
 |no (s:Sc)
 |lit (s:Sc)
 |ans (g:FuncId) (v:AV) (m:Mem) (s:Sc)
 |Di (f aU:Nat) (L:FuncId→List AV→Mem→Option (AV×Mem)) (s:Sc)
 |fin
def DT (g:FuncId):Sc→Option (AV×Mem×Sc)
 |.ans h v m s=>cond (Nat.beq h g) (some (v,m,s)) none
 |_=>none
def DU (f aU:Nat):Sc→Option ((FuncId→List AV→Mem→Option (AV×Mem))×Sc)
 |.Di f' Kv L s=>cond (Nat.beq f f'&&Nat.beq aU Kv) (some (L,s)) none
 |_=>none
def jJ (E:Env) (O:FuncId→List AV→Mem→Option (AV×Mem)) (o:Oper) (st:St):List bA:=
 match target (ev E st.tm) o with
 |some (g,args)=>match O g (cO (idx (close st.mem 0 args)) args) (pack st.mem (close st.mem 0 args)) with
  |some (v,m1)=>[⟨g,cO (idx (close st.mem 0 args)) args,pack st.mem (close st.mem 0 args),v,m1⟩]
  |none=>[]
 |none=>[]
def kN (P:Program) (E:Env) (f aU:Nat) (O:FuncId→List AV→Mem→Option (AV×Mem)) (ops:Array Oper):List Oper→Nat→St→List bA
 |[],_,_=>[]
 |o::r,nx,st=>
  let skip:=kN P E f aU O ops r nx (put st o.dst (.aO []))
  let lQ:=jJ E O o st++match fI P E f aU O nx o st with
   |some (d,fW,_)=>kN P E f aU O ops r fW (put {st with mem:=apply st.mem d.us} o.dst d.v)
   |none=>[]
  match cw ops st.tm o with
  |.yes=>lQ
  |.no=>skip
  |.ask _ b want=>match b==want with
   |true=>lQ
   |false=>skip
  |.lost=>[]
def asked (P:Program) (E:Env) (f aU:Nat) (O:FuncId→List AV→Mem→Option (AV×Mem)) (ops:Array Oper) (st:St):List bA:=
 kN P E f aU O ops (ops.toList.take (dX ops)) st.mem.length {st with mem:=st.mem++bu (60+ops.size)}
def uX:List bA→Tree→Tree
 |[],t=>t
 |q::r,t=> .call q (uX r t)
def grow (P:Program) (E:Env) (O:dR):Nat→Bool→bD→Sc→(Out→Sc→Tree)→Tree
 |0,_,_,_,_=> .stuck
 |n+1,top,c,s,K=>match cutAt O c with
  |true=>match top,step P E c with
   |true,.next c'=> .at c'
   |_,_=> .stuck
  |false=>match step P E c with
   |.next c'=>grow P E O n top c' s K
   |.must b c'=>
    uW (O.hard c.f (place c).1 (place c).2) b (shaped (O.shape c.f (place c).1 (place c).2) (yu c) c' fun c=>grow P E O n top c s K)
   |.test b y z=>match O.fork c.f (place c).1 (place c).2 with
    |true=>match s with
     |.fork s s'=> .test b (grow P E O n top y s K) (grow P E O n top z s' K)
     |.yes s=> .must b (grow P E O n top y s K)
     |.no s=> .must (!b) (grow P E O n top z s K)
     |.lit s=>match b with
      |true=>grow P E O n top y s K
      |false=>grow P E O n top z s K
     |s=> .test b (grow P E O n top y s K) (grow P E O n top z s K)
    |false=>match b with
     |true=>grow P E O n top y s K
     |false=>grow P E O n top z s K
   |.call g args m ord dst c'=>match DT g s with
    |some (v,m1,s)=> .call ⟨g,args,m,v,m1⟩ (shaped (O.shape c.f (place c).1 (place c).2) (yu c) {c' with st:=back ord dst c'.st v m1} fun c=>grow P E O n top c s K)
    |none=>match O.call g args m with
     |some (v,m1)=> .call ⟨g,args,m,v,m1⟩ (shaped (O.shape c.f (place c).1 (place c).2) (yu c) {c' with st:=back ord dst c'.st v m1} fun c=>grow P E O n top c s K)
     |none=>match init P g args m with
      |some ci=>grow P E O n false ci s fun o s=>match o with
       |.ret v m1=>grow P E O n top {c' with st:=back ord dst c'.st v m1} s K
       |.rB u m1=>grow P E O n top (jh ord c' u m1) s K
      |none=> .stuck
   |.late g args m ord pv c'=>match vI P g args m pv with
    |some ci=>grow P E O n false ci s fun o s=>match o with
     |.ret _ m1=>grow P E O n top {c' with st:=back ord none c'.st (.aO []) m1} s K
     |.rB .. => .stuck
    |none=> .stuck
   |.round args m ord dst c'=>match vG args m with
    |some ci=>grow P E O n false ci s fun o s=>match o with
     |.ret v m1=>grow P E O n top {c' with st:=back ord dst c'.st v m1} s K
     |.rB .. => .stuck
    |none=> .stuck
   |.range g args m ord L c'=>match O.call g args m with
    |some (v,m1)=>match dM (back ord none c'.st v m1).mem L with
      |some (m2,pd)=> .call ⟨g,args,m,v,m1⟩ (grow P E O n top (behind c' m2 pd) s K)
      |none=> .stuck
    |none=>match init P g args m with
     |some ci=>grow P E O n false ci s fun o s=>match o with
      |.ret v m1=>match dM (back ord none c'.st v m1).mem L with
       |some (m2,pd)=>grow P E O n top (behind c' m2 pd) s K
       |none=> .stuck
      |.rB .. => .stuck
     |none=> .stuck
   |.draw aU ops c'=>match DU c'.f aU s with
    |some (L,s)=>match fX P E c'.f aU L ops c'.st with
     |some (st,ok)=>uX (asked P E c'.f aU L ops c'.st) (uW (O.hard c.f (place c).1 (place c).2) ok (grow P E O n top {c' with st:={st with bq:=c'.st.bq,aZ:=c'.st.aZ}} s K))
     |none=> .stuck
    |none=>match fX P E c'.f aU O.Di ops c'.st with
     |some (st,ok)=>uX (asked P E c'.f aU O.Di ops c'.st) (uW (O.hard c.f (place c).1 (place c).2) ok (grow P E O n top {c' with st:={st with bq:=c'.st.bq,aZ:=c'.st.aZ}} s K))
     |none=> .stuck
   |.done o=>K o s
   |_=> .stuck
def Tree.ok (P:Program) (E:Env) (o:Out):Tree→Prop
 |.out o'=>o'=o
 |.at c=>Good P E c o
 |.must b t=>b=true∧t.ok P E o
 |.need p t=>p∧t.ok P E o
 |.test b y z=>(b=true→y.ok P E o)∧(b=false→z.ok P E o)
 |.call q t=>aB P E q.g q.args q.m q.v q.m'∧t.ok P E o
 |.stuck=>False
section
variable {P:Program} {E:Env}
theorem qB {sh:AV→AV} {d:Tmp} {c:bD} {o:Out} (hin:EX c=true) (h:look c.st.tm d=sh (look c.st.tm d)) (hg:Good P E (reshape sh d c) o):Good P E c o:=by
 intro g fr w cs hc
 have cY:bH P E g (reshape sh d c) fr w:=by
  obtain⟨f,todo,st⟩:=c
  cases todo with
  |nil=>cases hin
  |cons x k=>
   cases x with
   |ops aU ops i sure=>
    obtain⟨b,a,q1,q2,q3,q4,q5,q6⟩:=hc
    exact⟨b,a,q1,q2,q3,q4,q5.known (h▸q5.tm d),q6⟩
   |_=>cases hin
 exact hg g fr w cs cY
theorem nj {h b:Bool} {t:Tree} {o:Out} (k:(uW h b t).ok P E o):b=true∧t.ok P E o:=by
 cases h with
 |true=>exact k
 |false=>cases b with
  |true=>exact⟨rfl,k⟩
  |false=>exact k.elim
def cG (P:Program) (E:Env) (top:Bool) (c:bD) (K:Out→Sc→Tree) (o:Out):Prop:=(∃o1 s1,Good P E c o1∧(K o1 s1).ok P E o)∨(top=true∧Good P E c o)
theorem cG.aH {top:Bool} {c c':bD} {K:Out→Sc→Tree} {o:Out} (hg : ∀g fr w,bH P E g c fr w→cL P E g c fr w c') (h:cG P E top c' K o):cG P E top c K o:=by
 rcases h with⟨o1,s1,h1,h2⟩ | ⟨h1,h2⟩
 · exact .inl ⟨o1,s1,Good.aH hg h1,h2⟩
 · exact .inr ⟨h1,Good.aH hg h2⟩
theorem iI {top:Bool} {sh:Option (AV→AV)} {d:Option Tmp} {c:bD} {k:bD→Tree} {K:Out→Sc→Tree} {o:Out} (hk : ∀c,(k c).ok P E o→cG P E top c K o) (h:(shaped sh d c k).ok P E o):cG P E top c K o:=by
 unfold shaped at h
 split at h
 · rename_i hin
   rcases hk _ h.2 with⟨o1,s1,h1,h2⟩ | ⟨h1,h2⟩
   · exact .inl ⟨o1,s1,qB hin h.1 h1,h2⟩
   · exact .inr ⟨h1,qB hin h.1 h2⟩
 · exact hk c h
def Ix (P:Program) (E:Env) (call:FuncId→List AV→Mem→Option (AV×Mem)):Prop:= ∀g args m v m1,call g args m=some (v,m1)→aB P E g args m v m1
theorem kj {t:Tree} {o:Out} : ∀{l:List bA},(uX l t).ok P E o→dK P E l∧t.ok P E o
 |[],h=>⟨fun _ hq=>(by cases hq),h⟩
 |q::l,h=>⟨fun q' hq=>by
   cases hq with
   |head=>exact h.1
   |tail _ hq=>exact(kj (l:=l) h.2).1 q' hq,(kj (l:=l) h.2).2⟩
open Classical in
noncomputable def only(O:FuncId→List AV→Mem→Option (AV×Mem)) (l:List bA) (g:FuncId) (args:List AV) (m:Mem):Option (AV×Mem):=
 if ∃q∈l,q.g=g∧q.args=args∧q.m=m then O g args m else none
theorem DV {O:FuncId→List AV→Mem→Option (AV×Mem)} {l:List bA} {g:FuncId} {args:List AV} {m:Mem} (h : ∃q∈l,q.g=g∧q.args=args∧q.m=m):only O l g args m=O g args m:=by
 unfold only;rw[if_pos h]
theorem uY {f aU:Nat} {O O':FuncId→List AV→Mem→Option (AV×Mem)} {nx:Nat} {o:Oper} {st:St} (h : ∀q∈jJ E O o st,O' q.g q.args q.m=O q.g q.args q.m) {r:eu×Nat×Bool} (hr:j4 P E f aU O nx o st=some r):j4 P E f aU O' nx o st=some r:=by
 unfold j4 at hr ⊢
 unfold jJ at h
 cases ht:target (ev E st.tm) o with
 |none=>simp only[ht] at hr ⊢;exact hr
 |some ga=>
  obtain⟨g,args⟩:=ga
  simp only[ht] at hr h ⊢
  cases hO:O g (cO (idx (close st.mem 0 args)) args) (pack st.mem (close st.mem 0 args)) with
  |none=>simp only[hO] at hr;cases hr
  |some vm=>
   obtain⟨v,m1⟩:=vm
   simp only[hO] at h hr
   have:=h _ (.head _)
   simp only at this
   rw[this,hO]
   exact hr
theorem wM {f aU:Nat} {O O':FuncId→List AV→Mem→Option (AV×Mem)} {nx:Nat} {o:Oper} {st:St} (h : ∀q∈jJ E O o st,O' q.g q.args q.m=O q.g q.args q.m) {r:eu×Nat×Bool} (hr:fI P E f aU O nx o st=some r):fI P E f aU O' nx o st=some r:=by
 unfold fI at hr ⊢
 cases hl:j4 P E f aU O nx o st with
 |none=>
  rw[hl] at hr
  unfold yY at hr
  split at hr<;>cases hr
 |some x=>
  rw[uY h hl]
  rw[hl] at hr
  exact hr
theorem lC {f aU:Nat} {O O':FuncId→List AV→Mem→Option (AV×Mem)} {ops:Array Oper} : ∀(l:List Oper) (nx:Nat) (st:St) (r:St×Nat×List eu×Bool),(∀q∈kN P E f aU O ops l nx st,O' q.g q.args q.m=O q.g q.args q.m)→eN P E f aU O ops l nx st=some r→eN P E f aU O' ops l nx st=some r
 |[],_,_,_,_,h=>h
 |o::l,nx,st,r,ha,h=>by
  unfold eN at h ⊢
  unfold kN at ha
  have EY : ∀r,(∀q∈kN P E f aU O ops l nx (put st o.dst (.aO [])),O' q.g q.args q.m=O q.g q.args q.m) →
    (match eN P E f aU O ops l nx (put st o.dst (.aO [])) with
      |some (st',kD,ds,ok)=>some (st',kD,(⟨.aO [],[],[],fun _ _=>false⟩:eu)::ds,fits st o.dst&&ok)
      |none=>none)=some r →
    (match eN P E f aU O' ops l nx (put st o.dst (.aO [])) with
      |some (st',kD,ds,ok)=>some (st',kD,(⟨.aO [],[],[],fun _ _=>false⟩:eu)::ds,fits st o.dst&&ok)
      |none=>none)=some r:=by
   intro r hq hr
   cases hg:eN P E f aU O ops l nx (put st o.dst (.aO [])) with
   |none=>rw[hg] at hr;cases hr
   |some x=>rw[lC l nx _ x hq hg];rw[hg] at hr;exact hr
  have Fz : ∀r,(∀q∈jJ E O o st++(match fI P E f aU O nx o st with
        |some (d,fW,_)=>kN P E f aU O ops l fW (put {st with mem:=apply st.mem d.us} o.dst d.v)
        |none=>[]),O' q.g q.args q.m=O q.g q.args q.m) →
    (match fI P E f aU O nx o st with
      |some (d,fW,ok)=>match eN P E f aU O ops l fW (put {st with mem:=apply st.mem d.us} o.dst d.v) with
       |some (st',kD,ds,ok')=>some (st',kD,d::ds,ok&&(fits st o.dst&&ok'))
       |none=>none
      |none=>none)=some r →
    (match fI P E f aU O' nx o st with
      |some (d,fW,ok)=>match eN P E f aU O' ops l fW (put {st with mem:=apply st.mem d.us} o.dst d.v) with
       |some (st',kD,ds,ok')=>some (st',kD,d::ds,ok&&(fits st o.dst&&ok'))
       |none=>none
      |none=>none)=some r:=by
   intro r hq hr
   cases h1:fI P E f aU O nx o st with
   |none=>rw[h1] at hr;cases hr
   |some x=>
    obtain⟨d,fW,ok⟩:=x
    rw[wM (fun q hm=>hq q (List.mem_append.2 (.inl hm))) h1]
    rw[h1] at hr hq
    dsimp only at hr hq ⊢
    cases hg:eN P E f aU O ops l fW (put {st with mem:=apply st.mem d.us} o.dst d.v) with
    |none=>rw[hg] at hr;cases hr
    |some y=>rw[lC l fW _ y (fun q hm=>hq q (List.mem_append.2 (.inr hm))) hg];rw[hg] at hr;exact hr
  dsimp only at h ha ⊢
  cases hw:cw ops st.tm o with
  |yes=>simp only[hw] at h ha ⊢;exact Fz r ha h
  |no=>simp only[hw] at h ha ⊢;exact EY r ha h
  |lost=>simp only[hw] at h;cases h
  |ask d b want=>
   simp only[hw] at h ha ⊢
   cases hb:b==want with
   |true=>simp only[hb] at h ha ⊢;exact Fz r ha h
   |false=>simp only[hb] at h ha ⊢;exact EY r ha h
theorem tB {f aU:Nat} {O:FuncId→List AV→Mem→Option (AV×Mem)} {ops:Array Oper} {st:St} {r:St×Bool} (h:fX P E f aU O ops st=some r):fX P E f aU (only O (asked P E f aU O ops st)) ops st=some r:=by
 unfold fX at h ⊢
 cases hg:eN P E f aU O ops (ops.toList.take (dX ops)) st.mem.length {st with mem:=st.mem++bu (60+ops.size)} with
 |none=>rw[hg] at h;cases h
 |some x=>
  rw[lC (O':=only O (asked P E f aU O ops st)) _ _ _ x (fun q hq=>DV ⟨q,hq,rfl,rfl,rfl⟩) hg]
  rw[hg] at h;exact h
theorem Ay {O:FuncId→List AV→Mem→Option (AV×Mem)} {o:Oper} {st:St} {q:bA} (h:q∈jJ E O o st):O q.g q.args q.m=some (q.v,q.m'):=by
 unfold jJ at h
 split at h
 · split at h
   · rename_i hO
     cases h with
     |head=>exact hO
     |tail _ h=>cases h
   · cases h
 · cases h
theorem mF {f aU:Nat} {O:FuncId→List AV→Mem→Option (AV×Mem)} {ops:Array Oper} : ∀(l:List Oper) (nx:Nat) (st:St) (q:bA),q∈kN P E f aU O ops l nx st→O q.g q.args q.m=some (q.v,q.m')
 |[],_,_,_,h=>by cases h
 |o::l,nx,st,q,h=>by
  unfold kN at h
  have Fz:q∈jJ E O o st++(match fI P E f aU O nx o st with
        |some (d,fW,_)=>kN P E f aU O ops l fW (put {st with mem:=apply st.mem d.us} o.dst d.v)
        |none=>[])→O q.g q.args q.m=some (q.v,q.m'):=by
   intro h
   rcases List.mem_append.1 h with h | h
   · exact Ay h
   · split at h
     · exact mF l _ _ q h
     · cases h
  dsimp only at h
  split at h
  · exact Fz h
  · exact mF l _ _ q h
  · split at h
    · exact Fz h
    · exact mF l _ _ q h
  · cases h
theorem qC {f aU:Nat} {O:FuncId→List AV→Mem→Option (AV×Mem)} {ops:Array Oper} {st:St} (h:dK P E (asked P E f aU O ops st)):Ix P E (only O (asked P E f aU O ops st)):=by
 intro g args m v m1 hO
 unfold only at hO
 split at hO
 · rename_i hq
   obtain⟨q,hm,rfl,rfl,rfl⟩:=hq
   have:=mF _ _ _ q hm
   rw[this] at hO
   obtain⟨rfl,rfl⟩:q.v=v∧q.m'=m1:=by simpa using hO
   exact h q hm
 · cases hO
theorem aG (hN:ec P) {O:dR} {o:Out} : ∀(n:Nat) (top:Bool) (c:bD) (s:Sc) (K:Out→Sc→Tree),(grow P E O n top c s K).ok P E o→cG P E top c K o
 |0,_,_,_,_,h=>h.elim
 |n+1,top,c,s,K,h=>by
  unfold grow at h
  split at h
  · split at h
    · rename_i c' hs;exact .inr ⟨rfl,Good.aH (nh hs) h⟩
    · exact h.elim
  · split at h
    · rename_i c' hs;exact cG.aH (nh hs) (aG hN n top c' s K h)
    · rename_i b c' hs
      obtain⟨rfl,hb⟩:=nj h
      exact cG.aH (tr hs) (iI (fun c=>aG hN n top c s K) hb)
    · rename_i b y z hs
      have gt:=tv hs
      split at h
      · split at h
        · cases b with
          |true=>exact cG.aH gt (aG hN n top y _ K (h.1 rfl))
          |false=>exact cG.aH gt (aG hN n top z _ K (h.2 rfl))
        · obtain⟨rfl,h⟩:=h
          exact cG.aH gt (aG hN n top y _ K h)
        · obtain⟨hb,h⟩:=h
          cases b with
          |true=>cases hb
          |false=>exact cG.aH gt (aG hN n top z _ K h)
        · cases b with
          |true=>exact cG.aH gt (aG hN n top y _ K h)
          |false=>exact cG.aH gt (aG hN n top z _ K h)
        · cases b with
          |true=>exact cG.aH gt (aG hN n top y _ K (h.1 rfl))
          |false=>exact cG.aH gt (aG hN n top z _ K (h.2 rfl))
      · cases b with
        |true=>exact cG.aH gt (aG hN n top y _ K h)
        |false=>exact cG.aH gt (aG hN n top z _ K h)
    · rename_i f args m ord dst c' hs
      split at h
      · rename_i v m1 s' _
        exact cG.aH (hU hs h.1) (iI (fun c=>aG hN n top c s' K) h.2)
      split at h
      · exact cG.aH (hU hs h.1) (iI (fun c=>aG hN n top c s K) h.2)
      · split at h
        · rename_i ci hi
          rcases aG hN n false ci s _ h with⟨o1,s1,h1,h2⟩ | ⟨h1,_⟩
          · cases o1 with
            |ret v m1=>exact cG.aH (hU hs (cT hN hi h1)) (aG hN n top _ s1 K h2)
            |rB v m1=>exact cG.aH (n9 hs (kK hN hi h1)) (aG hN n top _ s1 K h2)
          · cases h1
        · exact h.elim
    · rename_i g args m ord pv c' hs
      split at h
      · rename_i ci hi
        rcases aG hN n false ci s _ h with⟨o1,s1,h1,h2⟩ | ⟨h1,_⟩
        · cases o1 with
          |ret v m1=>exact cG.aH (tw hs (kM hN hi h1)) (aG hN n top _ s1 K h2)
          |rB v m1=>exact h2.elim
        · cases h1
      · exact h.elim
    · rename_i args m ord dst c' hs
      split at h
      · rename_i ci hi
        rcases aG hN n false ci s _ h with⟨o1,s1,h1,h2⟩ | ⟨h1,_⟩
        · cases o1 with
          |ret v m1=>exact cG.aH (qz hs (kL hi h1)) (aG hN n top _ s1 K h2)
          |rB v m1=>exact h2.elim
        · cases h1
      · exact h.elim
    · rename_i g args m ord L c' hs
      split at h
      · split at h
        · rename_i m2 pd hend
          exact cG.aH (lB hs h.1 hend) (aG hN n top _ s K h.2)
        · exact h.elim
      split at h
      · rename_i ci hi
        rcases aG hN n false ci s _ h with⟨o1,s1,h1,h2⟩ | ⟨h1,_⟩
        · cases o1 with
          |ret v m1=>
           dsimp only at h2
           split at h2
           · rename_i m2 pd hend
             exact cG.aH (lB hs (cT hN hi h1) hend) (aG hN n top _ s1 K h2)
           · exact h2.elim
          |rB v m1=>exact h2.elim
        · cases h1
      · exact h.elim
    · rename_i aU ops c' hs
      split at h
      · rename_i L s' _
        split at h
        · rename_i st ok hq
          obtain⟨hcs,h⟩:=kj h
          obtain⟨rfl,hb⟩:=nj h
          exact cG.aH (ni hs (qC hcs) (tB hq)) (aG hN n top _ s' K hb)
        · exact h.elim
      split at h
      · rename_i st ok hq
        obtain⟨hcs,h⟩:=kj h
        obtain⟨rfl,hb⟩:=nj h
        exact cG.aH (ni hs (qC hcs) (tB hq)) (aG hN n top _ s K hb)
      · exact h.elim
    · rename_i o' hs
      exact .inl ⟨o',s,tq hs,h⟩
    · exact h.elim
def atEnd (o:Out) (_:Sc):Tree:= .out o
theorem aq (hN:ec P) {O:dR} {n:Nat} {c:bD} {s:Sc} {t:Tree} {o:Out} (ht:grow P E O n true c s atEnd=t) (h:t.ok P E o):Good P E c o:=by
 subst ht
 rcases aG hN n true c s atEnd h with⟨o1,s1,h1,h2⟩ | ⟨_,h1⟩
 · have:o1=o:=h2
   exact this▸h1
 · exact h1
def bC (P:Program) (E:Env) (O:dR) (n:Nat) (f:FuncId) (args:List AV) (m:Mem) (s:Sc):Tree:=
 match init P f args m with
 |some c=>grow P E O n true c s atEnd
 |none=> .stuck
theorem ak (hN:ec P) {O:dR} {n:Nat} {f:FuncId} {args:List AV} {m m':Mem} {s:Sc} {v:AV} {t:Tree} (ht:bC P E O n f args m s=t) (h:t.ok P E (.ret v m')):aB P E f args m v m':=by
 subst ht
 unfold bC at h
 split at h
 · rename_i c hi;exact cT hN hi (aq hN rfl h)
 · exact h.elim
theorem yw {P:Program} (h:(P.funcs.toList.all fun fn=> !(fn.name == "runtime.NumGoroutine"))=true):ec P:=by
 intro f fn hf
 rw[List.all_eq_true] at h
 have:=h fn (by rw[←Array.getElem?_toList] at hf;exact List.mem_of_getElem? hf)
 simpa using this
def fD (E:Env) (f t:Nat):Code→Nat→List It→Option (Code×List It)
 |.loop b,i,k=>match Nat.beq i t with
  |true=>some (b,k)
  |false=>fD E f t b (i+1) (.inLoop i b::cP (E.keep f (2*i+1)) k)
 |.seq a b,i,k=>match fD E f t a i (.code (i+nodes a) b::k) with
  |some r=>some r
  |none=>fD E f t b (i+nodes a) k
 |.cond _ a b,i,k=>match fD E f t a (i+1) (cP (E.keep f (2*i)) k) with
  |some r=>some r
  |none=>fD E f t b (i+1+nodes a) (cP (E.keep f (2*i)) k)
 |.block id b,i,k=>fD E f t b i (.inBlock id::k)
 |.scope b,i,k=>fD E f t b i (.inScope b::k)
 |_,_,_=>none
def an (P:Program) (E:Env) (f t:Nat) (vs:List AV) (m:Mem) (fix nt:Nat):bD:=
 match P.funcs[f]? with
 |some fn=>match fn.body with
  |some c=>match fD E f t c 0 [] with
   |some (b,k)=>⟨f,.code (t+1) b :: .inLoop t b::cP (E.keep f (2*t+1)) k,⟨((E.keep f (2*t)).getD []).zip vs,nt,m,fix,[],.call⟩⟩
   |none=>⟨f,[],⟨[],0,[],0,[],.call⟩⟩
  |none=>⟨f,[],⟨[],0,[],0,[],.call⟩⟩
 |none=>⟨f,[],⟨[],0,[],0,[],.call⟩⟩
def yx (l:List (Nat×Nat×Nat)) (f a b:Nat):Bool:=match l with
 |[]=>false
 |(f',a',b')::r=>cond (Nat.beq f f') (cond (Nat.beq a a') (cond (Nat.beq b b') true (yx r f a b)) (yx r f a b)) (yx r f a b)
def zu (l:List (Nat×Nat)) (f a:Nat):Bool:=match l with
 |[]=>false
 |(f',a')::r=>cond (Nat.beq f f') (cond (Nat.beq a a') true (zu r f a)) (zu r f a)
def Ca (rows:List (Nat×Nat×List Nat)) (f j:Nat):Option (List Nat):=match rows with
 |[]=>none
 |(f',j',l)::r=>cond (Nat.beq f f'&&Nat.beq j j') (some l) (Ca r f j)
def aW (_:FuncId) (_:List AV) (_:Mem):Option (AV×Mem):=none
def cr (call Di:FuncId→List AV→Mem→Option (AV×Mem)) (F0:List (Nat×Nat)) (Cb Cc:List (Nat×Nat×Nat)):dR where
 call:=call
 Di:=Di
 cut:=zu F0
 fork:=yx Cb
 hard:=yx Cc
 shape _ _ _:=none
def fk (l:List (Nat×Nat×Nat×AV)) (f a b:Nat):Option (AV→AV):=match l with
 |[]=>none
 |(f',a',b',v)::r=>cond (Nat.beq f f'&&(Nat.beq a a'&&Nat.beq b b')) (some fun _=>v) (fk r f a b)
def qD (call Di:FuncId→List AV→Mem→Option (AV×Mem)) (F0:List (Nat×Nat)) (Cb Cc:List (Nat×Nat×Nat)) (shape:FuncId→Nat→Nat→Option (AV→AV)):dR where
 call:=call
 Di:=Di
 cut:=zu F0
 fork:=yx Cb
 hard:=yx Cc
 shape:=shape
def ew (t:Nat):Code→Nat→Option (Array Tmp×Code×Code)
 |.rangeFunc _ ps as bd,i=>cond (Nat.beq i t) (some (ps,as,bd)) none
 |.seq a b,i=>match ew t a i with
  |some r=>some r
  |none=>ew t b (i+nodes a)
 |.cond _ a b,i=>match ew t a (i+1) with
  |some r=>some r
  |none=>ew t b (i+1+nodes a)
 |.block _ b,i=>ew t b i
 |.scope b,i=>ew t b i
 |.loop b,i=>ew t b (i+1)
 |_,_=>none
def gm (P:Program) (f t:Nat) (st:LoopState) (pd:Option Code):mN:=
 match P.funcs[f]? with
 |some fn=>match fn.body with
  |some c=>match ew t c 0 with
   |some (ps,as,bd)=> .loop f ps as bd st pd
   |none=> .EK
  |none=> .EK
 |none=> .EK
end
end Go.Am
end
