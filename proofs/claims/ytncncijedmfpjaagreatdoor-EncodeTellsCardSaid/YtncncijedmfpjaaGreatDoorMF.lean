import Derived.Test.YtncncijedmfpjaaGreatDoorME
import Derived.RangeFuncLeaves
import Derived.RangeFuncIn
import Derived.RangeFuncRecord
open Option.some renaming injEq→dk,inj→dp
open Prod.mk renaming injEq→ja
open List renaming getD_eq_getElem?_getD→de,range_eq_range'→Pl,cons_append→Ps,getElem?_eq_getElem→da,mem_append→na,nil_append→Hm,range'→ui,getElem?_set_self→mb,getElem?_eq_none→eb,getElem?_set_ne→mc,mem_of_getElem?→mv,zip_cons_cons→PH,getElem?_map→ek,mapM_cons→PQ,mem_map→fb,rec→QP
open Go.Sem renaming run_bind→jb,run_pure→jn,runT_eq→QR
open Go.Result renaming andThen_ok→j1
open Bool renaming and_eq_true→di,false_eq_true→o0,rec→ab1
open Nat renaming beq→ba,eq_zero_or_pos→pr,le_refl→c9,eq_of_beq_eq_true→be,lt_or_ge→ft,le_of_ble_eq_true→fg,beq_refl→sm,zero_le→H5,sub_zero→ab2,blt→bj,rec→aca
open Array renaming getD_eq_getD_getElem?→vd,getElem?_eq_getElem→gl,length_toList→gn,getElem?_eq_none→xo,toList_append→xr
open Go.Steps renaming refl→M2
open Go.Frame renaming enter→vj,atR→xf,round→acb
open Option renaming getD_some→il,rec→acx
noncomputable section
section
namespace Go.Am
open Go.RowKit
section
variable {P:Program} {E:Env} {g:Gh} {w:World}
def LO (a:Act):ResultVar→Sem Value
 |.tmp t=>pure (a.tmps.getD t undef)
 |.cell x t=>do loadVar t (←asAddr (a.tmps.getD x undef))
theorem jD {st:St} {a:Act} (h:cU E g st a w) : ∀{rs:List ResultVar} {vs:List AV},iM P st rs=some (vs,true) →
  ∃rW:List Value,(rs.mapM (LO a)).run P w = .ok rW w∧dj g w vs rW
 |[],vs,he=>by
  simp only[iM,dk,ja,and_true] at he;subst he
  exact⟨[],rfl,trivial⟩
 |.tmp t::rs,vs,he=>by
  simp only[iM,Option.map_eq_some_iff,ja] at he
  obtain⟨⟨us,ok⟩,h1,rfl,rfl⟩:=he
  obtain⟨rW,k1,k2⟩:=jD h h1
  refine⟨_::rW,?_,h.tm t,k2⟩
  simp only[PQ,jb,LO,jn,j1,k1]
 |.cell x t::rs,vs,he=>by
  simp only[iM] at he
  split at he
  · rename_i v ok us oks h1 h2
    simp only[dk,ja,di] at he
    obtain⟨rfl,rfl,rfl⟩:=he
    obtain⟨c,o,cv,k1,k2,k3⟩:=rH h.rel (h.tm x) h1
    obtain⟨rW,k4,k5⟩:=jD h h2
    refine⟨cv::rW,?_,k3,k5⟩
    have ha:(asAddr (.pointer (some ⟨c,o,none⟩))).run P w = .ok ⟨c,o,none⟩ w:=rfl
    have hone:(LO a (.cell x t)).run P w = .ok cv w:=by simp only[LO,k1,jb,ha,j1,k2]
    simp only[PQ,jb,hone,jn,j1,k4]
  · cases he
theorem Bb {vs:List AV} {rW:List Value} (h:dj g w vs rW) : ∃cv,(if h:rW.toArray.size=1 then rW.toArray[0] else .tuple rW.toArray)=cv∧VA g w (one vs) cv:=by
 refine⟨_,rfl,?_⟩
 match vs,rW,h with
 |[v],[cv],h=>exact h.1
 |[],[],_=>exact VA.mP.2 trivial
 |v::v'::vs,cv::cv'::rW,h=>
  rw[dif_neg (by simp)]
  exact VA.mP.2 h
theorem Fi {fn:Func} {a:Act} {rW:List Value} {cv:Value} (h:(fn.results.toList.mapM (LO a)).run P w = .ok rW w)
  (hc:(if h:rW.toArray.size=1 then rW.toArray[0] else .tuple rW.toArray)=cv):(results fn a.tmps).run P w = .ok cv w:=by
 have e:results fn a.tmps=(do let vs ←fn.results.mapM (LO a);pure (if h:vs.size=1 then vs[0] else .tuple vs)):=rfl
 rw[e,Array.mapM_eq_mapM_toList]
 simp only[jb,Sem.run_map,h,j1,jn,hc]
theorem Rel.Bc {m:Mem} (h:Rel g m w) : ∀(F:List Nat),(∀b∈F,∃l,m[b]? = some (.pc l)) →
  ∃g' m',Rel g' m' w∧Ext g w g' w∧dF g m w g' m' w∧g'.bX=g.bX∧g'.lo=g.lo∧g'.hi=g.hi∧m'.length=m.length∧(∀i,i∉F→m'[i]? = m[i]?) ∧
   ∀b∈F,∀l c,m[b]? = some (.pc l)→g.bX b=some c → ∀o,o<l.length→g'.pure c o
 |[],_=>⟨g,m,h,Ext.refl _ _,dF.refl _ _ _,rfl,rfl,rfl,rfl,fun _ _=>rfl,fun _ hb=>by cases hb⟩
 |b::F,hF=>by
  obtain⟨g',m',k1,k2,k3,k4,k5,k6,k7,k8,k9⟩:=Rel.Bc h F fun b hb=>hF b (.tail _ hb)
  by_cases hb:b∈F
  · refine⟨g',m',k1,k2,k3,k4,k5,k6,k7,fun i hi=>k8 i fun q=>hi (.tail _ q),fun b' hb'=> ?_⟩
    cases hb' with
    |head=>exact k9 b hb
    |tail _ hb'=>exact k9 b' hb'
  · obtain⟨l,hl⟩:=hF b (.head _)
    have hl':m'[b]? = some (.pc l):=(k8 b hb).trans hl
    obtain⟨c,cs,e,n,q1,_⟩:=h.cells b _ _ hl rfl
    obtain⟨r1,r2,r3⟩:=k1.JS hl' (by rw[k4];exact q1)
    refine⟨_,_,r1,k2.trans r2,k3.trans r3,k4,k5,k6,by simp[k7],fun i hi=> ?_,fun b' hb' l' c' Y5 fk o ho=> ?_⟩
    · have hne:b≠i:=fun e=>hi (e ▸ .head _)
      rw[mc hne]
      exact k8 i fun q=>hi (.tail _ q)
    · cases hb' with
      |head=>
       rw[hl] at Y5;cases Y5
       rw[q1] at fk;cases fk
       exact .inr ⟨rfl,H5 _,ho⟩
      |tail _ hb'=>exact .inl (k9 b' hb' l' c' Y5 fk o ho)
theorem LP {m:Mem} {kept:List Nat} {v:AV} : ∀b∈(freeze m kept v).2.2,∃l,m[b]? = some (.pc l):=by
 intro b hb
 unfold freeze at hb
 split at hb
 · rename_i b' off len sz cap
   cases hk:(has kept b'||ba len 0) with
   |true=>simp[hk] at hb
   |false=>
    simp only[hk,cond_false] at hb
    split at hb
    · rename_i l hl
      simp only[List.mem_singleton] at hb
      subst hb
      exact⟨l,getD_some hl (by simp)⟩
    · simp at hb
 · simp at hb
theorem xB {m:Mem} {kept:List Nat} : ∀{vs:List AV},∀b∈(gI m kept vs).2.2,∃l,m[b]? = some (.pc l)
 |[],b,hb=>by simp[gI] at hb
 |v::vs,b,hb=>by
  simp only[gI,na] at hb
  rcases hb with hb | hb
  · exact LP b hb
  · exact xB b hb
theorem Df {m:Mem} (h:Rel g m w) {g':Gh} (he:Ext g w g' w) {kept:List Nat} {v:AV} {cv:Value} (hv:VA g w v cv) (hok:(freeze m kept v).2.1=true)
  (hp : ∀b∈(freeze m kept v).2.2,∀l c,m[b]? = some (.pc l)→g.bX b=some c → ∀o,o<l.length→g'.pure c o):VA g' w (freeze m kept v).1 cv:=by
 unfold freeze at hok hp ⊢
 split at hok
 · rename_i b off len sz cap
   cases hk:(has kept b||ba len 0) with
   |true=>simp only[cond_true];exact hv.mono he
   |false=>
    simp only[hk,cond_false] at hok hp ⊢
    split at hok
    · rename_i l hl
      simp only[hl] at hp ⊢
      have hl:=getD_some hl (by simp)
      obtain⟨hok,hz⟩:=(di _ _).mp hok
      have hle:=fg hok
      have hz:=fg hz
      cases hv with
      |ms _ _ _ _ cap c hc hcap=>
      obtain⟨c',cs,e,n,k1,k2,k3,k4,k5⟩:=h.cells b _ _ hl rfl
      rw[hc] at k1;cases k1
      have hlen:=k4.1.len
      simp only[List.length_map,gn] at hlen
      have hpure:=hp b (by simp) l c hl hc
      have hVP:JQ g w l cs.toList:=bP.cY (by simpa using k4.1.len) fun i a b=>by
       have:=k4.1.get i (by simpa using a) b
       rw[List.getElem_map,VA.pv] at this
       exact this
      refine .p _ _ (VP.mk (us:=(cs.toList.drop off).take (len*sz)) (bP.mono (fun _ _ q=>VP.mono he.pure q) ((hVP.drop off).take (len*sz))) (by simp;omega) hcap hz fun k v hk=> ?_)
      rw[List.getElem?_take] at hk
      split at hk
      · rename_i hlt
        rw[List.getElem?_drop] at hk
        have hk':=bS hk
        refine⟨by rw[bD k2];simpa using hk,hpure (off+k) (by omega),k4.2 v (mv hk)⟩
      · cases hk
    · exact hv.mono he
 · exact hv.mono he
theorem qg {m:Mem} (h:Rel g m w) {g':Gh} (he:Ext g w g' w) {kept:List Nat} : ∀{vs:List AV} {rW:List Value},dj g w vs rW→(gI m kept vs).2.1=true →
  (∀b∈(gI m kept vs).2.2,∀l c,m[b]? = some (.pc l)→g.bX b=some c → ∀o,o<l.length→g'.pure c o)→dj g' w (gI m kept vs).1 rW
 |[],[],_,_,_=>trivial
 |v::vs,cv::rW,hv,hok,hp=>by
  simp only[gI,di,na] at hok hp ⊢
  exact⟨Df h he hv.1 hok.1 fun b hb=>hp b (.inl hb),qg h he hv.2 hok.2 fun b hb=>hp b (.inr hb)⟩
 |[],_::_,h,_,_=>h.elim
 |_::_,[],h,_,_=>h.elim
theorem xC : ∀{l ord:List Nat},CN l ord=true → ∀i∈l,i∉ord
 |[],_,_,_,h=>by cases h
 |j::l,ord,h,i,hi=>by
  simp only[CN,di,Bool.not_eq_true'] at h
  cases hi with
  |head=>exact fun q=>by rw[JW.2 q] at h;cases h.1
  |tail _ hi=>exact xC h.2 i hi
theorem xD {c:cm} {b:Frame} {a:Act} {todo:List Item} (hs:cU E g c.st a w) (hrb:eT g c.st.cL b) (xk : ∀i,c.st.cL ≠ .round i) (xj:b.fn=c.f) (hd:a.defers=[]) {fr:Frame}
  (hst : ∀cs,Steps P (lone fr cs w) (lone {b.atR a todo with mode:= .returning} cs w)):C9 P E g c fr w (mM P c):=by
 unfold mM
 split
 · rename_i fn hfn
   split
   · rename_i vs ok hres
     intro hok cs
     simp only[di] at hok
     obtain⟨⟨rfl,hfz⟩,hni⟩:=hok
     obtain⟨rW,k1,k2⟩:=jD hs hres
     obtain⟨g',m',r1,r2,r3,r4,r5,r6,r7,r8,r9⟩:=hs.rel.Bc _ (xB (m:=c.st.mem) (kept:=close c.st.mem c.st.fix []) (vs:=vs))
     have k3:=qg hs.rel r2 k2 hfz r9
     obtain⟨cv,hcv,_⟩:=Bb k2
     obtain⟨cv',akj,k4⟩:=Bb k3
     have:cv'=cv:=akj.symm.trans hcv
     subst this
     have hrun:=Fi (P:=P) k1 hcv
     generalize an8:gI c.st.mem (close c.st.mem c.st.fix []) vs=fz at *
     obtain⟨hnd,oA⟩:=fo c.st.mem c.st.fix [one fz.1]
     generalize OT:close c.st.mem c.st.fix [one fz.1]=ord at *
     have hpk:Am.pack c.st.mem ord=Am.pack m' ord:=by
      unfold Am.pack
      refine List.map_congr_left fun i hi=> ?_
      rw[de,de,r8 i fun q=>xC hni i q hi]
     obtain⟨p1,p2⟩:=r1.pack hnd
     have hlen:c.st.fix≤ord.length:=by
      rcases pr c.st.fix with e | e
      · omega
      · have:=bS (oA (c.st.fix-1) (by omega));omega
     refine⟨g'.pack ord,_,w,hst cs,?_,?_,?_,rfl,rfl,rfl⟩
     · refine⟨xj,cv',w,?_,?_,?_,dF.refl _ _ _,?_⟩
       · show OK P c.st.cL {b.atR a todo with mode:= .returning} w cv' w
         have afe:P.funcs[b.fn]? = some fn:=by rw[xj];exact hfn
         generalize c.st.cL=r at hrb xk
         cases r with
         |call=>exact⟨⟨rfl,hd,hrb.1,fn,afe,hrun⟩,rfl⟩
         |late=>exact⟨⟨⟨rfl,hd,fn,afe,hrun⟩,hrb.1⟩,rfl⟩
         |round i=>exact absurd rfl (xk i)
       · simp only[look,sm,cond_true]
         exact k4.iH (dG.pack g' ord)
       · show Rel (g'.pack ord) (Am.pack c.st.mem ord) w
         rw[hpk];exact p1
       · show c.st.fix≤(Am.pack c.st.mem ord).length
         simpa[Am.pack] using hlen
     · refine r3.trans ⟨c9 _,fun _ _ _=>rfl,fun _ _ p=>⟨p,rfl⟩,fun _ _ p=> .inl p,fun c' ho=> .inl (p2 c' ?_),rfl,rfl,rfl⟩
       have ho:fH (g'.pack ord) (Am.pack c.st.mem ord) c':=ho
       rw[hpk] at ho;exact ho
     · intro k c' hk fk
       have:=oA k hk
       simp[Gh.pack,this,r4,r5,r6,fk]
   · trivial
 · trivial
theorem rX {r:Nat} {w:World} (h:w.heap[r]? = some (.deferred (some []))):(Instr.takeDeferred r).run P w = .ok [] {w with heap:=w.heap.setIfInBounds r (.deferred none)}:=by
 simp[Instr.takeDeferred,jb,getObj,setObj,Sem.run,h,Result.andThen]
theorem J1 {b:Frame} {a:Act} {todo:List Item} : ∀{mk:List Mark} {ds:List Deferred} {st:St} {m:Mem} {w:World},mN mk st.mem=some m→Mk g mk ds→cU E g st a w →
  ∃w',(∀cs,Steps P (lone {b.atR {a with defers:=ds} todo with mode:= .returning} cs w) (lone {b.atR {a with defers:=[]} todo with mode:= .returning} cs w')) ∧
   cU E g {st with mem:=m,cT:=[]} {a with defers:=[]} w'∧dF g st.mem w g m w'
 |[],[],st,m,w,h,_,hs=>by
  simp only[mN,dk] at h
  subst h
  exact⟨w,fun cs=>M2 _ _,⟨hs.tm,hs.nt,hs.rel,hs.fix,hs.ec⟩,dF.refl _ _ _⟩
 |.late .. :: mk,_,st,m,w,h,hm,hs=>by
  simp only[mN] at h
  cases h
 |.range i::mk,d::ds,st,m,w,h,hm,hs=>by
  simp only[mN] at h
  split at h
  · rename_i hb
    obtain⟨⟨D,hD,rfl⟩,hm⟩:=hm
    have hib:=getD_some hb (by simp)
    obtain⟨c,ob,vs,k1,k2,k3,k4,_⟩:=hs.rel.obs i _ _ hib
    rw[hD] at k1;cases k1
    obtain⟨rfl,_⟩:=k4
    obtain⟨e1,e2,e3⟩:=fQ w (o':= .deferred none) k2
    obtain⟨r1,r2,r3⟩:=hs.rel.lA (N1:= .shut) (l':=[]) (vs':=[]) hib hD e1 e2 rfl rfl rfl e3 ⟨rfl,rfl⟩ trivial
    have hs':cU E g {st with mem:=st.mem.set i (.ob .shut [])} a {w with heap:=w.heap.setIfInBounds D (.deferred none)}:=
     ⟨fun k=>(hs.tm k).mono r2,hs.nt,r1,by simpa using hs.fix,hs.ec.mono r2.pure⟩
    obtain⟨w',q1,q2,q3⟩:=J1 (st:={st with mem:=st.mem.set i (.ob .shut [])}) h hm hs'
    refine⟨w',fun cs=> .head ?_ (q1 cs),q2,r3.trans q3⟩
    exact step_collected (fr:={b.atR {a with defers:={target:= .collected D,args:= #[]}::ds} todo with mode:= .returning}) (fun e=>by cases e) rfl rfl (rX k2)
  · cases h
 |[],_::_,_,_,_,_,hm,_=>hm.elim
 |.range _::_,[],_,_,_,_,hm,_=>hm.elim
theorem OY {f:FuncId} {fa ca:Array Value} {fn:Func} (hf:P.funcs[f]? = some fn) (hb:fn.body.isSome=true) (hn:(fn.name == "runtime.NumGoroutine")=false) :
  (invoke (.fn (.func f) ca) fa).run P w = .ok (.enter f (fa++ca)) w:=by
 have hbn:fn.body.isNone=false:=by cases hq:fn.body<;>simp_all
 simp only[invoke,callFunc,jb,run_program,j1,hf,hn,o0,if_false,hbn,jn]
theorem tR : ∀{l:List (Nat×Nat)} {cs:List Value},Mps g l cs→dj g w (mps l) cs
 |[],[],_=>trivial
 |(b,off)::l,_::cs,h=>by
  obtain⟨⟨c,h1,h2⟩,h3⟩:=h
  exact⟨by rw[h2];exact .mp b off c h1,tR h3⟩
 |[],_::_,h=>h.elim
 |_::_,[],h=>h.elim
theorem Fj (cv:Option Value):settle (dw cv true) = .returning:=by cases cv<;>rfl
theorem J2 {c:cm} {b:Frame} {a:Act} {todo:List Item} {gf:FuncId} {first caps:List (Nat×Nat)} {pv:Option AV} {rQ:Option Value} {d:Deferred}
  (hs:cU E g c.st a w) (hrb:eT g c.st.cL b) (xk : ∀i,c.st.cL ≠ .round i) (xj:b.fn=c.f) (hd:a.defers=[d]) (hm:Mark.Ok g (.late gf first caps) d) (H6:OM g w pv rQ) {fr:Frame}
  (hst : ∀cs,Steps P (lone fr cs w) (lone {b.atR a todo with mode:=dw rQ false} cs w)):C9 P E g c fr w (CO c pv gf first caps):=by
 unfold CO
 obtain⟨fa,ca,h1,h2,rfl⟩:=hm
 have hargs:dj g w (mps first++mps caps) (fa++ca).toList:=by
  rw[xr]
  exact(tR h1).append (tR h2)
 dsimp only
 generalize mps first++mps caps=args at *
 obtain⟨hnd,_⟩:=fo c.st.mem 0 (pv.toList++args)
 generalize close c.st.mem 0 (pv.toList++args)=ord at *
 cases hlt:ji ord c.st.mem.length with
 |false=>trivial
 |true=>
  intro m1 fJ cs
  obtain⟨⟨fn,TS,TT,TU⟩,fJ⟩:=fJ
  obtain⟨OI,OJ⟩:=hs.rel.pack hnd
  have mW:=dG.pack g ord
  have akk:OM (g.pack ord) w (pv.map (iH (idx ord))) rQ:=by
   cases pv with
   |none=>cases rQ with
    |none=>exact trivial
    |some v=>exact H6.elim
   |some u=>cases rQ with
    |none=>exact H6.elim
    |some v=>exact VA.iH mW H6
  obtain⟨w',g',cv,fr',q1,q2,q3,q5,q6,q7,q8⟩:=fJ (g.pack ord) w (fa++ca) rQ {b.atR {a with defers:=[]} todo with mode:=dw rQ false} cs rfl akk OI (dj.iH mW hargs) (hs.ec.mono fun _ _ p=>⟨p,rfl⟩)
  have hlen:(Am.pack c.st.mem ord).length=ord.length:=by simp[Am.pack]
  rw[hlen] at q7 q8
  obtain⟨r1,r2,r3,r4⟩:=hs.rel.back hnd (gh hlt) q5 q6 q7 q8
  have Ip:=step_defer (P:=P) (fr:={b.atR a todo with mode:=dw rQ false}) (cs:=cs) (w:=w) (ds:=[]) (by cases rQ<;>exact fun e=>by cases e) hd rfl (OY TS TT TU)
  have hleave:=step_going_returned (P:=P) (c:={b.atR {a with defers:=[]} todo with mode:=dw rQ true}) (cs:=cs) q3 q2
  have nw:c.st.fix≤(dD (bM ord c.st.mem.length) ord m1 c.st.mem).length:=by
   rw[ez _ _ _ _ q8];have:=hs.fix;omega
  refine⟨_,{b.atR {a with defers:=[]} todo with mode:= .returning},w',(hst cs).trans (.head Ip (q1.trans (.one ?_))),⟨b,{a with defers:=[]},todo,rfl,xj,hrb.ext fun i c q=>(r2.bX i c q).1,xk,rfl,rfl,⟨fun k=>(hs.tm k).mono r2,hs.nt,r1,nw,hs.ec.mono r2.pure⟩⟩,r3,bZ.rP r2 _,rfl,rfl,rfl⟩
  rw[hleave]
  simp only[Fj]
theorem LQ {c:cm} {b:Frame} {a:Act} {todo:List Item} {u:AV} {cv:Value} (hs:cU E g c.st a w) (hrb:eT g c.st.cL b) (xj:b.fn=c.f) (hd:Mk g c.st.cT a.defers) (hu:VA g w u cv) :
  C9 P E g c {b.atR a todo with mode:=dw (some cv) false} w (wq P c u):=by
 unfold wq
 split
 · trivial
 · rename_i xk
   have xk : ∀i,c.st.cL ≠ .round i:=fun i e=>xk i e
   split
   · rename_i hmk
     split
     · rename_i fn hfn
       intro cs
       have hds:a.defers=[]:=by
        rw[hmk] at hd
        cases hq:a.defers with
        |nil=>rfl
        |cons _ _=>rw[hq] at hd;exact hd.elim
       obtain⟨hnd,oA⟩:=fo c.st.mem c.st.fix [u]
       generalize close c.st.mem c.st.fix [u]=ord at *
       obtain⟨p1,p2⟩:=hs.rel.pack hnd
       have hlen:c.st.fix≤ord.length:=by
        rcases pr c.st.fix with e | e
        · omega
        · have:=bS (oA (c.st.fix-1) (by omega));omega
       refine⟨g.pack ord,_,w,M2 _ _,⟨xj,cv,⟨rfl,hds,fn,?_⟩,hu.iH (dG.pack g ord),p1,?_⟩,?_,?_,rfl,rfl,rfl⟩
       · show P.funcs[b.fn]? = some fn
         rw[xj];exact hfn
       · show c.st.fix≤(Am.pack c.st.mem ord).length
         simpa[Am.pack] using hlen
       · exact⟨c9 _,fun _ _ _=>rfl,fun _ _ p=>⟨p,rfl⟩,fun _ _ p=> .inl p,fun c' ho=> .inl (p2 c' ho),rfl,rfl,rfl⟩
       · intro k c' hk fk
         have:=oA k hk
         simp[Gh.pack,this,fk]
     · trivial
   · rename_i gf first caps hmk
     rw[hmk] at hd
     cases hq:a.defers with
     |nil=>rw[hq] at hd;exact hd.elim
     |cons d ds=>
      rw[hq] at hd
      obtain⟨hd1,hd2⟩:=hd
      cases ds with
      |nil=>exact J2 (pv:=some u) (rQ:=some cv) hs hrb xk xj hq hd1 hu fun cs=>M2 _ _
      |cons _ _=>exact hd2.elim
   · trivial
theorem Bd {c:cm} {b:Frame} {a:Act} {todo:List Item} (hs:cU E g c.st a w) (hrb:eT g c.st.cL b) (xk : ∀i,c.st.cL ≠ .round i) (xj:b.fn=c.f) (hd:Mk g c.st.cT a.defers) {fr:Frame}
  (hst : ∀cs,Steps P (lone fr cs w) (lone {b.atR a todo with mode:= .returning} cs w)):C9 P E g c fr w (ending P c):=by
 have key : ∀m,mN c.st.cT c.st.mem=some m→C9 P E g c fr w (mM P {c with st:={c.st with mem:=m,cT:=[]}}):=by
  intro m hm
  obtain⟨w',q1,q2,q3⟩:=J1 (P:=P) (b:=b) (todo:=todo) hm hd hs
  have h1:=xD (P:=P) (E:=E) (c:={c with st:={c.st with mem:=m,cT:=[]}}) (b:=b) (a:={a with defers:=[]}) (todo:=todo) q2 hrb xk xj rfl (fr:={b.atR {a with defers:=[]} todo with mode:= .returning}) fun cs=>M2 _ _
  unfold mM at h1 ⊢
  split
  · rename_i fn hfn
    rw[hfn] at h1
    simp only at h1
    split
    · rename_i vs ok hres
      simp only[hres] at h1
      intro hok cs
      obtain⟨g',fr',w2,s1,s2,s3,s4,s5,s6,s7⟩:=h1 hok cs
      exact⟨g',fr',w2,((hst cs).trans (q1 cs)).trans s1,s2,q3.trans s3,s4,s5,s6,s7⟩
    · trivial
  · trivial
 unfold ending
 split
 · rename_i hmk
   have h:=key c.st.mem (by rw[hmk];rfl)
   have e:({c with st:={c.st with mem:=c.st.mem,cT:=[]}}:cm)=c:=by
    obtain⟨f,t,st⟩:=c
    obtain⟨tm,nt,mem,fix,cT,cL⟩:=st
    simp only at hmk
    subst hmk
    rfl
   rw[e] at h
   exact h
 · rename_i gf first caps hmk
   rw[hmk] at hd
   cases hq:a.defers with
   |nil=>rw[hq] at hd;exact hd.elim
   |cons d ds=>
    rw[hq] at hd
    obtain⟨hd1,hd2⟩:=hd
    cases ds with
    |nil=>exact J2 (pv:=none) (rQ:=none) hs hrb xk xj hq hd1 trivial hst
    |cons _ _=>exact hd2.elim
 · split
   · rename_i m hm
     exact key m hm
   · trivial
end
end Go.Am
end
section
namespace Go.Am
open Go.RowKit
section
variable {P:Program} {E:Env} {g:Gh} {w:World}
theorem J3 (m:Mem) (b b':bq):(m++[b]).set m.length b'=m++[b']:=by
 rw[List.set_append_right _ _ (c9 _)];simp
theorem Iq {st:St} {a:Act} (h:cU E g st a w):dj g w ((upTo st.nt).map (look st.tm)) a.tmps.toList:=by
 refine bP.cY (by simp[h.nt,jo]) fun i hi hi'=> ?_
 have hu:(upTo st.nt)[i]? = some i:=xg st.nt i (by simpa[jo] using hi)
 have e:((upTo st.nt).map (look st.tm))[i]=look st.tm i:=by
  have:((upTo st.nt).map (look st.tm))[i]? = some (look st.tm i):=by rw[ek,hu];rfl
  rw[da hi] at this
  exact dp this
 rw[e]
 have:=h.tm i
 rw[vd,gl (by simpa using hi')] at this
 simpa using this
theorem LR {st:St} {a:Act} (hs:cU E g st a w) (f:FuncId) (ps:Array Tmp) (as bd:Code) :
  ∃g',Rel g' (dX st f ps as bd) ((w.alloc (.deferred (some []))).alloc (.loop {state:= .ready,pending:=none,fn:=f,tmps:=a.tmps,params:=ps,assign:=as,body:=bd,defers:=w.heap.size})) ∧
   Ext g w g' ((w.alloc (.deferred (some []))).alloc (.loop {state:= .ready,pending:=none,fn:=f,tmps:=a.tmps,params:=ps,assign:=as,body:=bd,defers:=w.heap.size})) ∧
   dF g st.mem w g' (dX st f ps as bd) ((w.alloc (.deferred (some []))).alloc (.loop {state:= .ready,pending:=none,fn:=f,tmps:=a.tmps,params:=ps,assign:=as,body:=bd,defers:=w.heap.size})) ∧
   g'.bX st.mem.length=some w.heap.size∧g'.bX (st.mem.length+1)=some (w.heap.size+1):=by
 obtain⟨r1,s1⟩:=hs.rel.reserve
 obtain⟨r2,e2,s2⟩:=r1.vL (i:=st.mem.length) (ob:= .Lx) (l:=[]) (vs:=[]) (by simp) trivial (eS w (.deferred (some []))) ⟨rfl,rfl⟩
 rw[J3] at r2 s2
 obtain⟨r3,s3⟩:=r2.reserve
 have hv:=(Iq hs).mono e2
 obtain⟨r4,e4,s4⟩:=r3.vL (i:=st.mem.length+1) (ob:= .loop f ps as bd .ready none) (l:=(upTo st.nt).map (look st.tm)) (vs:=a.tmps.toList)
  (by simp) hv (eS _ (.loop {state:= .ready,pending:=none,fn:=f,tmps:=a.tmps,params:=ps,assign:=as,body:=bd,defers:=w.heap.size})) ⟨w.heap.size,by simp⟩
 have hl:(st.mem++[bq.ob .Lx []]).length=st.mem.length+1:=by simp
 have hse:=J3 (st.mem++[bq.ob .Lx []]) .free (.ob (.loop f ps as bd .ready none) ((upTo st.nt).map (look st.tm)))
 rw[hl] at hse
 rw[hse] at r4 s4
 refine⟨_,r4,e2.trans e4,s1.trans (s2.trans (s3.trans s4)),?_,?_⟩
 · have:=(e4.bX st.mem.length w.heap.size (by simp[Gh.put])).1
   exact this
 · simp[Gh.put]
theorem Ax {a:Act} {x:Operand} {f:FuncId} {fa ca:Array Value} {l:Nat} (hx:a.eval x = .func (.func f) fa ca)
  {fn:Func} (hf:P.funcs[f]? = some fn) (hb:fn.body.isSome=true) (hn:(fn.name == "runtime.NumGoroutine")=false) :
  ∃d,(resolve a.eval (rangeCall x l) 0).run P w = .ok d w∧(invoke d.target d.args).run P w = .ok (.enter f (fa ++ #[.func (.yield l) #[] #[]]++ca)) w:=by
 have hbn:fn.body.isNone=false:=by cases hq:fn.body<;>simp_all
 refine⟨{target:= .fn (.func f) ca,args:=fa ++ #[.func (.yield l) #[] #[]]},?_,?_⟩
 · simp only[resolve,hx,Deferred.ofValue,jn]
   have e:Array.map a.eval #[Operand.const (Value.func (Fn.yield l) #[] #[])] = #[Value.func (Fn.yield l) #[] #[]]:=by simp[Act.eval]
   rw[e]
 · simp only[invoke,callFunc,jb,run_program,j1,hf,hn,o0,if_false,hbn,jn]
theorem Fk {m m':Mem} {L l:Nat} {pd:Option Code} (h:Rel g m w) (hl:g.bX L=some l) (he:gz m L=some (m',pd)) :
  ∃w',(Instr.endLoop l).run P w = .ok pd w'∧Rel g m' w'∧Ext g w g w'∧dF g m w g m' w':=by
 unfold gz at he
 split at he
 · rename_i f ps as bd st J4 vals hb
   have hib:=getD_some hb (by simp)
   obtain⟨c,ob,vs,k1,k2,k3,k4,_⟩:=h.obs L _ _ hib
   rw[hl] at k1;cases k1
   obtain⟨D,rfl⟩:=k4
   have fin:st ≠ .busy→some (m.set L (.ob (.loop f ps as bd .exhausted J4) vals),J4)=some (m',pd) → ∃w',(Instr.endLoop l).run P w = .ok pd w'∧Rel g m' w'∧Ext g w g w'∧dF g m w g m' w':=by
    intro hst e
    simp only[dk,ja] at e
    obtain⟨rfl,rfl⟩:=e
    obtain⟨e1,e2,e3⟩:=fQ w (o':= .loop {state:= .exhausted,pending:=J4,fn:=f,tmps:=vs.toArray,params:=ps,assign:=as,body:=bd,defers:=D}) k2
    obtain⟨r1,r2,r3⟩:=h.lA (N1:= .loop f ps as bd .exhausted J4) (l':=vals) (vs':=vs) hib hl e1 e2 rfl rfl rfl e3 ⟨D,rfl⟩ k3
    exact⟨_,run_endLoop k2 hst,r1,r2,r3⟩
   cases st with
   |busy=>cases he
   |ready=>exact fin (fun e=>by cases e) he
   |done=>exact fin (fun e=>by cases e) he
   |exhausted=>exact fin (fun e=>by cases e) he
 · cases he
theorem OZ {st:St} {a:Act} {b:Frame} {k:List Item} {x:Operand} {ps:Array Tmp} {as bd:Code} {gf:FuncId} {first captured:List AV} {v:AV} {m1 m2:Mem} {pd:Option Code}
  (hs:cU E g st a w) (hr:b.roundOf=none) (hd:Mk g st.cT a.defers) (hx:ev E st.tm x = .fn (.func gf) first captured)
  (hlt:ji (close (dX st b.fn ps as bd) 0 (first++[.vy (st.mem.length+1)]++captured)) (dX st b.fn ps as bd).length=true)
  (fJ:az P E gf (eR (idx (close (dX st b.fn ps as bd) 0 (first++[.vy (st.mem.length+1)]++captured))) (first++[.vy (st.mem.length+1)]++captured))
    (pack (dX st b.fn ps as bd) (close (dX st b.fn ps as bd) 0 (first++[.vy (st.mem.length+1)]++captured))) v m1)
  (hend:gz (back (close (dX st b.fn ps as bd) 0 (first++[.vy (st.mem.length+1)]++captured)) none {st with mem:=dX st b.fn ps as bd} v m1).mem (st.mem.length+1)=some (m2,pd)) :
  ∀cs,∃g' a' w',Steps P (lone (b.atR a (.code (.rangeFunc x ps as bd)::k)) cs w) (lone (b.atR a' ((pd.map Item.code).toList++k)) cs w') ∧
   Mk g' (.range st.mem.length::st.cT) a'.defers∧cU E g' {st with mem:=m2,cT:= .range st.mem.length::st.cT} a' w'∧dF g st.mem w g' m2 w'∧bZ g g' st.fix ∧ ∀i c,g.bX i=some c→g'.bX i=some c:=by
 intro cs
 obtain⟨g1,r1,e1,s1,d1,d2⟩:=LR hs b.fn ps as bd
 generalize hM:dX st b.fn ps as bd=M at *
 generalize hW:(w.alloc (.deferred (some []))).alloc (.loop {state:= .ready,pending:=none,fn:=b.fn,tmps:=a.tmps,params:=ps,assign:=as,body:=bd,defers:=w.heap.size})=W at *
 have hlM:st.mem.length+2≤M.length:=by rw[←hM];simp[dX]
 have Ao:=gD hs x
 rw[hx,VA.fns] at Ao
 obtain⟨fa,ca,Ao,YT,hca⟩:=Ao
 obtain⟨⟨fn,TS,TT,TU⟩,fJ⟩:=fJ
 obtain⟨d,hres,hinv⟩:=Ax (P:=P) (w:=W) (l:=w.heap.size+1) Ao TS TT TU
 have Ip:=stepR_rangeFunc (P:=P) (b:=b) (a:=a) (k:=k) (cs:=cs) (w:=w) (g:=x) (ps:=ps) (assign:=as) (body:=bd) (w₁:=W) (by rw[hr,←hW];exact run_enterLoop_outer _ _ _ _ _) hres hinv
 have hargs:dj g1 W (first++[.vy (st.mem.length+1)]++captured) (fa ++ #[Value.func (.yield (w.heap.size+1)) #[] #[]]++ca).toList:=by
  simp only[xr]
  have hy:dj g1 W [.vy (st.mem.length+1)] [Value.func (.yield (w.heap.size+1)) #[] #[]]:=⟨.vy _ _ d2,trivial⟩
  exact((YT.mono e1).append hy).append (hca.mono e1)
 generalize first++[.vy (st.mem.length+1)]++captured=args at *
 obtain⟨hnd,_⟩:=fo M 0 args
 generalize close M 0 args=ord at *
 obtain⟨OI,OJ⟩:=r1.pack hnd
 have mW:=dG.pack g1 ord
 have aff:gw E g1 W:=hs.ec.mono e1.pure
 obtain⟨w',g',cv,fr,q1,q2,q3,q4,q5,q6,q7,q8⟩:=fJ (g1.pack ord) W _ (b.atR {a with defers:=[{target:= .collected w.heap.size,args:= #[]}]++a.defers} (.inRangeFunc (w.heap.size+1)::k)::cs) OI
  (dj.iH mW hargs) (aff.mono fun _ _ p=>⟨p,rfl⟩)
 have hlen:(Am.pack M ord).length=ord.length:=by simp[Am.pack]
 rw[hlen] at q7 q8
 obtain⟨r2,e2,s2,r4⟩:=r1.back hnd (gh hlt) q5 q6 q7 q8
 have hmem:(back ord none {st with mem:=M} v m1).mem=dD (bM ord M.length) ord m1 M:=rfl
 rw[hmem] at hend
 have hL:(g1.back g' ord M.length).bX (st.mem.length+1)=some (w.heap.size+1):=(e2.bX _ _ d2).1
 obtain⟨w2,f1,f2,f3,f4⟩:=Fk (P:=P) r2 hL hend
 have hleave:=step_leave_returned (P:=P) (c:=b.atR {a with defers:=[{target:= .collected w.heap.size,args:= #[]}]++a.defers} (.inRangeFunc (w.heap.size+1)::k)) (cs:=cs) q2
 rw[finish_atR_inRangeFunc] at hleave
 have Fl:Ext g w (g1.back g' ord M.length) w2:=(e1.trans e2).trans f3
 have hm2:st.fix≤m2.length:=by
  have vl:=ez (bM ord M.length) ord m1 M q8
  have YK:m2.length=(dD (bM ord M.length) ord m1 M).length:=by
   unfold gz at hend
   split at hend
   · split at hend
     · cases hend
     · simp only[dk,ja] at hend
       obtain⟨rfl,_⟩:=hend
       simp
   · cases hend
  have:=hs.fix
  omega
 refine⟨g1.back g' ord M.length,{a with defers:=[{target:= .collected w.heap.size,args:= #[]}]++a.defers},w2,.head Ip (q1.trans (.head hleave (.one (stepR_endRangeFunc f1)))),?_,?_,s1.trans (s2.trans f4),bZ.rP Fl _,fun i c q=>(Fl.bX i c q).1⟩
 · exact⟨⟨w.heap.size,(e2.bX _ _ d1).1,rfl⟩,hd.ext fun i c q=>(Fl.bX i c q).1⟩
 · exact⟨fun j=>(hs.tm j).mono Fl,hs.nt,f2,hm2,hs.ec.mono Fl.pure⟩
end
end Go.Am
end
section
namespace Go.Am
open Go.RowKit
section
variable {P:Program} {E:Env} {g:Gh} {w:World}
theorem dU {id:Nat} : ∀{k k':List It},cM id k=some k'→exitTo id (eu k)=some (eu k')
 |[],_,h=>by simp[cM] at h
 |.inBlock i::k,k',h=>by
  simp only[cM] at h
  cases hb:ba i id with
  |true=>
   simp only[hb,cond_true,dk] at h;subst h
   have:=be hb
   subst this
   simp[eu,er,exitTo]
  |false=>
   simp only[hb,cond_false] at h
   have hne:(i==id)=false:=by
    rw[beq_eq_false_iff_ne];intro e;subst e;simp[sm] at hb
   simp only[eu,er,Ps,Hm,exitTo,hne,o0,if_false]
   exact dU h
 |.code _ _::k,k',h=>by
  simp only[cM] at h
  simpa[eu,er,exitTo] using dU h
 |.ops _ _ _ _::k,k',h=>by
  simp only[cM] at h
  simpa[eu,er,exitTo] using dU h
 |.inLoop _ _::k,k',h=>by
  simp only[cM] at h
  simpa[eu,er,exitTo] using dU h
 |.forget _::k,k',h=>by
  simp only[cM] at h
  simpa[eu,er] using dU h
 |.fin::k,k',h=>by
  simp only[cM] at h
  simpa[eu,er] using dU h
 |.Aa _::k,k',h=>by
  simp only[cM] at h
  simpa[eu,er] using dU h
 |.ir _::k,k',h=>by
  simp only[cM] at h
  simpa[eu,er] using dU h
 |.leave::k,k',h=>by
  simp only[cM] at h
  simpa[eu,er] using dU h
 |.begin::k,k',h=>by
  simp only[cM] at h
  simpa[eu,er,exitTo] using dU h
 |.inScope _::k,k',h=>by
  simp only[cM] at h
  simpa[eu,er,exitTo] using dU h
theorem dA {id:Nat} : ∀{k:List It},cM id k=none→exitTo id (eu k)=none
 |[],_=>rfl
 |.inBlock i::k,h=>by
  simp only[cM] at h
  cases hb:ba i id with
  |true=>simp[hb] at h
  |false=>
   simp only[hb,cond_false] at h
   have hne:(i==id)=false:=by
    rw[beq_eq_false_iff_ne];intro e;subst e;simp[sm] at hb
   simp only[eu,er,Ps,Hm,exitTo,hne,o0,if_false]
   exact dA h
 |.code _ _::k,h=>by
  simp only[cM] at h
  simpa[eu,er,exitTo] using dA h
 |.ops _ _ _ _::k,h=>by
  simp only[cM] at h
  simpa[eu,er,exitTo] using dA h
 |.inLoop _ _::k,h=>by
  simp only[cM] at h
  simpa[eu,er,exitTo] using dA h
 |.forget _::k,h=>by
  simp only[cM] at h
  simpa[eu,er] using dA h
 |.fin::k,h=>by
  simp only[cM] at h
  simpa[eu,er] using dA h
 |.Aa _::k,h=>by
  simp only[cM] at h
  simpa[eu,er] using dA h
 |.ir _::k,h=>by
  simp only[cM] at h
  simpa[eu,er] using dA h
 |.leave::k,h=>by
  simp only[cM] at h
  simpa[eu,er] using dA h
 |.begin::k,h=>by
  simp only[cM] at h
  simpa[eu,er,exitTo] using dA h
 |.inScope _::k,h=>by
  simp only[cM] at h
  simpa[eu,er,exitTo] using dA h
theorem dV {l:Nat} : ∀{k k':List It},eY l k=some k'→gotoIn l (eu k)=some (eu k')
 |[],_,h=>by simp[eY] at h
 |.inScope b::k,k',h=>by
  simp only[eY] at h
  simp only[eu,er,Ps,Hm,gotoIn]
  cases hf:findLabel b l with
  |some rest=>
   simp only[hf,dk] at h;subst h
   rfl
  |none=>
   simp only[hf] at h
   exact dV h
 |.code _ _::k,k',h=>by
  simp only[eY] at h
  simpa[eu,er,gotoIn] using dV h
 |.ops _ _ _ _::k,k',h=>by
  simp only[eY] at h
  simpa[eu,er,gotoIn] using dV h
 |.inBlock _::k,k',h=>by
  simp only[eY] at h
  simpa[eu,er,gotoIn] using dV h
 |.inLoop _ _::k,k',h=>by
  simp only[eY] at h
  simpa[eu,er,gotoIn] using dV h
 |.forget _::k,k',h=>by
  simp only[eY] at h
  simpa[eu,er] using dV h
 |.fin::k,k',h=>by
  simp only[eY] at h
  simpa[eu,er] using dV h
 |.Aa _::k,k',h=>by
  simp only[eY] at h
  simpa[eu,er] using dV h
 |.ir _::k,k',h=>by
  simp only[eY] at h
  simpa[eu,er] using dV h
 |.leave::k,k',h=>by
  simp only[eY] at h
  simpa[eu,er] using dV h
 |.begin::k,k',h=>by
  simp only[eY] at h
  simpa[eu,er,gotoIn] using dV h
theorem qH {l:Nat} : ∀{k k':List It},(∀x∈k,It.pl x)→eY l k=some k' → ∀x∈k',It.pl x
 |[],_,_,h=>by simp[eY] at h
 |x::k,k',hf,h=>by
  have ht : ∀y∈k,It.pl y:=fun y hy=>hf y (.tail _ hy)
  cases x with
  |inScope b=>
   simp only[eY] at h
   cases hl:findLabel b l with
   |some rest=>
    simp only[hl,dk] at h;subst h
    intro y hy
    cases hy with
    |head=>exact trivial
    |tail _ hy=>exact hf y hy
   |none=>
    simp only[hl] at h
    exact qH ht h
  |_=>simp only[eY] at h;exact qH ht h
theorem qI {id:Nat} : ∀{k k':List It},(∀x∈k,It.pl x)→cM id k=some k' → ∀x∈k',It.pl x
 |[],_,_,h=>by simp[cM] at h
 |x::k,k',hf,h=>by
  have ht : ∀y∈k,It.pl y:=fun y hy=>hf y (.tail _ hy)
  cases x with
  |inBlock i=>
   simp only[cM] at h
   cases hb:ba i id with
   |true=>simp only[hb,cond_true,dk] at h;subst h;exact ht
   |false=>simp only[hb,cond_false] at h;exact qI ht h
  |_=>simp only[cM] at h;exact qI ht h
theorem Fm {g':Gh} {ρ:Nat→Option Nat} {f:Nat→Value} : ∀(keep:List Nat) (tm:pZ),(∀k,VA g' w (iH ρ (look tm k)) (f k)) → ∀k,VA g' w (look (keep.zip (eR ρ (keep.map (look tm)))) k) (f k)
 |[],tm,_,k=> .bC _
 |i::keep,tm,h,k=>by
  simp only[List.map_cons,eR,PH,j4]
  by_cases e:i=k
  · subst e;simp only[if_true];exact h i
  · simp only[e,if_false];exact Fm keep tm h k
theorem xE {keep:List Nat} {st:St}:(forget keep st).cL=st.cL:=by
 obtain⟨tm,nt,mem,fix,cT,cL⟩:=st
 cases cT with
 |cons i l=>rfl
 |nil=>cases cL<;>rfl
theorem uO {keep:Option (List Nat)} {st:St}:(iZ keep st).cL=st.cL:=by
 cases keep with
 |none=>rfl
 |some keep=>exact xE
theorem Be {st:St} {a:Act} (h:cU E g st a w) (keep:List Nat) : ∃g',cU E g' (forget keep st) a w∧dF g st.mem w g' (forget keep st).mem w∧bZ g g' st.fix∧(forget keep st).fix=st.fix∧(∀ds,Mk g st.cT ds→Mk g' (forget keep st).cT ds) ∧ ∀b,eT g st.cL b→eT g' (forget keep st).cL b:=by
 obtain⟨tm,nt,mem,fix,cT,cL⟩:=st
 have stay:forget keep ⟨tm,nt,mem,fix,cT,cL⟩=⟨tm,nt,mem,fix,cT,cL⟩→_:=fun this=>(show ∃g',cU E g' (forget keep ⟨tm,nt,mem,fix,cT,cL⟩) a w∧dF g mem w g' (forget keep ⟨tm,nt,mem,fix,cT,cL⟩).mem w∧bZ g g' fix∧(forget keep ⟨tm,nt,mem,fix,cT,cL⟩).fix=fix∧(∀ds,Mk g cT ds→Mk g' (forget keep ⟨tm,nt,mem,fix,cT,cL⟩).cT ds) ∧ ∀b,eT g cL b→eT g' (forget keep ⟨tm,nt,mem,fix,cT,cL⟩).cL b from by
  rw[this]
  exact⟨g,h,dF.refl _ _ _,bZ.refl _ _,rfl,fun _ q=>q,fun _ q=>q⟩)
 cases cT with
 |cons i cT=>exact stay rfl
 |nil=>
  cases cL with
  |round i=>exact stay rfl
  |late=>exact stay rfl
  |call=>
   obtain⟨hnd,oA⟩:=fo mem fix (keep.map (look tm))
   obtain⟨h1,h2⟩:=h.rel.pack hnd
   have hlen:fix≤(close mem fix (keep.map (look tm))).length:=by
    rcases pr fix with e | e
    · omega
    · have:=bS (oA (fix-1) (by omega));omega
   refine⟨g.pack (close mem fix (keep.map (look tm))),⟨Fm keep tm fun k=>(h.tm k).iH (dG.pack g _),h.nt,h1,?_,h.ec.mono fun _ _ p=>⟨p,rfl⟩⟩,?_,?_,rfl,?_,fun _ q=>q⟩
   · show fix≤(Am.pack mem _).length
     simpa[Am.pack] using hlen
   · exact⟨c9 _,fun _ _ _=>rfl,fun _ _ p=>⟨p,rfl⟩,fun _ _ p=> .inl p,fun c ho=> .inl (h2 c ho),rfl,rfl,rfl⟩
   · intro k c hk hc
     have:=oA k hk
     simp[Gh.pack,this,hc]
   · intro ds hd
     cases ds with
     |nil=>exact trivial
     |cons _ _=>exact hd.elim
theorem xF {st:St} {a:Act} (h:cU E g st a w) (keep:Option (List Nat)) : ∃g',cU E g' (iZ keep st) a w∧dF g st.mem w g' (iZ keep st).mem w∧bZ g g' st.fix∧(iZ keep st).fix=st.fix∧(∀ds,Mk g st.cT ds→Mk g' (iZ keep st).cT ds) ∧ ∀b,eT g st.cL b→eT g' (iZ keep st).cL b:=by
 cases keep with
 |none=>exact⟨g,h,dF.refl _ _ _,bZ.refl _ _,rfl,fun _ q=>q,fun _ q=>q⟩
 |some keep=>exact Be h keep
theorem oB (keep:Option (List Nat)) (k:List It):eu (eW keep k)=eu k:=by cases keep<;>rfl
theorem oC {keep:Option (List Nat)} {k:List It} (h : ∀x∈k,It.pl x) : ∀x∈eW keep k,It.pl x:=by
 cases keep with
 |none=>exact h
 |some keep=>
  intro x hx
  cases hx with
  |head=>exact trivial
  |tail _ hx=>exact h x hx
theorem xG {st:St} {a:Act} {i l:Nat} {f:FuncId} {ps:Array Tmp} {as bd:Code} {s s':LoopState} {pd J4:Option Code} {vals:List AV}
  (h:cU E g st a w) (hl:g.bX i=some l) (hb:st.mem.getD i .dead = .ob (.loop f ps as bd s pd) vals) :
  ∃r:Loop,w.heap[l]? = some (.loop r)∧r.state=s ∧
   Rel g (st.mem.set i (.ob (.loop f ps as bd s' J4) vals)) (w.putObj l (.loop {r with state:=s',pending:=J4})) ∧
   Ext g w g (w.putObj l (.loop {r with state:=s',pending:=J4})) ∧
   dF g st.mem w g (st.mem.set i (.ob (.loop f ps as bd s' J4) vals)) (w.putObj l (.loop {r with state:=s',pending:=J4})) ∧
   fH g st.mem l:=by
 have hib:=getD_some hb (by simp)
 obtain⟨c,ob,vs,k1,k2,k3,k4,_⟩:=h.rel.obs i _ _ hib
 rw[hl] at k1;cases k1
 obtain⟨D,rfl⟩:=k4
 obtain⟨e1,e2,e3⟩:=fQ w (o':= .loop {state:=s',pending:=J4,fn:=f,tmps:=vs.toArray,params:=ps,assign:=as,body:=bd,defers:=D}) k2
 obtain⟨r1,r2,r3⟩:=h.rel.lA (N1:= .loop f ps as bd s' J4) (l':=vals) (vs':=vs) hib hl e1 e2 rfl rfl rfl e3 ⟨D,rfl⟩ k3
 exact⟨_,k2,rfl,r1,r2,r3,i,_,hib,rfl,hl⟩
theorem oD {c:cm} {b:Frame} {a:Act} {i l:Nat} {jump:Option Code} {todo:List Item} (hs:cU E g c.st a w) (hrn:c.st.cL = .round i) (hl:g.bX i=some l) (xj:b.fn=c.f)
  (hst : ∀(v:Value) (w':World),(Instr.endRound l jump).run P w = .ok v w' → ∀(d:Frame) (cs:List Frame),_root_.Go.step P (lone (b.atR a todo) (d::cs) w) = .next (lone (d.finish v) cs w')) :
  C9 P E g c (b.atR a todo) w (nS c i jump):=by
 unfold nS
 split
 · rename_i f ps as bd s pd vals hb
   dsimp only
   cases hlt:bj i c.st.fix with
   |false=>trivial
   |true=>
   rw[Nat.blt_eq] at hlt
   intro cs
   obtain⟨r,q1,_,q2,q3,q4,q5⟩:=xG (s':=fN jump) (J4:=jump) hs hl hb
   have hrun:=run_endRound (P:=P) jump q1
   have Y6:(if jump.isNone then LoopState.ready else .done)=(fN jump):=by cases jump<;>rfl
   rw[Y6] at hrun
   generalize hm:c.st.mem.set i (.ob (.loop f ps as bd (fN jump) jump) vals)=m at *
   obtain⟨hnd,oA⟩:=fo m c.st.fix []
   generalize OT:close m c.st.fix []=ord at *
   obtain⟨p1,p2⟩:=q2.pack hnd
   have hlen:c.st.fix≤ord.length:=by
    rcases pr c.st.fix with e | e
    · omega
    · have:=bS (oA (c.st.fix-1) (by omega));omega
   have own : ∀c',fH (g.pack ord) (Am.pack m ord) c'→fH g c.st.mem c':=fun c' ho=>(q4.owned c' (p2 c' ho)).elim id fun hh=>by
    have h1:=q2.lW (p2 c' ho)
    rw[World.putObj_size] at h1
    omega
   refine⟨g.pack ord,_,w,M2 _ _,⟨xj,.bool jump.isNone,_,?_,.p _ _ (.sc _),p1,?_,?_⟩,?_,?_,rfl,rfl,rfl⟩
   · show OK P c.st.cL _ w _ _
     rw[hrn]
     exact fun d cs=> .one (hst _ _ hrun d cs)
   · have hol:fH (g.pack ord) (Am.pack m ord) l:=by
      have hi:=oA i hlt
      have him:m[i]? = some (.ob (.loop f ps as bd (fN jump) jump) vals):=by
       rw[←hm,mb (bS (getD_some hb (by simp)))]
      refine⟨i,fM (idx ord) (.ob (.loop f ps as bd (fN jump) jump) vals),?_,rfl,by simp[Gh.pack,hi,hl]⟩
      unfold Am.pack
      rw[ek,hi]
      simp[de,him]
     exact⟨by simp,fun c' _ hno=>World.putObj_heap_other fun e=>hno (e▸hol),fun c' o p=>⟨p,(q4.pure c' o p).2⟩,fun _ _ p=> .inl p,fun _ ho=> .inl ho,rfl,rfl,rfl⟩
   · show c.st.fix≤(Am.pack m ord).length
     simpa[Am.pack] using hlen
   · exact⟨c9 _,fun _ _ _=>rfl,fun _ _ p=>⟨p,rfl⟩,fun _ _ p=> .inl p,fun c' ho=> .inl (own c' ho),rfl,rfl,rfl⟩
   · intro k c' hk fk
     have:=oA k hk
     simp[Gh.pack,this,fk]
 · trivial
theorem iz {c:cm} {fr:Frame} (h:dI P E g c fr w):C9 P E g c fr w (Am.step P E c):=by
 obtain⟨f,todo,st⟩:=c
 cases todo with
 |nil=>
  obtain⟨b,a,rfl,h1,h2,h3,h4,_⟩:=h
  simp only[Am.step]
  split
  · rename_i i hr
    rw[hr] at h2
    obtain⟨hk,l,hl,hro⟩:=h2
    exact oD (c:=⟨f,[],st⟩) h4 hr hl h1 fun v w' hrun d cs=>stepR_round_end hro hk hrun
  · rename_i xk
    have xk : ∀i,st.cL ≠ .round i:=fun i e=>xk i e
    exact Bd (c:=⟨f,[],st⟩) (b:=b) (a:=a) (todo:=[]) h4 h2 xk h1 h3 fun cs=> .one (stepR_end (h2.C7 xk))
 |cons x k=>
  by_cases ow:It.pl x
  case neg=>
   cases x with
   |fin=>
    obtain⟨h1,cv,w2,h2,h3,h4,h6,h5⟩:=h
    exact⟨h1,rfl,cv,w2,h2,h3,h4,h6,h5⟩
   |Aa u=>
    obtain⟨h1,cv,h2,h3,h4,h5⟩:=h
    exact⟨h1,rfl,cv,h2,h3,h4,h5⟩
   |ir u=>
    obtain⟨b,a,todo,cv,rfl,h1,h2,h3,h4,h5⟩:=h
    exact LQ (c:=⟨f,.ir u::k,st⟩) h4 h2 h1 h3 h5
   |leave=>
    obtain⟨b,a,todo,rfl,h1,h2,h3,_,h5,h6⟩:=h
    exact xD (c:=⟨f,.leave::k,st⟩) (b:=b) (a:=a) (todo:=todo) h6 h2 h3 h1 h5 fun cs=>M2 _ _
   |_=>exact absurd trivial ow
  have h' : ∃(b:Frame) (a:Act),fr=b.atR a (er x++eu k)∧b.fn=f∧eT g st.cL b∧Mk g st.cT a.defers∧cU E g st a w ∧ ∀y∈x::k,It.pl y:=by
   cases x<;>first
    |exact absurd ow id
    |exact h
  obtain⟨b,a,rfl,h1,h2,h3,h4,hxk⟩:=h'
  have hk : ∀y∈k,It.pl y:=fun y hy=>hxk y (.tail _ hy)
  clear h
  cases x with
  |fin=>exact absurd ow id
  |Aa u=>exact absurd ow id
  |ir u=>exact absurd ow id
  |leave=>exact absurd ow id
  |begin=>
   simp only[Am.step]
   split
   · rename_i i hr
     unfold wu
     split
     · rename_i f' ps as bd pd vals hb
       intro cs
       have h2':=h2
       rw[hr] at h2'
       obtain⟨_,l,hl,hro⟩:=h2'
       obtain⟨r,q1,q0,q2,q3,q4,_⟩:=xG (s':= .busy) (J4:=pd) h4 hl hb
       have hp:r.pending=pd:=by
        have hib:=getD_some hb (by simp)
        obtain⟨c,ob,vs,k1,k2,k3,k4,_⟩:=h4.rel.obs i _ _ hib
        rw[hl] at k1;cases k1
        obtain⟨D,rfl⟩:=k4
        rw[q1] at k2;cases k2
        rfl
       have hrun:=run_beginRound (P:=P) q1 q0
       rw[show({r with state:= .busy}:Loop)={r with state:= .busy,pending:=pd} by rw[←hp]] at hrun
       refine⟨g,_,_,.one (stepR_beginRound hro hrun),dI.mk (a:=a) (c:=⟨f,k,{st with mem:=st.mem.set i (.ob (.loop f' ps as bd .busy pd) vals)}⟩) hk h1 h2 h3 ⟨fun j=>(h4.tm j).mono q3,h4.nt,q2,by simpa using h4.fix,h4.ec.mono q3.pure⟩,q4,bZ.refl _ _,rfl,rfl,rfl⟩
     · trivial
   · trivial
  |inScope bd=>exact eZ.quiet (fun cs=> .one (step_lone_go (by simp[stepG,stepG.exec,xf,er]))) hk h1 rfl h2 h3 h4 rfl rfl
  |inBlock id=>exact eZ.quiet (fun cs=> .one stepR_inBlock) hk h1 rfl h2 h3 h4 rfl rfl
  |forget keep=>
   intro cs
   obtain⟨g',q1,q2,q3,q4,q5,q6⟩:=Be h4 keep
   exact⟨g',_,w,M2 _ _,dI.mk (c:=⟨f,k,forget keep st⟩) hk h1 (q6 _ h2) (q5 _ h3) q1,q2,q3,rfl,q4,xE⟩
  |inLoop i body=>
   intro cs
   obtain⟨g',q1,q2,q3,q4,q5,q6⟩:=xF h4 (E.keep f (2*i))
   exact⟨g',_,w,.one stepR_inLoop,dI.mk (c:=⟨f,.code (i+1) body :: .inLoop i body::k,iZ (E.keep f (2*i)) st⟩) (nf trivial (nf trivial hk)) h1 (q6 _ h2) (q5 _ h3) q1,q2,q3,rfl,q4,uO⟩
  |ops cK ops i sure=>
   simp only[Am.step]
   cases ho:ops[i]? with
   |none=>
    have hi:ops.size-i=0:=by
     have:ops.size≤i:=by
      rcases ft i ops.size with q | q
      · rw[gl q] at ho;cases ho
      · exact q
     omega
    refine eZ.quiet (c':=⟨f,k,st⟩) (fun cs=> .one ?_) hk h1 rfl h2 h3 h4 rfl rfl
    simp only[er,hi,List.range'_zero,Ps,Hm]
    exact stepR_region_end
   |some o=>
    obtain⟨w1,w2,w3⟩:=pE h4 (ops:=ops) (o:=o)
    have hi:i<ops.size:=by
     rcases ft i ops.size with q | q
     · exact q
     · rw[xo q] at ho;cases ho
    have skip:Region.wanted o (yielded ops a.tmps)=false→fits st o.dst=true→eZ P E g ⟨f,.ops cK ops i sure::k,st⟩ (b.atR a (er (.ops cK ops i sure)++eu k)) w ⟨f,.ops cK ops (i+1) false::k,put st o.dst (.aK [])⟩:=by
     intro hw hf cs
     have hst:=stepR_op_skip (P:=P) (b:=b) (a:=a) (k:=eu k) (cs:=cs) (w:=w) (ops:=ops) (i:=i) (rest:=ui (i+1) (ops.size-(i+1))) (by simp[ho,hw])
     simp only[ho,Option.bind_some] at hst
     rw[←ou hi] at hst
     have hp:=h4.put (v:= .aK []) (cv:=undef) hf (VA.mP.2 trivial) (Ext.refl g w) h4.rel h4.fix
     refine⟨g,_,w,.one hst,dI.mk (a:=a.put o.dst undef) (c:=⟨f,.ops cK ops (i+1) false::k,put st o.dst (.aK [])⟩) (nf trivial hk) h1 (h2.put (Ext.refl g w) rfl) (h3.put (Ext.refl g w) rfl) hp,?_,bZ.refl _ _,rfl,?_,jP⟩
     · have:(put st o.dst (.aK [])).mem=st.mem:=by unfold Am.put;cases o.dst<;>rfl
       show dF g st.mem w g (put st o.dst (.aK [])).mem w
       rw[this];exact dF.refl _ _ _
     · show(put st o.dst (.aK [])).fix=st.fix
       unfold Am.put;cases o.dst<;>rfl
    dsimp only
    cases HR:eG ops st.tm o with
    |yes=>exact JZ (c:=⟨f,.ops cK ops i sure::k,st⟩) h4 h1 h2 h3 ho (w1 HR) hk
    |no=>
     dsimp only
     cases hf:fits st o.dst with
     |false=>trivial
     |true=>exact skip (w2 HR) hf
    |lost=>trivial
    |ask d bb want=>
     obtain⟨q1,q2⟩:=w3 d bb want HR
     dsimp only
     cases sure with
     |false=>
      have known : ∀b':Bool,bb=b'→eZ P E g ⟨f,.ops cK ops i false::k,st⟩ (b.atR a (er (.ops cK ops i false)++eu k)) w ⟨f,.ops cK ops i true::k,put st (some d) (sB b')⟩:=by
       intro b' e
       subst e
       refine eZ.quiet (c':=⟨f,.ops cK ops i true::k,put st (some d) (sB bb)⟩) (fun cs=>M2 _ _) (nf trivial hk) h1 rfl h2 h3 (h4.known ?_) rfl rfl
       rw[q2];exact .p _ _ (.sc _)
      exact⟨known true,known false⟩
     |true=>
      dsimp only
      cases hb:bb==want with
      |true=>exact JZ (c:=⟨f,.ops cK ops i true::k,st⟩) h4 h1 h2 h3 ho (q1.trans hb) hk
      |false=>
       dsimp only
       cases hf:fits st o.dst with
       |false=>trivial
       |true=>exact skip (q1.trans hb) hf
  |code i code=>
   cases code with
   |skip=>exact eZ.quiet (c':=⟨f,k,st⟩) (fun cs=> .one stepR_skip) hk h1 rfl h2 h3 h4 rfl rfl
   |region id ops draw=>
    cases draw with
    |true=>
     simp only[Am.step]
     split
     · rename_i st' ok hq
       intro hok cs
       subst hok
       obtain⟨g',a',w',r1,r2,r3,r4,r5,r6,r7⟩:=TZ (b:=b) (k:=eu k) h4 hq
       refine⟨g',_,w',r1 cs,dI.mk (a:=a') (c:=⟨f,k,{st' with cT:=st.cT,cL:=st.cL}⟩) hk h1 (h2.ext r7) (by rw[r2];exact h3.ext r7) ⟨r3.tm,r3.nt,r3.rel,r3.fix,r3.ec⟩,r4,r5,rfl,r6,rfl⟩
     · split
       · rename_i sts hq
         obtain⟨st',hm,g',a',w',r1,r2,r3,r4,r5,r6,r7⟩:=T5 (b:=b) (k:=eu k) (cK:=id) h4 hq
         intro cs
         exact⟨_,fb.2 ⟨st',hm,rfl⟩,g',_,w',r1 cs,dI.mk (a:=a') (c:=⟨f,k,{st' with cT:=st.cT,cL:=st.cL}⟩) hk h1 (h2.ext r7) (by rw[r2];exact h3.ext r7) ⟨r3.tm,r3.nt,r3.rel,r3.fix,r3.ec⟩,r4,r5,rfl,r6,rfl⟩
       intro O st' hO hq cs
       obtain⟨g',a',w',r1,r2,r3,r4,r5,r6,r7⟩:=Y4 (b:=b) (k:=k) hO h4 hq cs
       have hk' : ∀y∈iN id ops k,It.pl y:=by
        unfold iN
        cases tw ops with
        |false=>exact hk
        |true=>exact nf trivial hk
       exact⟨g',_,w',r1,dI.mk (a:=a') (c:=⟨f,iN id ops k,{st' with cT:=st.cT,cL:=st.cL}⟩) hk' h1 (h2.ext r7) (by rw[r2];exact h3.ext r7) ⟨r3.tm,r3.nt,r3.rel,r3.fix,r3.ec⟩,r4,r5,rfl,r6,rfl⟩
    |false=>
     refine eZ.quiet (c':=⟨f,.ops id ops 0 false::k,st⟩) (fun cs=> .one ?_) (nf trivial hk) h1 rfl h2 h3 h4 rfl rfl
     have:=stepR_region (P:=P) (b:=b) (a:=a) (k:=eu k) (cs:=cs) (w:=w) (ops:=ops) (id:=id)
     simpa[eu,er,Pl] using this
   |seq x y=>exact eZ.quiet (c':=⟨f,.code i x :: .code (i+nodes x) y::k,st⟩) (fun cs=> .one stepR_seq) (nf trivial (nf trivial hk)) h1 rfl h2 h3 h4 rfl rfl
   |cond x y z=>
    simp only[Am.step]
    split
    · rename_i t hx
      have hv:=gD h4 x
      rw[hx,VA.pv] at hv
      generalize hz:a.eval x=cv at hv
      cases hv
      refine⟨fun e=> ?_,fun e=> ?_⟩<;>subst e
      · refine eZ.quiet (c':=⟨f,.code (i+1) y::eW (E.keep f (2*i)) k,st⟩) (fun cs=> .one ?_) (nf trivial (oC hk)) h1 rfl h2 h3 h4 rfl rfl
        simp only[eu,oB];exact stepR_cond hz
      · refine eZ.quiet (c':=⟨f,.code (i+1+nodes y) z::eW (E.keep f (2*i)) k,st⟩) (fun cs=> .one ?_) (nf trivial (oC hk)) h1 rfl h2 h3 h4 rfl rfl
        simp only[eu,oB];exact stepR_cond hz
    · trivial
   |block id body=>exact eZ.quiet (c':=⟨f,.code i body :: .inBlock id::k,st⟩) (fun cs=> .one stepR_block) (nf trivial (nf trivial hk)) h1 rfl h2 h3 h4 rfl rfl
   |loop body=>
    intro cs
    obtain⟨g',q1,q2,q3,q4,q5,q6⟩:=xF h4 (E.keep f (2*i))
    refine⟨g',b.atR a (eu (.code (i+1) body :: .inLoop i body::eW (E.keep f (2*i+1)) k)),w,.one ?_,dI.mk (c:=⟨f,.code (i+1) body :: .inLoop i body::eW (E.keep f (2*i+1)) k,iZ (E.keep f (2*i)) st⟩) (nf trivial (nf trivial (oC hk))) h1 (q6 _ h2) (q5 _ h3) q1,q2,q3,rfl,q4,uO⟩
    simp only[eu,oB];exact stepR_loop
   |exit id=>
    simp only[Am.step]
    split
    · rename_i k' hk'
      exact eZ.quiet (c':=⟨f,k',st⟩) (fun cs=> .one (stepR_exit (dU hk'))) (qI hk hk') h1 rfl h2 h3 h4 rfl rfl
    · rename_i hx
      split
      · rename_i j hr
        rw[hr] at h2
        obtain⟨hk,l,hl,hro⟩:=h2
        exact oD (c:=⟨f,.code i (.exit id)::k,st⟩) h4 hr hl h1 fun v w' hrun d cs=>stepR_round_exit hro hk (dA hx) hrun
      · trivial
   |scope bd=>exact eZ.quiet (c':=⟨f,.code i bd :: .inScope bd::k,st⟩) (fun cs=> .one (step_lone_go (by simp[stepG,stepG.exec,xf,eu,er]))) (nf trivial (nf trivial hk)) h1 rfl h2 h3 h4 rfl rfl
   |label l=>exact eZ.quiet (c':=⟨f,k,st⟩) (fun cs=> .one stepR_label) hk h1 rfl h2 h3 h4 rfl rfl
   |goto l=>
    simp only[Am.step]
    split
    · rename_i k' hk'
      exact eZ.quiet (c':=⟨f,k',st⟩) (fun cs=> .one (stepR_goto (dV hk'))) (qH hk hk') h1 rfl h2 h3 h4 rfl rfl
    · trivial
   |rangeFunc x ps as bd=>
    simp only[Am.step]
    split
    · rename_i hr
      have h2':=h2
      rw[hr] at h2'
      unfold JL
      split
      · rename_i gf first captured hx
        dsimp only
        cases hlt:ji (close (dX st f ps as bd) 0 (first++[.vy (st.mem.length+1)]++captured)) (dX st f ps as bd).length with
        |false=>trivial
        |true=>
         subst h1
         intro v m1 hd m2 pd hend cs
         obtain⟨g',a',w',s1,s2,s3,s4,s5,s6⟩:=OZ (P:=P) (k:=eu k) h4 h2'.2 h3 hx hlt hd hend cs
         have e:(pd.map Item.code).toList++eu k=eu (behind ⟨b.fn,k,{st with mem:=dX st b.fn ps as bd,cT:= .range st.mem.length::st.cT}⟩ m2 pd).todo:=by
          cases pd<;>rfl
         rw[e] at s1
         refine⟨g',_,w',s1,dI.mk (a:=a') (c:=behind ⟨b.fn,k,{st with mem:=dX st b.fn ps as bd,cT:= .range st.mem.length::st.cT}⟩ m2 pd) ?_ rfl (h2.ext s6) s2 s3,s4,s5,rfl,rfl,rfl⟩
         cases pd with
         |none=>exact hk
         |some code=>exact nf trivial hk
      · trivial
    · trivial
   |ret=>
    simp only[Am.step]
    split
    · rename_i j hr
      rw[hr] at h2
      obtain⟨hk,l,hl,hro⟩:=h2
      exact oD (c:=⟨f,.code i .ret::k,st⟩) h4 hr hl h1 fun v w' hrun d cs=>stepR_round_ret hro hk hrun
    · rename_i xk
      have xk : ∀i,st.cL ≠ .round i:=fun i e=>xk i e
      exact Bd (c:=⟨f,.code i .ret::k,st⟩) (b:=b) (a:=a) (todo:= .code .ret::eu k) h4 h2 xk h1 h3 fun cs=> .one (stepR_ret (h2.C7 xk))
   |_=>trivial
end
end Go.Am
end
section
namespace Go.Am
open Go.RowKit
def gM (P:Program):Prop:= ∀(f:FuncId) (fn:Func),P.funcs[f]? = some fn→(fn.name == "runtime.NumGoroutine")=false
def aU (P:Program) (E:Env) (c:cm) (o:Out):Prop:=
 ∀(g:Gh) (fr:Frame) (w:World) (cs:List Frame),dI P E g c fr w→match o with
  |.ret v m'=> ∃g' fr' w' cv w2,Steps P (lone fr cs w) (lone fr' cs w')∧OK P c.st.cL fr' w' cv w2∧fr'.fn=c.f∧VA g' w2 v cv∧Rel g' m' w2∧dF g c.st.mem w g' m' w2∧bZ g g' c.st.fix∧c.st.fix≤m'.length
  |.zY v m'=> ∃g' fr' w' cv,Steps P (lone fr cs w) (lone fr' cs w')∧fr'.leaving P w' (.panicked [{v:=cv,recovered:=false}])∧fr'.fn=c.f∧VA g' w' v cv∧Rel g' m' w'∧dF g c.st.mem w g' m' w'∧bZ g g' c.st.fix∧c.st.fix≤m'.length
section
variable {P:Program} {E:Env}
theorem aU.bI {c c':cm} {o:Out} (hg : ∀g fr w,dI P E g c fr w→eZ P E g c fr w c') (h:aU P E c' o):aU P E c o:=by
 intro g fr w cs hc
 obtain⟨g',fr',w',q1,q2,q3,q4,q5,q6,q7⟩:=hg g fr w hc cs
 cases o with
 |ret v m'=>
  obtain⟨g2,T6,w2,cv,w3,r1,r2,r3,r4,r5,r6,r7,r8⟩:=h g' fr' w' cs q2
  refine⟨g2,T6,w2,cv,w3,q1.trans r1,by rw[←q7];exact r2,r3.trans q5,r4,r5,q3.trans r6,q4.trans ?_,by rw[←q6];exact r8⟩
  rw[←q6];exact r7
 |zY v m'=>
  obtain⟨g2,T6,w2,cv,r1,r2,r3,r4,r5,r6,r7,r8⟩:=h g' fr' w' cs q2
  refine⟨g2,T6,w2,cv,q1.trans r1,r2,r3.trans q5,r4,r5,q3.trans r6,q4.trans ?_,by rw[←q6];exact r8⟩
  rw[←q6];exact r7
theorem qJ : ∀n,upTo n=List.range n
 |0=>rfl
 |n+1=>by rw[upTo,qJ n,List.range_succ]
theorem qK : ∀(l:List AV) (s k:Nat),look ((ui s l.length).zip l) k=if s≤k then l.getD (k-s) .bC else .bC
 |[],s,k=>by simp[look]
 |v::l,s,k=>by
  simp only[List.length_cons,List.range'_succ,PH,j4]
  by_cases e:s=k
  · subst e;simp
  · simp only[e,if_false]
    rw[qK l (s+1) k]
    by_cases h:s+1≤k
    · have h1:s≤k:=by omega
      have h2:k-s=(k-(s+1))+1:=by omega
      simp[h,h1,h2]
    · have h1 : ¬s≤k:=by omega
      simp[h,h1]
def Ir:Bool→X3
 |false=> .call
 |true=> .late
def kindOf:Bool→CallKind
 |false=> .normal
 |true=> .deferred
theorem dI.O0 {g:Gh} {w:World} {f:FuncId} {args:List AV} {m:Mem} {c:cm} {cS:Array Value} (z:Bool) (hi:init P f args m=some c) (hr:Rel g m w) (ha:dj g w args cS.toList) (hg:gw E g w) :
  dI P E g {c with st:={c.st with cL:=Ir z}} (vj P f cS (kindOf z)) w:=by
 unfold init at hi
 split at hi
 · rename_i fn hf
   split at hi
   · rename_i body hb
     simp only[dk] at hi;subst hi
     have hlen:=ha.len
     simp only[gn] at hlen
     let b:Frame:={(default:Frame) with fn:=f,kind:=kindOf z,roundOf:=none}
     have hen:vj P f cS (kindOf z)=b.atR {tmps:=cS++Array.replicate (fn.ntmps-cS.size) undef,defers:=[]} [.code body]:=by
      simp[vj,xf,hf,hb,b]
     rw[hen]
     refine dI.mk (c:=⟨f,[.code 0 body],⟨(upTo args.length).zip args,max fn.ntmps args.length,m,m.length,[],Ir z⟩⟩) (nf trivial (fun _ h=>by cases h)) rfl (by cases z<;>exact⟨rfl,rfl⟩) trivial ⟨?_,?_,hr,c9 _,hg⟩
     · intro k
       rw[qJ,Pl,qK]
       simp only[H5,if_true,ab2]
       rcases ft k args.length with hk | hk
       · rw[de,da hk]
         have hk':k<cS.toList.length:=by simp;omega
         have hk2:k<cS.size:=by omega
         have:=ha.get k hk hk'
         simp only[il,vd]
         rw[Array.getElem?_append_left hk2,gl hk2]
         simpa using this
       · rw[de,eb hk]
         exact .bC _
     · simp;omega
   · cases hi
 · cases hi
theorem rY {f:FuncId} {args:List AV} {m:Mem} {c:cm} (hi:init P f args m=some c):c.st.mem=m∧c.st.fix=m.length∧c.f=f∧c.st.cL = .call:=by
 unfold init at hi
 split at hi
 · split at hi
   · simp only[dk] at hi;subst hi;exact⟨rfl,rfl,rfl,rfl⟩
   · cases hi
 · cases hi
theorem dI.enter {g:Gh} {w:World} {f:FuncId} {args:List AV} {m:Mem} {c:cm} {cS:Array Value} (hi:init P f args m=some c) (hr:Rel g m w) (ha:dj g w args cS.toList) (hg:gw E g w) :
  dI P E g c (vj P f cS .normal) w:=by
 have h:=dI.O0 (P:=P) false hi hr ha hg
 have e:({c with st:={c.st with cL:=Ir false}}:cm)=c:=by
  obtain⟨_,_,_,h4⟩:=rY hi
  obtain⟨f,t,tm,nt,mem,fix,cT,cL⟩:=c
  simp only at h4
  subst h4
  rfl
 rw[e] at h
 exact h
theorem tS (hN:gM P) {f:FuncId} {args:List AV} {m:Mem} {c:cm} (hi:init P f args m=some c) : ∃fn,P.funcs[f]? = some fn∧fn.body.isSome=true∧(fn.name == "runtime.NumGoroutine")=false:=by
 unfold init at hi
 split at hi
 · rename_i fn hf
   split at hi
   · rename_i body hb
     exact⟨fn,hf,by simp[hb],hN f fn hf⟩
   · cases hi
 · cases hi
theorem qh (hN:gM P) {f:FuncId} {args:List AV} {m:Mem} {c:cm} {v:AV} {m':Mem} (hi:init P f args m=some c) (h:aU P E c (.zY v m')):OL P E f args m v m':=by
 refine⟨tS hN hi,fun g w cS cs hr ha hg=> ?_⟩
 obtain⟨g',fr',w',cv,q1,q2,q3,q4,q5,q6,q7,q8⟩:=h g _ w cs (dI.enter hi hr ha hg)
 obtain⟨e1,e2,e3,e4⟩:=rY hi
 rw[e1] at q6;rw[e2] at q7 q8;rw[e3] at q3
 exact⟨_,g',cv,fr',q1,q2,q3,q4,q5,q6,q7,q8⟩
theorem fq (hN:gM P) {f:FuncId} {args:List AV} {m:Mem} {c:cm} {v:AV} {m':Mem} (hi:init P f args m=some c) (h:aU P E c (.ret v m')):az P E f args m v m':=by
 refine⟨tS hN hi,fun g w cS cs hr ha hg=> ?_⟩
 obtain⟨g',fr',w',cv,w2,q1,q2,q3,q4,q5,q6,q7,q8⟩:=h g _ w cs (dI.enter hi hr ha hg)
 obtain⟨e1,e2,e3,e4⟩:=rY hi
 rw[e1] at q6;rw[e2] at q7 q8;rw[e3] at q3;rw[e4] at q2
 obtain⟨q2,rfl⟩:=q2
 exact⟨_,g',cv,fr',q1,q2,q3,q4,q5,q6,q7,q8⟩
theorem rZ {g:Gh} {w:World} : ∀(ds:List Nat) (vs:List AV) (rW:List Value) (tm:pZ) (t:Array Value),dj g w vs rW→ds.length=vs.length→(∀d∈ds,d<t.size)→(∀k,VA g w (look tm k) (t.getD k undef)) →
  (∀k,VA g w (look (HX tm ds vs) k) (((ds.zip rW).foldl (fun t (q:Nat×Value)=>t.setIfInBounds q.1 q.2) t).getD k undef))∧((ds.zip rW).foldl (fun t (q:Nat×Value)=>t.setIfInBounds q.1 q.2) t).size=t.size
 |[],[],[],tm,t,_,_,_,h=>⟨h,rfl⟩
 |d::ds,v::vs,cv::rW,tm,t,hv,hl,hd,h=>by
  have hdt:=hd d (.head _)
  obtain⟨q1,q2⟩:=rZ ds vs rW ((d,v)::tm) (t.setIfInBounds d cv) hv.2 (by simpa using hl) (fun d' hd'=>by simpa using hd d' (.tail _ hd')) fun k=>by
   simp only[j4]
   by_cases hk:d=k
   · subst hk
     simp only[if_true,vd,Array.getElem?_setIfInBounds_self_of_lt hdt,il]
     exact hv.1
   · simp only[hk,if_false,vd]
     rw[Array.getElem?_setIfInBounds_ne hk,←vd]
     exact h k
  exact⟨q1,q2.trans (by simp)⟩
 |[],_::_,_,_,_,_,hl,_,_=>by simp at hl
 |_::_,[],_,_,_,_,hl,_,_=>by simp at hl
 |[],[],_::_,_,_,h,_,_,_=>h.elim
 |_::_,_::_,[],_,_,h,_,_,_=>h.elim
theorem qi {args:List AV} {m:Mem} {c:cm} {v:AV} {m':Mem} (hi:EJ args m=some c) (h:aU P E c (.ret v m')):JY P E args m v m':=by
 intro g w i l xs TR d cs hargs hr hl hx hg
 subst hargs
 unfold EJ at hi
 dsimp only at hi
 split at hi
 · rename_i f ps as bd s pd vals hb
   cases hc:(ba xs.length ps.toList.length&&ji ps.toList vals.length) with
   |false=>rw[hc] at hi;cases hi
   |true=>
    rw[hc] at hi
    simp only[cond_true,dk] at hi
    simp only[di] at hc
    have hlen:=be hc.1
    have hlt:=gh hc.2
    have hib:=getD_some hb (by simp)
    obtain⟨c0,ob,vs,k1,k2,k3,k4,_⟩:=hr.obs i _ _ hib
    rw[hl] at k1;cases k1
    obtain⟨D,rfl⟩:=k4
    have hxl:=hx.len
    simp only[gn] at hxl
    have hvl:=k3.len
    have Is:=run_yield (P:=P) (args:=TR) k2 (by show TR.size=ps.size;simp at hlen;omega)
    dsimp only at Is
    have JR:(ps.zip TR).foldl (fun tmps (t,a)=>tmps.setIfInBounds t a) vs.toArray=(ps.toList.zip TR.toList).foldl (fun t (q:Nat×Value)=>t.setIfInBounds q.1 q.2) vs.toArray:=by
     rw[←Array.foldl_toList,Array.toList_zip]
    rw[JR] at Is
    obtain⟨t1,t2⟩:=rZ ps.toList xs TR.toList ((upTo vals.length).zip vals) vs.toArray hx hlen.symm (fun d hd=>by have:=hlt d hd;simp;omega) fun k=>by
     rw[qJ,Pl,qK]
     simp only[H5,if_true,ab2]
     rcases ft k vals.length with hk | hk
     · rw[de,da hk]
       have hk':k<vs.length:=by omega
       have:=k3.get k hk hk'
       simp only[il,vd]
       simpa[hk'] using this
     · rw[de,eb hk]
       exact .bC _
    generalize (ps.toList.zip TR.toList).foldl (fun t (q:Nat×Value)=>t.setIfInBounds q.1 q.2) vs.toArray=T at *
    let b:Frame:={(default:Frame) with fn:=f,kind:= .normal,roundOf:=some l}
    have hen:acb l f T as bd .normal=b.atR {tmps:=T,defers:=[]} (eu c.todo):=by
     rw[←hi]
     simp[acb,xf,eu,er,b]
    have xH:dI P E g c (acb l f T as bd .normal) w:=by
     rw[hen]
     subst hi
     exact dI.mk (nf trivial (nf trivial (nf trivial fun _ h=>by cases h))) rfl ⟨rfl,l,hl,rfl⟩ trivial ⟨t1,by rw[t2];simp;omega,hr,c9 _,hg⟩
    have hm:c.st.mem=m∧c.st.fix=m.length∧c.st.cL = .round i:=by subst hi;exact⟨rfl,rfl,rfl⟩
    obtain⟨e1,e2,e3⟩:=hm
    obtain⟨g',fr',w',cv,w2,q1,q2,q3,q4,q5,q6,q7,q8⟩:=h g _ w (d::cs) xH
    rw[e1] at q6;rw[e2] at q7 q8;rw[e3] at q2
    exact⟨f,T,as,bd,w2,g',cv,Is,q1.trans (q2 d cs),q4,q5,q6,q7,q8⟩
 · cases hi
theorem Bf {c:cm} {o:Out} (h:Am.step P E c = .done o):aU P E c o:=by
 intro g fr w cs hc
 have hs:=iz hc
 rw[h] at hs
 cases o with
 |ret v m'=>
  obtain⟨h1,rfl,cv,w2,h2,h3,h4,h6,h5⟩:=hs
  exact⟨g,fr,w,cv,w2,M2 _ _,h2,h1,h3,h4,h6,bZ.refl _ _,h5⟩
 |zY v m'=>
  obtain⟨h1,rfl,cv,h2,h3,h4,h5⟩:=hs
  exact⟨g,fr,w,cv,M2 _ _,h2,h1,h3,h4,dF.refl _ _ _,bZ.refl _ _,h5⟩
theorem tT {c c':cm} (h:Am.step P E c = .next c') : ∀g fr w,dI P E g c fr w→eZ P E g c fr w c':=by
 intro g fr w hc
 have hs:=iz hc
 rw[h] at hs;exact hs
theorem Bg {c c':cm} (h:Am.step P E c = .must true c') : ∀g fr w,dI P E g c fr w→eZ P E g c fr w c':=by
 intro g fr w hc
 have hs:=iz hc
 rw[h] at hs;exact hs rfl
theorem Bh {c y z:cm} {b:Bool} (h:Am.step P E c = .test b y z) : ∀g fr w,dI P E g c fr w→eZ P E g c fr w (match b with | true=>y | false=>z):=by
 intro g fr w hc
 have hs:=iz hc
 rw[h] at hs
 cases b with
 |true=>exact hs.1 rfl
 |false=>exact hs.2 rfl
theorem mh {c c':cm} {f:FuncId} {args:List AV} {m:Mem} {ord:List Nat} {dst:Option Tmp} {v:AV} {m1:Mem} (h:Am.step P E c = .call f args m ord dst c') (hd:az P E f args m v m1) :
  ∀g fr w,dI P E g c fr w→eZ P E g c fr w {c' with st:=back ord dst c'.st v m1}:=by
 intro g fr w hc
 have hs:=iz hc
 rw[h] at hs
 exact hs.1 v m1 hd
theorem uP {c c':cm} {f:FuncId} {args:List AV} {m:Mem} {ord:List Nat} {dst:Option Tmp} {v:AV} {m1:Mem} (h:Am.step P E c = .call f args m ord dst c') (hd:OL P E f args m v m1) :
  ∀g fr w,dI P E g c fr w→eZ P E g c fr w (nT ord c' v m1):=by
 intro g fr w hc
 have hs:=iz hc
 rw[h] at hs
 exact hs.2 v m1 hd
theorem Bi {c c':cm} {f:FuncId} {args:List AV} {m:Mem} {ord:List Nat} {pv:Option AV} {m1:Mem} (h:Am.step P E c = .late f args m ord pv c') (hd:ON P E f args m pv m1) :
  ∀g fr w,dI P E g c fr w→eZ P E g c fr w {c' with st:=back ord none c'.st (.aK []) m1}:=by
 intro g fr w hc
 have hs:=iz hc
 rw[h] at hs
 exact hs m1 hd
theorem kG {b:Frame} {a:Act} {cs:List Frame} {w:World} : ∀(n:Nat) (t t':List It),wC n t=some t'→(∀x∈t,It.pl x)→Steps P (lone (b.atR a (eu t)) cs w) (lone (b.atR a (eu t')) cs w) ∧ ∀x∈t',It.pl x
 |0,_,_,h,_=>by cases h
 |n+1,t,t',h,hp=>by
  unfold wC at h
  split at h
  · simp only[dk] at h;subst h
    exact⟨M2 _ _,hp⟩
  · obtain⟨h1,h2⟩:=kG n _ t' h (nf trivial (nf trivial fun y hy=>hp y (.tail _ hy)))
    exact⟨.head stepR_seq h1,h2⟩
  · rename_i id ops k
    obtain⟨h1,h2⟩:=kG n _ t' h (nf trivial fun y hy=>hp y (.tail _ hy))
    refine⟨.head ?_ h1,h2⟩
    have:=stepR_region (P:=P) (b:=b) (a:=a) (k:=eu k) (cs:=cs) (w:=w) (ops:=ops) (id:=id)
    simpa[eu,er,Pl] using this
  · obtain⟨h1,h2⟩:=kG n _ t' h (nf trivial (nf trivial fun y hy=>hp y (.tail _ hy)))
    exact⟨.head (step_lone_go (by simp[stepG,stepG.exec,xf,eu,er])) h1,h2⟩
  · obtain⟨h1,h2⟩:=kG n _ t' h (nf trivial (nf trivial fun y hy=>hp y (.tail _ hy)))
    exact⟨.head stepR_block h1,h2⟩
  · cases h
theorem Dg {b:Frame} {a:Act} {k:List Item} {c0:Frame} {cs:List Frame} {w:World} {ops:Array Oper} {i:Nat} {rest:List Nat} {o:Oper} {rQ:Option Value} (hk:b.kind = .deferred) (hb:b.roundOf=none) (ho:ops[i]? = some o) (hr:isRec o=true)
  (h0:c0.mode=dw rQ false) :
  _root_.Go.step P (lone (b.atR a (.inRegion ops (i::rest)::k)) (c0::cs) w) = .next (lone (b.atR (a.put o.dst (rQ.getD .nilIface)) (.inRegion ops rest::k)) ({c0 with mode:=dw rQ true}::cs) w):=by
 unfold isRec at hr
 split at hr
 · rename_i c hop hgd
   split at hr
   · rename_i Au akm
     have kS:c.args = #[]:=by have:=congrArg List.toArray akm;simpa using this
     have hw:Region.wanted o (yielded ops a.tmps)=true:=by unfold Region.wanted;rw[hgd]
     have hg:=stepGR_op (P:=P) (b:=b) (k:=k) (cs:=c0::cs) (w:=w) (rest:=rest) ho hw
     have hrun:(o.semAt b.roundOf a.eval).run P w = .ok .recover w:=by
      rw[hb]
      simp only[Oper.semAt,execOp,hop,resolve,Au,kS,jb,jn,j1,invoke,builtin]
     have ow : ∀v,(b.atR a (.inRegion ops (i::rest)::k)).finish v=b.atR (a.put o.dst v) (.inRegion ops rest::k):=fun v=>by rw[Frame.finish_atR,ho];rfl
     have hkk:(b.atR a (.inRegion ops (i::rest)::k)).kind = .deferred:=hk
     have Yb:=tryRecover_deferred hkk (c0::cs)
     have hro:(b.atR a (.inRegion ops (i::rest)::k)).roundOf=none:=hb
     refine step_lone_go ?_
     rw[hg]
     cases rQ with
     |none=>
      have e:recoverD (c0::cs)=none:=by unfold recoverD;simp only[h0,dw]
      rw[e] at Yb
      have h00:({c0 with mode:=dw none true}:Frame)=c0:=by rw[show dw none true=c0.mode from h0.symm]
      rw[h00]
      simp only[stepG.apply,QR,hrun,hro,Yb,GStep.bare_after,GStep.bare_go,ow,Option.getD_none,if_true]
     |some v=>
      have e:recoverD (c0::cs)=some (v,{c0 with mode:=dw (some v) true}::cs):=by unfold recoverD;simp only[h0,dw]
      rw[e] at Yb
      simp only[stepG.apply,QR,hrun,hro,Yb,GStep.bare_after,GStep.bare_go,ow,il,if_true]
   · cases hr
 · cases hr
theorem qj (hN:gM P) {f:FuncId} {args:List AV} {m:Mem} {pv:Option AV} {c:cm} {v:AV} {m':Mem} (hi:EL P f args m pv=some c) (h:aU P E c (.ret v m')):ON P E f args m pv m':=by
 unfold EL at hi
 split at hi
 · rename_i c0 fy
   split at hi
   · rename_i t1 hi1
     refine⟨tS hN fy,fun g w cS rQ fr0 cs h0 H6 hr ha hg=> ?_⟩
     obtain⟨e1,e2,e3,_⟩:=rY fy
     have hen:=dI.O0 (P:=P) true fy hr ha hg
     have afh : ∃body,c0.todo=[.code 0 body]:=by
      unfold init at fy
      split at fy
      · split at fy
        · simp only[dk] at fy;subst fy;exact⟨_,rfl⟩
        · cases fy
      · cases fy
     obtain⟨body,hbody⟩:=afh
     obtain⟨f0,t0,gL⟩:=c0
     simp only at hbody e1 e2 e3 hi1 hi
     subst hbody
     obtain⟨b,a,hfr,h1,h2,h3,h4,hk⟩:=hen
     simp only at h1 h2 h3 h4 hk
     obtain⟨Y7,Ey⟩:=kG (P:=P) (b:=b) (a:=a) (cs:=fr0::cs) (w:=w) 20 _ _ hi1 hk
     have akn:vj P f cS .deferred=b.atR a (eu [It.code 0 body]):=hfr
     rw[akn]
     unfold X4 at hi
     simp only at hi
     split at hi
     · rename_i cK ops i sure k
       split at hi
       · rename_i o ho
         have hlt:i<ops.size:=by
          rcases ft i ops.size with q | q
          · exact q
          · rw[xo q] at ho;cases ho
         have hk' : ∀y∈k,It.pl y:=fun y hy=>Ey y (.tail _ hy)
         cases hb:(isRec o&&fits {gL with cL:= .late} o.dst) with
         |false=>rw[hb] at hi;cases hi
         |true=>
          rw[hb] at hi
          simp only[cond_true,dk] at hi
          simp only[di] at hb
          have hstep:=Dg (P:=P) (a:=a) (k:=eu k) (cs:=cs) (w:=w) (rest:=ui (i+1) (ops.size-(i+1))) (rQ:=rQ) h2.1 h2.2 ho hb.1 h0
          have Ak:VA g w (pv.getD (.p (.sc .nilIface))) (rQ.getD .nilIface):=by
           cases pv with
           |none=>cases rQ with
            |none=>exact .p _ _ (.sc _)
            |some _=>exact H6.elim
           |some u=>cases rQ with
            |none=>exact H6.elim
            |some cv=>exact H6
          have hput:=h4.put (m':=gL.mem) hb.2 Ak (Ext.refl g w) h4.rel h4.fix
          have hcr:dI P E g c (b.atR (a.put o.dst (rQ.getD .nilIface)) (.inRegion ops (ui (i+1) (ops.size-(i+1)))::eu k)) w:=by
           subst hi
           exact dI.mk (c:=⟨f0,.ops cK ops (i+1) false::k,put {gL with cL:= .late} o.dst (pv.getD (.p (.sc .nilIface)))⟩) (nf trivial hk') h1 (by rw[jP];exact h2) (h3.put (st:={gL with cL:= .late}) (st':={gL with cL:= .late}) (Ext.refl g w) rfl) hput
          obtain⟨g2,T6,w2,cv,w3,r1,r2,r3,r4,r5,r6,r7,r8⟩:=h g _ w ({fr0 with mode:=dw rQ true}::cs) hcr
          have hc:c.st.mem=m∧c.st.fix=m.length∧c.st.cL = .late:=by
           subst hi
           refine⟨?_,?_,?_⟩
           · rw[←e1]
             show(put {gL with cL:= .late} o.dst _).mem=gL.mem
             unfold Am.put;cases o.dst<;>rfl
           · rw[←e2]
             show(put {gL with cL:= .late} o.dst _).fix=gL.fix
             unfold Am.put;cases o.dst<;>rfl
           · show(put {gL with cL:= .late} o.dst _).cL = .late
             rw[jP]
          obtain⟨c1,c2,c3⟩:=hc
          rw[c3] at r2
          obtain⟨⟨r2,r2'⟩,rfl⟩:=r2
          rw[c1] at r6
          rw[c2] at r7 r8
          refine⟨_,g2,cv,T6,Y7.trans (.head ?_ r1),r2,r2',r5,r6,r7,r8⟩
          have he:eu (.ops cK ops i sure::k) = .inRegion ops (i::ui (i+1) (ops.size-(i+1)))::eu k:=by
           simp only[eu,er,ou hlt,Ps,Hm]
          rw[he]
          exact hstep
       · cases hi
     · cases hi
   · cases hi
 · cases hi
theorem xI {c c':cm} {args:List AV} {m:Mem} {ord:List Nat} {dst:Option Tmp} {v:AV} {m1:Mem} (h:Am.step P E c = .round args m ord dst c') (hd:JY P E args m v m1) :
  ∀g fr w,dI P E g c fr w→eZ P E g c fr w {c' with st:=back ord dst c'.st v m1}:=by
 intro g fr w hc
 have hs:=iz hc
 rw[h] at hs
 exact hs v m1 hd
theorem qM {c c':cm} {f:FuncId} {args:List AV} {m:Mem} {ord:List Nat} {L:Nat} {v:AV} {m1 m2:Mem} {pd:Option Code} (h:Am.step P E c = .range f args m ord L c') (hd:az P E f args m v m1)
  (he:gz (back ord none c'.st v m1).mem L=some (m2,pd)) : ∀g fr w,dI P E g c fr w→eZ P E g c fr w (behind c' m2 pd):=by
 intro g fr w hc
 have hs:=iz hc
 rw[h] at hs
 exact hs v m1 hd m2 pd he
theorem aU.Y8 {c:cm} {l:List cm} {o:Out} (hg : ∀g fr w,dI P E g c fr w→C8 P E g c fr w l) (h : ∀c'∈l,aU P E c' o):aU P E c o:=by
 intro g fr w cs hc
 obtain⟨c',hm,g',fr',w',q1,q2,q3,q4,q5,q6,q7⟩:=hg g fr w hc cs
 cases o with
 |ret v m'=>
  obtain⟨g2,T6,w2,cv,w3,r1,r2,r3,r4,r5,r6,r7,r8⟩:=h c' hm g' fr' w' cs q2
  refine⟨g2,T6,w2,cv,w3,q1.trans r1,by rw[←q7];exact r2,r3.trans q5,r4,r5,q3.trans r6,q4.trans ?_,by rw[←q6];exact r8⟩
  rw[←q6];exact r7
 |zY v m'=>
  obtain⟨g2,T6,w2,cv,r1,r2,r3,r4,r5,r6,r7,r8⟩:=h c' hm g' fr' w' cs q2
  refine⟨g2,T6,w2,cv,q1.trans r1,r2,r3.trans q5,r4,r5,q3.trans r6,q4.trans ?_,by rw[←q6];exact r8⟩
  rw[←q6];exact r7
theorem LS {c:cm} {l:List cm} (h:Am.step P E c = .fork l) : ∀g fr w,dI P E g c fr w→C8 P E g c fr w l:=by
 intro g fr w hc
 have hs:=iz hc
 rw[h] at hs;exact hs
theorem tU {c c':cm} {cK:Nat} {ops:Array Oper} {O:FuncId→List AV→Mem→Option (AV×Mem)} {st':St} (h:Am.step P E c = .draw cK ops c') (hO : ∀g args m v m1,O g args m=some (v,m1)→az P E g args m v m1)
  (hq:kj P E c'.f cK O ops c'.st=some (st',true)) : ∀g fr w,dI P E g c fr w→eZ P E g c fr w {c' with st:={st' with cT:=c'.st.cT,cL:=c'.st.cL}}:=by
 intro g fr w hc
 have hs:=iz hc
 rw[h] at hs
 exact hs O st' hO hq
def gT (P:Program) (E:Env) (l:List dH):Prop:= ∀q∈l,az P E q.g q.args q.m q.v q.m'
theorem sj {K:List dH} (hK:gT P E K) {g:FuncId} {args:List AV} {m:Mem} {r:AV×Mem} (h:mO K g args m=some r):az P E g args m r.1 r.2:=by
 induction K with
 |nil=>cases h
 |cons q K ih=>
  simp only[mO] at h
  cases hb:(ba q.g g&&(lp args q.args&&rz m q.m)) with
  |true=>
   rw[hb] at h
   simp only[cond_true,dk] at h
   subst h
   simp only[di] at hb
   obtain⟨h1,h2,h3⟩:=hb
   have h1:=be h1
   have h2:=fO h2
   have h3:=lX h3
   subst h1;subst h2;subst h3
   exact hK q (.head _)
  |false=>
   rw[hb] at h
   exact ih (fun x hx=>hK x (.tail _ hx)) h
theorem O1 {o p:Out} (h:EK o p=true):o=p:=by
 cases o with
 |ret v m=>cases p with
  |ret u n=>
   simp only[EK,di] at h
   rw[lz h.1,lX h.2]
  |zY u n=>cases h
 |zY v m=>cases p with
  |ret u n=>cases h
  |zY u n=>
   simp only[EK,di] at h
   rw[lz h.1,lX h.2]
theorem Bj : ∀{l:List (Option Out)} {o:Out},agree l=some o → ∀x∈l,x=some o
 |[],_,h,_,_=>by cases h
 |[x],o,h,y,hy=>by
  cases hy with
  |head=>exact h
  |tail _ hy=>cases hy
 |x::y::r,o,h,z,hz=>by
  simp only[agree] at h
  split at h
  · rename_i o1 p1 h1
    cases hb:EK o1 p1 with
    |false=>rw[hb] at h;cases h
    |true=>
     rw[hb] at h
     simp only[cond_true,dk] at h
     subst h
     cases hz with
     |head=>rw[O1 hb]
     |tail _ hz=>exact Bj h1 z hz
  · cases h
theorem cw (hN:gM P) {K:List dH} (hK:gT P E K) : ∀(n:Nat) (c:cm) (o:Out),exec P E K n c=some o→aU P E c o
 |0,_,_,h=>by cases h
 |n+1,c,o,h=>by
  unfold exec at h
  split at h
  · rename_i c' hs;exact aU.bI (tT hs) (cw hN hK n c' o h)
  · rename_i b c' hs
    cases b with
    |false=>cases h
    |true=>exact aU.bI (Bg hs) (cw hN hK n c' o h)
  · rename_i b y z hs
    have:=Bh hs
    cases b with
    |true=>exact aU.bI this (cw hN hK n y o h)
    |false=>exact aU.bI this (cw hN hK n z o h)
  · rename_i g args m ord dst c' hs
    split at h
    · rename_i v m1 hk
      exact aU.bI (mh hs (sj hK hk)) (cw hN hK n _ o h)
    · split at h
      · rename_i ci hi
        split at h
        · rename_i v m1 he
          have hd:=fq hN hi (cw hN hK n ci _ he)
          exact aU.bI (mh hs hd) (cw hN hK n _ o h)
        · rename_i u m1 he
          have hd:=qh hN hi (cw hN hK n ci _ he)
          exact aU.bI (uP hs hd) (cw hN hK n _ o h)
        · cases h
      · cases h
  · rename_i g args m ord pv c' hs
    split at h
    · rename_i ci hi
      split at h
      · rename_i v m1 he
        have hd:=qj hN hi (cw hN hK n ci _ he)
        exact aU.bI (Bi hs hd) (cw hN hK n _ o h)
      · cases h
    · cases h
  · rename_i args m ord dst c' hs
    split at h
    · rename_i ci hi
      split at h
      · rename_i v m1 he
        have hd:=qi hi (cw hN hK n ci _ he)
        exact aU.bI (xI hs hd) (cw hN hK n _ o h)
      · cases h
    · cases h
  · rename_i g args m ord L c' hs
    split at h
    · rename_i ci hi
      split at h
      · rename_i v m1 he
        split at h
        · rename_i m2 pd hend
          have hd:=fq hN hi (cw hN hK n ci _ he)
          exact aU.bI (qM hs hd hend) (cw hN hK n _ o h)
        · cases h
      · cases h
    · cases h
  · rename_i cK ops c' hs
    split at h
    · rename_i st' ok hq
      cases ok with
      |false=>cases h
      |true=>
       refine aU.bI (tU hs (fun g args m v m1 hO=> ?_) hq) (cw hN hK n _ o h)
       split at hO
       · rename_i r hk
         simp only[dk] at hO
         subst hO
         exact sj hK hk
       · split at hO
         · rename_i ci hi
           split at hO
           · rename_i v' LJ he
             simp only[dk,ja] at hO
             obtain⟨rfl,rfl⟩:=hO
             exact fq hN hi (cw hN hK n ci _ he)
           · cases hO
         · cases hO
    · cases h
  · rename_i l hs
    exact aU.Y8 (LS hs) fun c' fk=>cw hN hK n c' o (Bj h _ (fb.2 ⟨c',fk,rfl⟩))
  · rename_i o' hs
    simp only[dk] at h;subst h
    exact Bf hs
  · cases h
theorem Ay (hN:gM P) {K:List dH} (hK:gT P E K) {n:Nat} {f:FuncId} {args:List AV} {m m':Mem} {v:AV} (h:JP P E K n f args m=some (.ret v m')):az P E f args m v m':=by
 unfold JP at h
 split at h
 · rename_i c hi;exact fq hN hi (cw hN hK n c _ h)
 · cases h
theorem mj:gT P E []:=fun _ hq=>by cases hq
theorem iQ {q:dH} {K:List dH} (h:az P E q.g q.args q.m q.v q.m') (hK:gT P E K):gT P E (q::K):=by
 intro x hx
 cases hx with
 |head=>exact h
 |tail _ hx=>exact hK x hx
def O2 (P:Program) (E:Env) (c:cm):Fin→Prop
 |.out o=>aU P E c o
 |.at c'=> ∀o,aU P E c' o→aU P E c o
theorem O2.bI {c c':cm} {r:Fin} (hg : ∀g fr w,dI P E g c fr w→eZ P E g c fr w c') (h:O2 P E c' r):O2 P E c r:=by
 cases r with
 |out o=>exact aU.bI hg h
 | «at» c2=>exact fun o ho=>aU.bI hg (h o ho)
end
end Go.Am
end
section
namespace Go.Am
noncomputable section
abbrev OpT:=Program→(Nat→bq)→Bool→Nat→(Operand→AV)→Oper→lU
def afi (P:Program) (rd:Nat→bq) (wr:Bool) (bF:Nat) (ρ:Operand→AV) (o:Oper):lU:=uz P rd wr bF ρ o
def Yc (x:Operand) (_:Program) (_:Nat→bq) (_:Bool) (_:Nat) (ρ:Operand→AV) (_:Oper):lU:=some (ρ x,[],true)
def afj (t:TypeId) (a:Operand) (P:Program) (rd:Nat→bq) (_:Bool) (_:Nat) (ρ:Operand→AV) (_:Oper):lU:=iq (lK P rd t (ρ a))
def Y9 (t:TypeId) (a v:Operand) (P:Program) (rd:Nat→bq) (_:Bool) (_:Nat) (ρ:Operand→AV) (_:Oper):lU:=rq P rd t (ρ a) (ρ v)
def ako (x:Operand) (P:Program) (_:Nat→bq) (_:Bool) (_:Nat) (ρ:Operand→AV) (o:Oper):lU:=j9 (j8 P ρ o (ρ x))
def Iu (t:TypeId) (x:Operand) (f:Nat) (P:Program) (_:Nat→bq) (_:Bool) (_:Nat) (ρ:Operand→AV) (_:Oper):lU:=j9 (kW P t (ρ x) f)
def Za (t:TypeId) (x:Operand) (f:Nat) (P:Program) (_:Nat→bq) (_:Bool) (_:Nat) (ρ:Operand→AV) (_:Oper):lU:=iq (vC P t (ρ x) f)
def Iv (t:TypeId) (x i:Operand) (P:Program) (_:Nat→bq) (_:Bool) (_:Nat) (ρ:Operand→AV) (_:Oper):lU:=iq (kX P t (ρ x) (ρ i))
def Zb (t:TypeId) (x i:Operand) (P:Program) (_:Nat→bq) (_:Bool) (_:Nat) (ρ:Operand→AV) (_:Oper):lU:=iq (vD P t (ρ x) (ρ i))
def O3 (s d:TypeId) (x:Operand) (P:Program) (rd:Nat→bq) (_:Bool) (bF:Nat) (ρ:Operand→AV) (o:Oper):lU:=convertOp P rd bF ρ o s d (ρ x)
def akp (op:BinOp) (t:TypeId) (x y:Operand) (P:Program) (_:Nat→bq) (_:Bool) (_:Nat) (ρ:Operand→AV) (o:Oper):lU:=match CL y with
    |true=>vF P op t (ρ x)
    |false=>match JG (ρ x) (ρ y) with
     |true=>JH P op t (ρ x) (ρ y)
     |false=>match CK (ρ x) (ρ y) with
      |true=>o7 P op t
      |false=>iq (ru P ρ o op (ρ x) (ρ y))
def oUn (op:UnOp) (x:Operand) (P:Program) (_:Nat→bq) (_:Bool) (_:Nat) (ρ:Operand→AV) (o:Oper):lU:=iq (wg P ρ o op (ρ x))
def Zc (t:TypeId) (x:Operand) (lo hi mx:Option Operand) (P:Program) (_:Nat→bq) (_:Bool) (_:Nat) (ρ:Operand→AV) (_:Oper):lU:=iq (oY P ρ t (ρ x) lo hi mx)
def O4 (x:Operand) (i:Nat) (_:Program) (_:Nat→bq) (_:Bool) (_:Nat) (ρ:Operand→AV) (_:Oper):lU:=match ρ x with
    |.aK vs=>j9 vs[i]?
    |_=>none
def Zd (t:TypeId) (parts:Array (Nat×Operand)) (P:Program) (_:Nat→bq) (_:Bool) (_:Nat) (ρ:Operand→AV) (_:Oper):lU:=iq (vB P t (parts.toList.map fun q=>(q.1,ρ q.2)))
def afk (c a b:Operand) (_:Program) (_:Nat→bq) (_:Bool) (_:Nat) (ρ:Operand→AV) (_:Oper):lU:=match ρ c with
    |.p (.sc (.bool t))=>some (cond t (ρ a) (ρ b),[],true)
    |_=>none
def akq:Op→OpT
 |.binOp op t x y _=>akp op t x y
 |.unOp op _ x=>oUn op x
 |.slice t x lo hi mx=>Zc t x lo hi mx
 |.extract x i=>O4 x i
 |.build t parts=>Zd t parts
 |.pick c a b=>afk c a b
 |.move x=>Yc x
 |.assign x=>Yc x
 |.load t a=>afj t a
 |.store t a v=>Y9 t a v
 |.nilCheck x=>ako x
 |.fieldAddr t x f=>Iu t x f
 |.field t x f=>Za t x f
 |.indexAddr t x i=>Iv t x i
 |.index t x i=>Zb t x i
 |.convert s d x=>O3 s d x
 |_=>afi
def opF (P:Program) (rd:Nat→bq) (wr:Bool) (bF:Nat) (ρ:Operand→AV) (o:Oper):lU:=akq o.op P rd wr bF ρ o
theorem Ze (P:Program) (rd:Nat→bq) (wr:Bool) (bF:Nat) (ρ:Operand→AV) (o:Oper):opF P rd wr bF ρ o=uz P rd wr bF ρ o:=by
 obtain⟨dst,op,type,pos,after,guard⟩:=o
 cases op<;>rfl
def O5 (tm:pZ) (i:Nat):AV:=QP (motive:=fun _=>AV) .bC (fun p _ ih=>ab1 (motive:=fun _=>AV) ih p.2 (ba p.1 i)) tm
theorem Fo : ∀(tm:pZ) (i:Nat),O5 tm i=look tm i
 |[],_=>rfl
 |(k,v)::r,i=>by
  show ab1 (motive:=fun _=>AV) (O5 r i) v (ba k i)=cond (ba k i) v (look r i)
  rw[Fo r i]
  cases ba k i<;>rfl
def afl (t:Nat) (_:Env) (tm:pZ):AV:=O5 tm t
def Zf (x:Operand) (E:Env) (tm:pZ):AV:=ev E tm x
def aks:Operand→Env→pZ→AV
 |.tmp t=>afl t
 |.const v=>fun _ _=>X0 v
 |x=>Zf x
def evF (E:Env) (tm:pZ) (x:Operand):AV:=aks x E tm
theorem O6 (E:Env) (tm:pZ):evF E tm=ev E tm:=by
 funext x
 cases x with
 |tmp t=>exact Fo tm t
 |const v=>rfl
 |global g=>rfl
 |func f=>rfl
def Iw:Op→Bool
 |.call _ | .defer _ | .panic _=>true
 |_=>false
def Dh:Op→Bool
 |.alloc _ | .box .. | .buildSlice .. | .makeSlice .. | .convert .. | .makeMap .. | .range .. =>true
 |.call c=>makes ⟨none,.call c,0,"",#[],none⟩
 |_=>false
def T7 (ops:Array Oper) (i:Nat):Option Oper:=QP (motive:=fun _=>Nat→Option Oper) (fun _=>none) (fun a _ ih i=>aca (motive:=fun _=>Option Oper) (some a) (fun j _=>ih j) i) ops.toList i
theorem T8 (ops:Array Oper) (i:Nat):T7 ops i=ops[i]? :=by
 have : ∀(l:List Oper) (i:Nat),QP (motive:=fun _=>Nat→Option Oper) (fun _=>none) (fun a _ ih i=>aca (motive:=fun _=>Option Oper) (some a) (fun j _=>ih j) i) l i=l[i]? :=by
  intro l
  induction l with
  |nil=>intro i;rfl
  |cons a l ih=>
   intro i
   cases i with
   |zero=>rfl
   |succ i=>exact(ih i).trans (by simp)
 rw[T7,this]
 simp
def J5:lU→Option Tmp→FuncId→List It→pZ→Nat→Mem→Nat→List Mark→X3→Ev
 |none=>fun _ _ _ _ _ _ _ _ _=> .fail
 |some (v,[],ok)=>fun dst f k tm nt mem fix cT cL=>acx (motive:=fun _=>Ev) (.must (ok&&true) ⟨f,k,⟨tm,nt,mem,fix,cT,cL⟩⟩) (fun d=> .must (ok&&bj d nt) ⟨f,k,⟨(d,v)::tm,nt,mem,fix,cT,cL⟩⟩) dst
 |some (v,us,ok)=>fun dst f k tm nt mem fix cT cL=>acx (motive:=fun _=>Ev) (.must (ok&&true) ⟨f,k,⟨tm,nt,apply mem us,fix,cT,cL⟩⟩) (fun d=> .must (ok&&bj d nt) ⟨f,k,⟨(d,v)::tm,nt,apply mem us,fix,cT,cL⟩⟩) dst
abbrev HJ (α:Type):=Program→Env→FuncId→pZ→Nat→Mem→Nat→List Mark→X3→α
def xJ (todo:List It):HJ Ev:=fun P E f tm nt mem fix cT cL=>step P E ⟨f,todo,⟨tm,nt,mem,fix,cT,cL⟩⟩
def T9 (o:Oper) (cK:Nat) (ops:Array Oper) (i:Nat) (_:Bool) (k:List It):HJ Ev:=fun P E f tm nt mem fix cT cL=>
 J5 (opF P (fun i=>mem.getD i .dead) (E.wr f (o.dst.getD 0)) mem.length (evF E tm) o) o.dst f (.ops cK ops (i+1) false::k) tm nt mem fix cT cL
def Zg (_:Oper) (cK:Nat) (ops:Array Oper) (i:Nat) (sure:Bool) (k:List It):HJ Ev:=xJ (.ops cK ops i sure::k)
abbrev DoT:=Oper→Nat→Array Oper→Nat→Bool→List It→HJ Ev
def Yd:Bool→Bool→Option (Nat×Bool)→DoT
 |false,false,none=>T9
 |_,_,_=>Zg
def O7:Option Oper→Nat→Array Oper→Nat→Bool→List It→HJ Ev
 |none=>fun _ _ _ _ k _ _ f tm nt mem fix cT cL=> .next ⟨f,k,⟨tm,nt,mem,fix,cT,cL⟩⟩
 |some o=>Yd (Iw o.op) (Dh o.op) o.guard o
def Zh (i:Nat) (c:Code) (k:List It):HJ Ev:=xJ (.code i c::k)
def Zi (_:Nat) (k:List It):HJ Ev:=fun _ _ f tm nt mem fix cT cL=> .next ⟨f,k,⟨tm,nt,mem,fix,cT,cL⟩⟩
def afn (id:Nat) (ops:Array Oper) (_:Nat) (k:List It):HJ Ev:=fun _ _ f tm nt mem fix cT cL=> .next ⟨f,.ops id ops 0 false::k,⟨tm,nt,mem,fix,cT,cL⟩⟩
def afo (a b:Code) (i:Nat) (k:List It):HJ Ev:=fun _ _ f tm nt mem fix cT cL=> .next ⟨f,.code i a :: .code (i+nodes a) b::k,⟨tm,nt,mem,fix,cT,cL⟩⟩
def Ua (id:Nat) (b:Code) (i:Nat) (k:List It):HJ Ev:=fun _ _ f tm nt mem fix cT cL=> .next ⟨f,.code i b :: .inBlock id::k,⟨tm,nt,mem,fix,cT,cL⟩⟩
def O8:AV→cm→cm→Ev
 |.p (.sc (.bool t))=>fun y z=> .test t y z
 |_=>fun _ _=> .fail
def Zj (x:Operand) (a b:Code) (i:Nat) (k:List It):HJ Ev:=fun _ E f tm nt mem fix cT cL=>
 O8 (evF E tm x) ⟨f,.code (i+1) a::eW (E.keep f (2*i)) k,⟨tm,nt,mem,fix,cT,cL⟩⟩ ⟨f,.code (i+1+nodes a) b::eW (E.keep f (2*i)) k,⟨tm,nt,mem,fix,cT,cL⟩⟩
def Zk (id:Nat) (i:Nat) (k:List It):HJ Ev:=fun P E f tm nt mem fix cT cL=>acx (motive:=fun _=>Ev) (xJ (.code i (.exit id)::k) P E f tm nt mem fix cT cL) (fun k'=> .next ⟨f,k',⟨tm,nt,mem,fix,cT,cL⟩⟩) (cM id k)
def Zl:Code→Nat→List It→HJ Ev
 |.block id b=>Ua id b
 |.cond x a b=>Zj x a b
 |.exit id=>Zk id
 |.skip=>Zi
 |.seq a b=>afo a b
 |.region id ops false=>afn id ops
 |c=>fun i k=>Zh i c k
def O9 (k:List It):HJ Ev:=fun _ _ f tm nt mem fix cT cL=> .next ⟨f,k,⟨tm,nt,mem,fix,cT,cL⟩⟩
def akt:It→List It→HJ Ev
 |.inBlock _=>O9
 |.inScope _=>O9
 |.ops cK ops i sure=>fun k=>O7 (T7 ops i) cK ops i sure k
 |.code i c=>fun k=>Zl c i k
 |x=>fun k=>xJ (x::k)
def Zm:List It→HJ Ev
 |[]=>xJ []
 |x::k=>akt x k
def Pa (P:Program) (E:Env) (c:cm):Ev:=cm.rec (motive:=fun _=>Ev) (fun f todo st=>St.rec (motive:=fun _=>Ev) (fun tm nt mem fix cT cL=>Zm todo P E f tm nt mem fix cT cL) st) c
theorem LU (o:Oper):Dh o.op=makes o:=by
 obtain⟨dst,op,type,pos,after,guard⟩:=o
 cases op<;>rfl
theorem Pb (P:Program) (E:Env) (c:cm):Pa P E c=step P E c:=by
 obtain⟨f,todo,tm,nt,mem,fix,cT,cL⟩:=c
 cases todo with
 |nil=>rfl
 |cons x k=>
  cases x with
  |code i c=>
   cases c with
   |region id ops b=>cases b<;>rfl
   |cond x a b=>
    show O8 (evF E tm x) _ _=_
    rw[O6]
    simp only[step]
    split
    · rename_i t ht;rw[ht];rfl
    · rename_i hne
      generalize ev E tm x=v at hne
      cases v with
      |p v=>cases v with
       |sc v=>cases v with
        |bool t=>exact absurd rfl (hne t)
        |_=>rfl
       |_=>rfl
      |_=>rfl
   |exit id=>
    show acx (motive:=fun _=>Ev) _ _ (cM id k)=_
    cases he:cM id k with
    |none=>rfl
    |some k'=>simp only[step,he]
   |_=>rfl
  |ops cK ops i sure=>
   show O7 (T7 ops i) cK ops i sure k P E f tm nt mem fix cT cL=_
   rw[T8]
   cases ho:ops[i]? with
   |none=>simp only[O7,step,ho]
   |some o=>
    show Yd (Iw o.op) (Dh o.op) o.guard o cK ops i sure k P E f tm nt mem fix cT cL=_
    cases h1:Iw o.op with
    |true=>rfl
    |false=>
     cases h2:Dh o.op with
     |true=>rfl
     |false=>
      cases h3:o.guard with
      |some q=>rfl
      |none=>
       rw[LU] at h2
       have ht:target (ev E tm) o=none:=by
        obtain⟨dst,op,type,pos,after,guard⟩:=o
        cases op<;>first | rfl | cases h1
       have hy:vG (ev E tm) o=none:=by
        obtain⟨dst,op,type,pos,after,guard⟩:=o
        cases op<;>first | rfl | cases h1
       show J5 (opF P (fun i=>mem.getD i .dead) (E.wr f (o.dst.getD 0)) mem.length (evF E tm) o) o.dst f (.ops cK ops (i+1) false::k) tm nt mem fix cT cL=_
       rw[Ze,O6]
       have hr:reserve o mem=mem:=by simp[reserve,h2]
       simp only[step,ho,eG,h3,Oh,ht,hy,hr]
       cases hop:uz P (fun i=>mem.getD i .dead) (E.wr f (o.dst.getD 0)) mem.length (ev E tm) o with
       |none=>
        clear hop hr hy ht h3 h2 ho
        obtain⟨dst,op,type,pos,after,guard⟩:=o
        cases op<;>first | rfl | cases h1
       |some r=>
        obtain⟨v,us,ok⟩:=r
        cases us with
        |nil=>cases hd:o.dst<;>simp[J5,fits,put,apply]
        |cons u us=>cases hd:o.dst<;>simp[J5,fits,put]
  |_=>rfl
abbrev RunT:=Program→Env→List dH→(cm→Option Out)→Option Out
def afp (c:cm):RunT:=fun _ _ _ ih=>ih c
def afq (b:Bool) (c:cm):RunT:=fun _ _ _ ih=>ab1 (motive:=fun _=>Option Out) none (ih c) b
def afr (b:Bool) (y z:cm):RunT:=fun _ _ _ ih=>ab1 (motive:=fun _=>Option Out) (ih z) (ih y) b
def afs (g:FuncId) (args:List AV) (m:Mem) (ord:List Nat) (dst:Option Tmp) (c:cm):RunT:=fun P _ K ih=>match mO K g args m with
     |some (v,m1)=>ih {c with st:=back ord dst c.st v m1}
     |none=>match init P g args m with
      |some ci=>match ih ci with
       |some (.ret v m1)=>ih {c with st:=back ord dst c.st v m1}
       |some (.zY u m1)=>ih (nT ord c u m1)
       |none=>none
      |none=>none
def aft (g:FuncId) (args:List AV) (m:Mem) (ord:List Nat) (pv:Option AV) (c:cm):RunT:=fun P _ _ ih=>match EL P g args m pv with
     |some ci=>match ih ci with
      |some (.ret _ m1)=>ih {c with st:=back ord none c.st (.aK []) m1}
      |_=>none
     |none=>none
def Zn (args:List AV) (m:Mem) (ord:List Nat) (dst:Option Tmp) (c:cm):RunT:=fun _ _ _ ih=>match EJ args m with
     |some ci=>match ih ci with
      |some (.ret v m1)=>ih {c with st:=back ord dst c.st v m1}
      |_=>none
     |none=>none
def Zo (g:FuncId) (args:List AV) (m:Mem) (ord:List Nat) (L:Nat) (c:cm):RunT:=fun P _ _ ih=>match init P g args m with
     |some ci=>match ih ci with
      |some (.ret v m1)=>match gz (back ord none c.st v m1).mem L with
       |some (m2,pd)=>ih (behind c m2 pd)
       |none=>none
      |_=>none
     |none=>none
def afu (cK:Nat) (ops:Array Oper) (c:cm):RunT:=fun P E K ih=>match kj P E c.f cK (fun g args m=>match mO K g args m with
        |some r=>some r
        |none=>match init P g args m with
         |some ci=>match ih ci with
          |some (.ret v m1)=>some (v,m1)
          |_=>none
         |none=>none) ops c.st with
     |some (st,ok)=>cond ok (ih {c with st:={st with cT:=c.st.cT,cL:=c.st.cL}}) none
     |none=>none
def afv (l:List cm):RunT:=fun _ _ _ ih=>agree (l.map ih)
def afw (o:Out):RunT:=fun _ _ _ _=>some o
def afx:RunT:=fun _ _ _ _=>none
def Ye:Ev→RunT
 |.next c=>afp c
 |.must b c=>afq b c
 |.test b y z=>afr b y z
 |.call g args m ord dst c=>afs g args m ord dst c
 |.round args m ord dst c=>Zn args m ord dst c
 |.range g args m ord L c=>Zo g args m ord L c
 |.draw cK ops c=>afu cK ops c
 |.fork l=>afv l
 |.late g args m ord pv c=>aft g args m ord pv c
 |.done o=>afw o
 |.fail=>afx
def Pc (P:Program) (E:Env) (K:List dH) (n:Nat):cm→Option Out:=
 aca (motive:=fun _=>cm→Option Out) (fun _=>none) (fun _ ih c=>Ye (Pa P E c) P E K ih) n
theorem Fp (P:Program) (E:Env) (K:List dH) : ∀n,Pc P E K n=exec P E K n
 |0=>by funext c;rfl
 |n+1=>by
  funext c
  show Ye (Pa P E c) P E K (Pc P E K n)=exec P E K (n+1) c
  rw[Pb,Fp P E K n]
  unfold exec
  cases step P E c with
  |must b c=>cases b<;>rfl
  |test b y z=>cases b<;>rfl
  |_=>rfl
def Di (P:Program) (E:Env) (K:List dH) (n:Nat) (g:FuncId) (args:List AV) (m:Mem):Option Out:=
 match init P g args m with
 |some c=>Pc P E K n c
 |none=>none
theorem LV (P:Program) (E:Env) (K:List dH) (n:Nat) (g:FuncId) (args:List AV) (m:Mem):Di P E K n g args m=JP P E K n g args m:=by
 unfold Di JP
 rw[Fp]
 cases init P g args m<;>rfl
theorem gi {P:Program} {E:Env} (hN:gM P) {K:List dH} (hK:gT P E K) {n:Nat} {f:FuncId} {args:List AV} {m m':Mem} {v:AV} (h:Di P E K n f args m=some (.ret v m')):az P E f args m v m':=
 Ay hN hK (n:=n) (by rw[←LV];exact h)
end
end Go.Am
end
section
namespace Go.Am
open Go.RowKit
inductive aA where
 |out (o:Out)
 |at(c:cm)
 |must (b:Bool) (t:aA)
 |need (p:Prop) (t:aA)
 |test (b:Bool) (y z:aA)
 |call (q:dH) (t:aA)
 |stuck
structure bA where
 call:FuncId→List AV→Mem→Option (AV×Mem)
 z7:FuncId→List AV→Mem→Option (AV×Mem):=fun _ _ _=>none
 cut:FuncId→Nat→Bool
 fork:FuncId→Nat→Nat→Bool
 hard:FuncId→Nat→Nat→Bool
 shape:FuncId→Nat→Nat→Option (AV→AV)
def place (c:cm):Nat×Nat:=match c.todo with
 |.code i _::_=>(0,i)
 |.ops cK _ k _::_=>(cK+1,k)
 |_=>(0,0)
def cutAt (O:bA) (c:cm):Bool:=match c.todo with
 |.inLoop i _::_=>O.cut c.f i
 |.code i (.loop _)::_=>O.cut c.f i
 |_=>false
def Ix (c:cm):Option Tmp:=match c.todo with
 |.ops _ ops k _::_=>match ops[k]? with
  |some o=>o.dst
  |none=>none
 |_=>none
def Yf (c:cm):Bool:=match c.todo with
 |.ops .. :: _=>true
 |_=>false
def reshape (sh:AV→AV) (d:Tmp) (c:cm):cm:={c with st:=put c.st (some d) (sh (look c.st.tm d))}
def shaped (sh:Option (AV→AV)) (d:Option Tmp) (c:cm) (k:cm→aA):aA:=
 match sh,d,Yf c with
 |some sh,some d,true=> .need (look c.st.tm d=sh (look c.st.tm d)) (k (reshape sh d c))
 |_,_,_=>k c
def xK (m:Mem) (i:Nat):List AV:=match m.getD i .dead with
 |.ob _ l=>l
 |_=>[]
def Dj (i:Nat) (l:List AV) (m:Mem):Mem:=match m.getD i .dead with
 |.ob k _=>m.set i (.ob k l)
 |_=>m
def xq (sh:Option (AV→AV)) (c:cm) (k:cm→aA):aA:=match sh with
 |none=>k c
 |some sh=>match sh .bC with
  |.fn (.func i) _ l=> .need (xK c.st.mem i=l) (k {c with st:={c.st with mem:=Dj i l c.st.mem}})
  |_=>k c
def Dk (h b:Bool) (t:aA):aA:=
 match h with
 |true=> .must b t
 |false=>match b with
  |true=>t
  |false=> .stuck
inductive Sc where
 |fork (y z:Sc)
 |yes (s:Sc)
 |no (s:Sc)
 |lit (s:Sc)
 |ans (g:FuncId) (v:AV) (m:Mem) (s:Sc)
 |z7 (f cK:Nat) (L:FuncId→List AV→Mem→Option (AV×Mem)) (s:Sc)
 |fin
def Ub (g:FuncId):Sc→Option (AV×Mem×Sc)
 |.ans h v m s=>cond (ba h g) (some (v,m,s)) none
 |_=>none
def Uc (f cK:Nat):Sc→Option ((FuncId→List AV→Mem→Option (AV×Mem))×Sc)
 |.z7 f' aku L s=>cond (ba f f'&&ba cK aku) (some (L,s)) none
 |_=>none
def oF (E:Env) (O:FuncId→List AV→Mem→Option (AV×Mem)) (o:Oper) (st:St):List dH:=
 match target (ev E st.tm) o with
 |some (g,args)=>match O g (eR (idx (close st.mem 0 args)) args) (pack st.mem (close st.mem 0 args)) with
  |some (v,m1)=>[⟨g,eR (idx (close st.mem 0 args)) args,pack st.mem (close st.mem 0 args),v,m1⟩]
  |none=>[]
 |none=>[]
def qk (P:Program) (E:Env) (f cK:Nat) (O:FuncId→List AV→Mem→Option (AV×Mem)) (ops:Array Oper):List Oper→Nat→St→List dH
 |[],_,_=>[]
 |o::r,nx,st=>
  let skip:=qk P E f cK O ops r nx (put st o.dst (.aK []))
  let rA:=oF E O o st++match jC P E f cK O nx o st with
   |some (d,kg,_)=>qk P E f cK O ops r kg (put {st with mem:=apply st.mem d.us} o.dst d.v)
   |none=>[]
  match eG ops st.tm o with
  |.yes=>rA
  |.no=>skip
  |.ask _ b want=>match b==want with
   |true=>rA
   |false=>skip
  |.lost=>[]
def asked (P:Program) (E:Env) (f cK:Nat) (O:FuncId→List AV→Mem→Option (AV×Mem)) (ops:Array Oper) (st:St):List dH:=
 qk P E f cK O ops (ops.toList.take (gK ops)) st.mem.length {st with mem:=st.mem++cR (60+ops.size)}
def Dl:List dH→aA→aA
 |[],t=>t
 |q::r,t=> .call q (Dl r t)
def grow (P:Program) (E:Env) (O:bA):Nat→Bool→cm→Sc→(Out→Sc→aA)→aA
 |0,_,_,_,_=> .stuck
 |n+1,top,c,s,K=>match cutAt O c with
  |true=>match top,step P E c with
   |true,.next c'=> .at c'
   |_,_=> .stuck
  |false=>match step P E c with
   |.next c'=>grow P E O n top c' s K
   |.must b c'=>
    Dk (O.hard c.f (place c).1 (place c).2) b (shaped (O.shape c.f (place c).1 (place c).2) (Ix c) c' fun c1=>xq (O.shape c.f ((place c).1+1000) (place c).2) c1 fun c2=>grow P E O n top c2 s K)
   |.test b y z=>match O.fork c.f (place c).1 (place c).2 with
    |true=>match s with
     |.fork s s'=> .test b (grow P E O n top y s K) (grow P E O n top z s' K)
     |.yes s=> .must b (grow P E O n top y s K)
     |.no s=> .must (!b) (grow P E O n top z s K)
     |.lit s=>match b with
      |true=>grow P E O n top y s K
      |false=>grow P E O n top z s K
     |s=> .test b (grow P E O n top y s K) (grow P E O n top z s K)
    |false=>match b with
     |true=>grow P E O n top y s K
     |false=>grow P E O n top z s K
   |.call g args m ord dst c'=>match Ub g s with
    |some (v,m1,s)=> .call ⟨g,args,m,v,m1⟩ (shaped (O.shape c.f (place c).1 (place c).2) (Ix c) {c' with st:=back ord dst c'.st v m1} fun c=>grow P E O n top c s K)
    |none=>match O.call g args m with
     |some (v,m1)=> .call ⟨g,args,m,v,m1⟩ (shaped (O.shape c.f (place c).1 (place c).2) (Ix c) {c' with st:=back ord dst c'.st v m1} fun c=>grow P E O n top c s K)
     |none=>match init P g args m with
      |some ci=>grow P E O n false ci s fun o s=>match o with
       |.ret v m1=>grow P E O n top {c' with st:=back ord dst c'.st v m1} s K
       |.zY u m1=>grow P E O n top (nT ord c' u m1) s K
      |none=> .stuck
   |.late g args m ord pv c'=>match EL P g args m pv with
    |some ci=>grow P E O n false ci s fun o s=>match o with
     |.ret _ m1=>grow P E O n top {c' with st:=back ord none c'.st (.aK []) m1} s K
     |.zY .. => .stuck
    |none=> .stuck
   |.round args m ord dst c'=>match EJ args m with
    |some ci=>grow P E O n false ci s fun o s=>match o with
     |.ret v m1=>grow P E O n top {c' with st:=back ord dst c'.st v m1} s K
     |.zY .. => .stuck
    |none=> .stuck
   |.range g args m ord L c'=>match O.call g args m with
    |some (v,m1)=>match gz (back ord none c'.st v m1).mem L with
      |some (m2,pd)=> .call ⟨g,args,m,v,m1⟩ (grow P E O n top (behind c' m2 pd) s K)
      |none=> .stuck
    |none=>match init P g args m with
     |some ci=>grow P E O n false ci s fun o s=>match o with
      |.ret v m1=>match gz (back ord none c'.st v m1).mem L with
       |some (m2,pd)=>grow P E O n top (behind c' m2 pd) s K
       |none=> .stuck
      |.zY .. => .stuck
     |none=> .stuck
   |.draw cK ops c'=>match Uc c'.f cK s with
    |some (L,s)=>match kj P E c'.f cK L ops c'.st with
     |some (st,ok)=>Dl (asked P E c'.f cK L ops c'.st) (Dk (O.hard c.f (place c).1 (place c).2) ok (xq (O.shape c.f ((place c).1+1000) (place c).2) {c' with st:={st with cT:=c'.st.cT,cL:=c'.st.cL}} fun c2=>grow P E O n top c2 s K))
     |none=> .stuck
    |none=>match kj P E c'.f cK O.z7 ops c'.st with
     |some (st,ok)=>Dl (asked P E c'.f cK O.z7 ops c'.st) (Dk (O.hard c.f (place c).1 (place c).2) ok (xq (O.shape c.f ((place c).1+1000) (place c).2) {c' with st:={st with cT:=c'.st.cT,cL:=c'.st.cL}} fun c2=>grow P E O n top c2 s K))
     |none=> .stuck
   |.done o=>K o s
   |_=> .stuck
def aA.ok (P:Program) (E:Env) (o:Out):aA→Prop
 |.out o'=>o'=o
 |.at c=>aU P E c o
 |.must b t=>b=true∧t.ok P E o
 |.need p t=>p∧t.ok P E o
 |.test b y z=>(b=true→y.ok P E o)∧(b=false→z.ok P E o)
 |.call q t=>az P E q.g q.args q.m q.v q.m'∧t.ok P E o
 |.stuck=>False
section
variable {P:Program} {E:Env}
theorem xL {sh:AV→AV} {d:Tmp} {c:cm} {o:Out} (hin:Yf c=true) (h:look c.st.tm d=sh (look c.st.tm d)) (hg:aU P E (reshape sh d c) o):aU P E c o:=by
 intro g fr w cs hc
 have fk:dI P E g (reshape sh d c) fr w:=by
  obtain⟨f,todo,st⟩:=c
  cases todo with
  |nil=>cases hin
  |cons x k=>
   cases x with
   |ops cK ops i sure=>
    obtain⟨b,a,q1,q2,q3,q4,q5,q6⟩:=hc
    exact⟨b,a,q1,q2,q3,q4,q5.known (h▸q5.tm d),q6⟩
   |_=>cases hin
 exact hg g fr w cs fk
theorem tV {h b:Bool} {t:aA} {o:Out} (k:(Dk h b t).ok P E o):b=true∧t.ok P E o:=by
 cases h with
 |true=>exact k
 |false=>cases b with
  |true=>exact⟨rfl,k⟩
  |false=>exact k.elim
def eC (P:Program) (E:Env) (top:Bool) (c:cm) (K:Out→Sc→aA) (o:Out):Prop:=(∃o1 s1,aU P E c o1∧(K o1 s1).ok P E o)∨(top=true∧aU P E c o)
theorem eC.bI {top:Bool} {c c':cm} {K:Out→Sc→aA} {o:Out} (hg : ∀g fr w,dI P E g c fr w→eZ P E g c fr w c') (h:eC P E top c' K o):eC P E top c K o:=by
 rcases h with⟨o1,s1,h1,h2⟩ | ⟨h1,h2⟩
 · exact .inl ⟨o1,s1,aU.bI hg h1,h2⟩
 · exact .inr ⟨h1,aU.bI hg h2⟩
theorem mZ {top:Bool} {sh:Option (AV→AV)} {d:Option Tmp} {c:cm} {k:cm→aA} {K:Out→Sc→aA} {o:Out} (hk : ∀c,(k c).ok P E o→eC P E top c K o) (h:(shaped sh d c k).ok P E o):eC P E top c K o:=by
 unfold shaped at h
 split at h
 · rename_i hin
   rcases hk _ h.2 with⟨o1,s1,h1,h2⟩ | ⟨h1,h2⟩
   · exact .inl ⟨o1,s1,xL hin h.1 h1,h2⟩
   · exact .inr ⟨h1,xL hin h.1 h2⟩
 · exact hk c h
theorem Dm {i:Nat} {l:List AV} {m:Mem} (h:xK m i=l):Dj i l m=m:=by
 subst h
 unfold Dj xK
 split
 · rename_i k l' hk
   refine List.ext_getElem? fun j=> ?_
   by_cases hj:i=j
   · subst hj
     rw[de] at hk
     cases hm:m[i]? with
     |none=>rw[hm] at hk;cases hk
     |some x=>
      rw[hm] at hk
      have hk:x = .ob k l':=hk
      subst hk
      have hlt:i<m.length:=(List.getElem?_eq_some_iff.1 hm).1
      rw[mb hlt]
   · rw[mc hj]
 · rfl
theorem oG {top:Bool} {sh:Option (AV→AV)} {c:cm} {k:cm→aA} {K:Out→Sc→aA} {o:Out} (hk : ∀c,(k c).ok P E o→eC P E top c K o) (h:(xq sh c k).ok P E o):eC P E top c K o:=by
 unfold xq at h
 split at h
 · exact hk c h
 · split at h
   · obtain⟨h1,h2⟩:=h
     rw[Dm h1] at h2
     exact hk c h2
   · exact hk c h
def afy (P:Program) (E:Env) (call:FuncId→List AV→Mem→Option (AV×Mem)):Prop:= ∀g args m v m1,call g args m=some (v,m1)→az P E g args m v m1
theorem pG {t:aA} {o:Out} : ∀{l:List dH},(Dl l t).ok P E o→gT P E l∧t.ok P E o
 |[],h=>⟨fun _ hq=>(by cases hq),h⟩
 |q::l,h=>⟨fun q' hq=>by
   cases hq with
   |head=>exact h.1
   |tail _ hq=>exact(pG (l:=l) h.2).1 q' hq,(pG (l:=l) h.2).2⟩
open Classical in
def only(O:FuncId→List AV→Mem→Option (AV×Mem)) (l:List dH) (g:FuncId) (args:List AV) (m:Mem):Option (AV×Mem):=
 if ∃q∈l,q.g=g∧q.args=args∧q.m=m then O g args m else none
theorem Ud {O:FuncId→List AV→Mem→Option (AV×Mem)} {l:List dH} {g:FuncId} {args:List AV} {m:Mem} (h : ∃q∈l,q.g=g∧q.args=args∧q.m=m):only O l g args m=O g args m:=by
 unfold only;rw[if_pos h]
theorem Dn {f cK:Nat} {O O':FuncId→List AV→Mem→Option (AV×Mem)} {nx:Nat} {o:Oper} {st:St} (h : ∀q∈oF E O o st,O' q.g q.args q.m=O q.g q.args q.m) {r:gW×Nat×Bool} (hr:o9 P E f cK O nx o st=some r):o9 P E f cK O' nx o st=some r:=by
 unfold o9 at hr ⊢
 unfold oF at h
 cases ht:target (ev E st.tm) o with
 |none=>simp only[ht] at hr ⊢;exact hr
 |some ga=>
  obtain⟨g,args⟩:=ga
  simp only[ht] at hr h ⊢
  cases hO:O g (eR (idx (close st.mem 0 args)) args) (pack st.mem (close st.mem 0 args)) with
  |none=>simp only[hO] at hr;cases hr
  |some vm=>
   obtain⟨v,m1⟩:=vm
   simp only[hO] at h hr
   have:=h _ (.head _)
   simp only at this
   rw[this,hO]
   exact hr
theorem Fq {f cK:Nat} {O O':FuncId→List AV→Mem→Option (AV×Mem)} {nx:Nat} {o:Oper} {st:St} (h : ∀q∈oF E O o st,O' q.g q.args q.m=O q.g q.args q.m) {r:gW×Nat×Bool} (hr:jC P E f cK O nx o st=some r):jC P E f cK O' nx o st=some r:=by
 unfold jC at hr ⊢
 cases hl:o9 P E f cK O nx o st with
 |none=>
  rw[hl] at hr
  unfold JO at hr
  split at hr<;>cases hr
 |some x=>
  rw[Dn h hl]
  rw[hl] at hr
  exact hr
theorem qN {f cK:Nat} {O O':FuncId→List AV→Mem→Option (AV×Mem)} {ops:Array Oper} : ∀(l:List Oper) (nx:Nat) (st:St) (r:St×Nat×List gW×Bool),(∀q∈qk P E f cK O ops l nx st,O' q.g q.args q.m=O q.g q.args q.m)→iI P E f cK O ops l nx st=some r→iI P E f cK O' ops l nx st=some r
 |[],_,_,_,_,h=>h
 |o::l,nx,st,r,ha,h=>by
  unfold iI at h ⊢
  unfold qk at ha
  have Yg : ∀r,(∀q∈qk P E f cK O ops l nx (put st o.dst (.aK [])),O' q.g q.args q.m=O q.g q.args q.m) →
    (match iI P E f cK O ops l nx (put st o.dst (.aK [])) with
      |some (st',p9,ds,ok)=>some (st',p9,(⟨.aK [],[],[],fun _ _=>false⟩:gW)::ds,fits st o.dst&&ok)
      |none=>none)=some r →
    (match iI P E f cK O' ops l nx (put st o.dst (.aK [])) with
      |some (st',p9,ds,ok)=>some (st',p9,(⟨.aK [],[],[],fun _ _=>false⟩:gW)::ds,fits st o.dst&&ok)
      |none=>none)=some r:=by
   intro r hq hr
   cases hg:iI P E f cK O ops l nx (put st o.dst (.aK [])) with
   |none=>rw[hg] at hr;cases hr
   |some x=>rw[qN l nx _ x hq hg];rw[hg] at hr;exact hr
  have YZ : ∀r,(∀q∈oF E O o st++(match jC P E f cK O nx o st with
        |some (d,kg,_)=>qk P E f cK O ops l kg (put {st with mem:=apply st.mem d.us} o.dst d.v)
        |none=>[]),O' q.g q.args q.m=O q.g q.args q.m) →
    (match jC P E f cK O nx o st with
      |some (d,kg,ok)=>match iI P E f cK O ops l kg (put {st with mem:=apply st.mem d.us} o.dst d.v) with
       |some (st',p9,ds,ok')=>some (st',p9,d::ds,ok&&(fits st o.dst&&ok'))
       |none=>none
      |none=>none)=some r →
    (match jC P E f cK O' nx o st with
      |some (d,kg,ok)=>match iI P E f cK O' ops l kg (put {st with mem:=apply st.mem d.us} o.dst d.v) with
       |some (st',p9,ds,ok')=>some (st',p9,d::ds,ok&&(fits st o.dst&&ok'))
       |none=>none
      |none=>none)=some r:=by
   intro r hq hr
   cases h1:jC P E f cK O nx o st with
   |none=>rw[h1] at hr;cases hr
   |some x=>
    obtain⟨d,kg,ok⟩:=x
    rw[Fq (fun q hm=>hq q (na.2 (.inl hm))) h1]
    rw[h1] at hr hq
    dsimp only at hr hq ⊢
    cases hg:iI P E f cK O ops l kg (put {st with mem:=apply st.mem d.us} o.dst d.v) with
    |none=>rw[hg] at hr;cases hr
    |some y=>rw[qN l kg _ y (fun q hm=>hq q (na.2 (.inr hm))) hg];rw[hg] at hr;exact hr
  dsimp only at h ha ⊢
  cases hw:eG ops st.tm o with
  |yes=>simp only[hw] at h ha ⊢;exact YZ r ha h
  |no=>simp only[hw] at h ha ⊢;exact Yg r ha h
  |lost=>simp only[hw] at h;cases h
  |ask d b want=>
   simp only[hw] at h ha ⊢
   cases hb:b==want with
   |true=>simp only[hb] at h ha ⊢;exact YZ r ha h
   |false=>simp only[hb] at h ha ⊢;exact Yg r ha h
theorem Bk {f cK:Nat} {O:FuncId→List AV→Mem→Option (AV×Mem)} {ops:Array Oper} {st:St} {r:St×Bool} (h:kj P E f cK O ops st=some r):kj P E f cK (only O (asked P E f cK O ops st)) ops st=some r:=by
 unfold kj at h ⊢
 cases hg:iI P E f cK O ops (ops.toList.take (gK ops)) st.mem.length {st with mem:=st.mem++cR (60+ops.size)} with
 |none=>rw[hg] at h;cases h
 |some x=>
  rw[qN (O':=only O (asked P E f cK O ops st)) _ _ _ x (fun q hq=>Ud ⟨q,hq,rfl,rfl,rfl⟩) hg]
  rw[hg] at h;exact h
theorem LW {O:FuncId→List AV→Mem→Option (AV×Mem)} {o:Oper} {st:St} {q:dH} (h:q∈oF E O o st):O q.g q.args q.m=some (q.v,q.m'):=by
 unfold oF at h
 split at h
 · split at h
   · rename_i hO
     cases h with
     |head=>exact hO
     |tail _ h=>cases h
   · cases h
 · cases h
theorem sk {f cK:Nat} {O:FuncId→List AV→Mem→Option (AV×Mem)} {ops:Array Oper} : ∀(l:List Oper) (nx:Nat) (st:St) (q:dH),q∈qk P E f cK O ops l nx st→O q.g q.args q.m=some (q.v,q.m')
 |[],_,_,_,h=>by cases h
 |o::l,nx,st,q,h=>by
  unfold qk at h
  have YZ:q∈oF E O o st++(match jC P E f cK O nx o st with
        |some (d,kg,_)=>qk P E f cK O ops l kg (put {st with mem:=apply st.mem d.us} o.dst d.v)
        |none=>[])→O q.g q.args q.m=some (q.v,q.m'):=by
   intro h
   rcases na.1 h with h | h
   · exact LW h
   · split at h
     · exact sk l _ _ q h
     · cases h
  dsimp only at h
  split at h
  · exact YZ h
  · exact sk l _ _ q h
  · split at h
    · exact YZ h
    · exact sk l _ _ q h
  · cases h
theorem xM {f cK:Nat} {O:FuncId→List AV→Mem→Option (AV×Mem)} {ops:Array Oper} {st:St} (h:gT P E (asked P E f cK O ops st)):afy P E (only O (asked P E f cK O ops st)):=by
 intro g args m v m1 hO
 unfold only at hO
 split at hO
 · rename_i hq
   obtain⟨q,hm,rfl,rfl,rfl⟩:=hq
   have:=sk _ _ _ q hm
   rw[this] at hO
   obtain⟨rfl,rfl⟩:q.v=v∧q.m'=m1:=by simpa using hO
   exact h q hm
 · cases hO
theorem bL (hN:gM P) {O:bA} {o:Out} : ∀(n:Nat) (top:Bool) (c:cm) (s:Sc) (K:Out→Sc→aA),(grow P E O n top c s K).ok P E o→eC P E top c K o
 |0,_,_,_,_,h=>h.elim
 |n+1,top,c,s,K,h=>by
  unfold grow at h
  split at h
  · split at h
    · rename_i c' hs;exact .inr ⟨rfl,aU.bI (tT hs) h⟩
    · exact h.elim
  · split at h
    · rename_i c' hs;exact eC.bI (tT hs) (bL hN n top c' s K h)
    · rename_i b c' hs
      obtain⟨rfl,hb⟩:=tV h
      exact eC.bI (Bg hs) (mZ (fun c=>oG fun c=>bL hN n top c s K) hb)
    · rename_i b y z hs
      have gt:=Bh hs
      split at h
      · split at h
        · cases b with
          |true=>exact eC.bI gt (bL hN n top y _ K (h.1 rfl))
          |false=>exact eC.bI gt (bL hN n top z _ K (h.2 rfl))
        · obtain⟨rfl,h⟩:=h
          exact eC.bI gt (bL hN n top y _ K h)
        · obtain⟨hb,h⟩:=h
          cases b with
          |true=>cases hb
          |false=>exact eC.bI gt (bL hN n top z _ K h)
        · cases b with
          |true=>exact eC.bI gt (bL hN n top y _ K h)
          |false=>exact eC.bI gt (bL hN n top z _ K h)
        · cases b with
          |true=>exact eC.bI gt (bL hN n top y _ K (h.1 rfl))
          |false=>exact eC.bI gt (bL hN n top z _ K (h.2 rfl))
      · cases b with
        |true=>exact eC.bI gt (bL hN n top y _ K h)
        |false=>exact eC.bI gt (bL hN n top z _ K h)
    · rename_i f args m ord dst c' hs
      split at h
      · rename_i v m1 s' _
        exact eC.bI (mh hs h.1) (mZ (fun c=>bL hN n top c s' K) h.2)
      split at h
      · exact eC.bI (mh hs h.1) (mZ (fun c=>bL hN n top c s K) h.2)
      · split at h
        · rename_i ci hi
          rcases bL hN n false ci s _ h with⟨o1,s1,h1,h2⟩ | ⟨h1,_⟩
          · cases o1 with
            |ret v m1=>exact eC.bI (mh hs (fq hN hi h1)) (bL hN n top _ s1 K h2)
            |zY v m1=>exact eC.bI (uP hs (qh hN hi h1)) (bL hN n top _ s1 K h2)
          · cases h1
        · exact h.elim
    · rename_i g args m ord pv c' hs
      split at h
      · rename_i ci hi
        rcases bL hN n false ci s _ h with⟨o1,s1,h1,h2⟩ | ⟨h1,_⟩
        · cases o1 with
          |ret v m1=>exact eC.bI (Bi hs (qj hN hi h1)) (bL hN n top _ s1 K h2)
          |zY v m1=>exact h2.elim
        · cases h1
      · exact h.elim
    · rename_i args m ord dst c' hs
      split at h
      · rename_i ci hi
        rcases bL hN n false ci s _ h with⟨o1,s1,h1,h2⟩ | ⟨h1,_⟩
        · cases o1 with
          |ret v m1=>exact eC.bI (xI hs (qi hi h1)) (bL hN n top _ s1 K h2)
          |zY v m1=>exact h2.elim
        · cases h1
      · exact h.elim
    · rename_i g args m ord L c' hs
      split at h
      · split at h
        · rename_i m2 pd hend
          exact eC.bI (qM hs h.1 hend) (bL hN n top _ s K h.2)
        · exact h.elim
      split at h
      · rename_i ci hi
        rcases bL hN n false ci s _ h with⟨o1,s1,h1,h2⟩ | ⟨h1,_⟩
        · cases o1 with
          |ret v m1=>
           dsimp only at h2
           split at h2
           · rename_i m2 pd hend
             exact eC.bI (qM hs (fq hN hi h1) hend) (bL hN n top _ s1 K h2)
           · exact h2.elim
          |zY v m1=>exact h2.elim
        · cases h1
      · exact h.elim
    · rename_i cK ops c' hs
      split at h
      · rename_i L s' _
        split at h
        · rename_i st ok hq
          obtain⟨hcs,h⟩:=pG h
          obtain⟨rfl,hb⟩:=tV h
          exact eC.bI (tU hs (xM hcs) (Bk hq)) (oG (fun c=>bL hN n top c s' K) hb)
        · exact h.elim
      split at h
      · rename_i st ok hq
        obtain⟨hcs,h⟩:=pG h
        obtain⟨rfl,hb⟩:=tV h
        exact eC.bI (tU hs (xM hcs) (Bk hq)) (oG (fun c=>bL hN n top c s K) hb)
      · exact h.elim
    · rename_i o' hs
      exact .inl ⟨o',s,Bf hs,h⟩
    · exact h.elim
def atEnd (o:Out) (_:Sc):aA:= .out o
theorem af (hN:gM P) {O:bA} {n:Nat} {c:cm} {s:Sc} {t:aA} {o:Out} (ht:grow P E O n true c s atEnd=t) (h:t.ok P E o):aU P E c o:=by
 subst ht
 rcases bL hN n true c s atEnd h with⟨o1,s1,h1,h2⟩ | ⟨_,h1⟩
 · have:o1=o:=h2
   exact this▸h1
 · exact h1
def aI (P:Program) (E:Env) (O:bA) (n:Nat) (f:FuncId) (args:List AV) (m:Mem) (s:Sc):aA:=
 match init P f args m with
 |some c=>grow P E O n true c s atEnd
 |none=> .stuck
theorem aa (hN:gM P) {O:bA} {n:Nat} {f:FuncId} {args:List AV} {m m':Mem} {s:Sc} {v:AV} {t:aA} (ht:aI P E O n f args m s=t) (h:t.ok P E (.ret v m')):az P E f args m v m':=by
 subst ht
 unfold aI at h
 split at h
 · rename_i c hi;exact fq hN hi (af hN rfl h)
 · exact h.elim
theorem Iy {P:Program} (h:(P.funcs.toList.all fun fn=> !(fn.name == "runtime.NumGoroutine"))=true):gM P:=by
 intro f fn hf
 rw[List.all_eq_true] at h
 have:=h fn (by rw[←Array.getElem?_toList] at hf;exact mv hf)
 simpa using this
def iA (E:Env) (f t:Nat):Code→Nat→List It→Option (Code×List It)
 |.loop b,i,k=>match ba i t with
  |true=>some (b,k)
  |false=>iA E f t b (i+1) (.inLoop i b::eW (E.keep f (2*i+1)) k)
 |.seq a b,i,k=>match iA E f t a i (.code (i+nodes a) b::k) with
  |some r=>some r
  |none=>iA E f t b (i+nodes a) k
 |.cond _ a b,i,k=>match iA E f t a (i+1) (eW (E.keep f (2*i)) k) with
  |some r=>some r
  |none=>iA E f t b (i+1+nodes a) (eW (E.keep f (2*i)) k)
 |.block id b,i,k=>iA E f t b i (.inBlock id::k)
 |.scope b,i,k=>iA E f t b i (.inScope b::k)
 |_,_,_=>none
def ah (P:Program) (E:Env) (f t:Nat) (vs:List AV) (m:Mem) (fix nt:Nat):cm:=
 match P.funcs[f]? with
 |some fn=>match fn.body with
  |some c=>match iA E f t c 0 [] with
   |some (b,k)=>⟨f,.code (t+1) b :: .inLoop t b::eW (E.keep f (2*t+1)) k,⟨((E.keep f (2*t)).getD []).zip vs,nt,m,fix,[],.call⟩⟩
   |none=>⟨f,[],⟨[],0,[],0,[],.call⟩⟩
  |none=>⟨f,[],⟨[],0,[],0,[],.call⟩⟩
 |none=>⟨f,[],⟨[],0,[],0,[],.call⟩⟩
def Iz (l:List (Nat×Nat×Nat)) (f a b:Nat):Bool:=match l with
 |[]=>false
 |(f',a',b')::r=>cond (ba f f') (cond (ba a a') (cond (ba b b') true (Iz r f a b)) (Iz r f a b)) (Iz r f a b)
def J6 (l:List (Nat×Nat)) (f a:Nat):Bool:=match l with
 |[]=>false
 |(f',a')::r=>cond (ba f f') (cond (ba a a') true (J6 r f a)) (J6 r f a)
def IA (rows:List (Nat×Nat×List Nat)) (f j:Nat):Option (List Nat):=match rows with
 |[]=>none
 |(f',j',l)::r=>cond (ba f f'&&ba j j') (some l) (IA r f j)
def aC (_:FuncId) (_:List AV) (_:Mem):Option (AV×Mem):=none
def aM (call z7:FuncId→List AV→Mem→Option (AV×Mem)) (Zp:List (Nat×Nat)) (Pd Pe:List (Nat×Nat×Nat)):bA where
 call:=call
 z7:=z7
 cut:=J6 Zp
 fork:=Iz Pd
 hard:=Iz Pe
 shape _ _ _:=none
def bJ (l:List (Nat×Nat×Nat×AV)) (f a b:Nat):Option (AV→AV):=match l with
 |[]=>none
 |(f',a',b',v)::r=>cond (ba f f'&&(ba a a'&&ba b b')) (some fun _=>v) (bJ r f a b)
def dY (call z7:FuncId→List AV→Mem→Option (AV×Mem)) (Zp:List (Nat×Nat)) (Pd Pe:List (Nat×Nat×Nat)) (shape:FuncId→Nat→Nat→Option (AV→AV)):bA where
 call:=call
 z7:=z7
 cut:=J6 Zp
 fork:=Iz Pd
 hard:=Iz Pe
 shape:=shape
def gY (t:Nat):Code→Nat→Option (Array Tmp×Code×Code)
 |.rangeFunc _ ps as bd,i=>cond (ba i t) (some (ps,as,bd)) none
 |.seq a b,i=>match gY t a i with
  |some r=>some r
  |none=>gY t b (i+nodes a)
 |.cond _ a b,i=>match gY t a (i+1) with
  |some r=>some r
  |none=>gY t b (i+1+nodes a)
 |.block _ b,i=>gY t b i
 |.scope b,i=>gY t b i
 |.loop b,i=>gY t b (i+1)
 |_,_=>none
def Yh (P:Program) (f t:Nat) (st:LoopState) (pd:Option Code):dS:=
 match P.funcs[f]? with
 |some fn=>match fn.body with
  |some c=>match gY t c 0 with
   |some (ps,as,bd)=> .loop f ps as bd st pd
   |none=> .opq
  |none=> .opq
 |none=> .opq
end
end Go.Am
end
