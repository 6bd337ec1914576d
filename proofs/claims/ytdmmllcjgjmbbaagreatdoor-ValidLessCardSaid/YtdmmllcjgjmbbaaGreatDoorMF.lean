import Derived.Test.YtdmmllcjgjmbbaaGreatDoorME
import Derived.RangeFuncLeaves
import Derived.RangeFuncIn
import Derived.RangeFuncRecord
open Option.some renaming injEq→c9,inj→da
open Prod.mk renaming injEq→iu
open List renaming getD_eq_getElem?_getD→ch,range_eq_range'→abD,cons_append→abE,getElem?_eq_getElem→cb,mem_append→na,nil_append→QP,range'→xi,getElem?_set_self→ma,getElem?_eq_none→dt,getElem?_set_ne→mc,mem_of_getElem?→mb,zip_cons_cons→abF,getElem?_map→dT,mapM_cons→abG,mem_map→eh,rec→abH
open Go.Sem renaming run_bind→iv,run_pure→ja,runT_eq→abI
open Go.Result renaming andThen_ok→jb
open Bool renaming and_eq_true→c8,false_eq_true→pb,rec→abJ
open Nat renaming beq→ae,eq_zero_or_pos→py,le_refl→bx,eq_of_beq_eq_true→ai,lt_or_ge→fg,le_of_ble_eq_true→en,beq_refl→vt,zero_le→abb,sub_zero→abK,blt→ar,rec→abL
open Array renaming getD_eq_getD_getElem?→xr,getElem?_eq_getElem→fv,length_toList→fw,getElem?_eq_none→Ha,toList_append→Hb
open Go.Steps renaming refl→abC
open Go.Frame renaming enter→xv,atR→zr,round→abM
open Option renaming getD_some→ic,rec→abN
noncomputable section
section
namespace Go.Am
open Go.RowKit
section
variable {P:Program} {E:Env} {g:Gh} {w:World}
def Jr (a:Act):ResultVar→Sem Value
 |.tmp t=>pure (a.tmps.getD t undef)
 |.cell x t=>do loadVar t (←asAddr (a.tmps.getD x undef))
theorem jk {st:St} {a:Act} (h:cu E g st a w) : ∀{rs:List ResultVar} {vs:List AV},iG P st rs=some (vs,true) →
  ∃rG:List Value,(rs.mapM (Jr a)).run P w = .ok rG w∧cL g w vs rG
 |[],vs,he=>by
  simp only[iG,c9,iu,and_true] at he;subst he
  exact⟨[],rfl,trivial⟩
 |.tmp t::rs,vs,he=>by
  simp only[iG,Option.map_eq_some_iff,iu] at he
  obtain⟨⟨us,ok⟩,h1,rfl,rfl⟩:=he
  obtain⟨rG,k1,k2⟩:=jk h h1
  refine⟨_::rG,?_,h.tm t,k2⟩
  simp only[abG,iv,Jr,ja,jb,k1]
 |.cell x t::rs,vs,he=>by
  simp only[iG] at he
  split at he
  · rename_i v ok us oks h1 h2
    simp only[c9,iu,c8] at he
    obtain⟨rfl,rfl,rfl⟩:=he
    obtain⟨c,o,cv,k1,k2,k3⟩:=qU h.rel (h.tm x) h1
    obtain⟨rG,k4,k5⟩:=jk h h2
    refine⟨cv::rG,?_,k3,k5⟩
    have ha:(asAddr (.pointer (some ⟨c,o,none⟩))).run P w = .ok ⟨c,o,none⟩ w:=rfl
    have hone:(Jr a (.cell x t)).run P w = .ok cv w:=by simp only[Jr,k1,iv,ha,jb,k2]
    simp only[abG,iv,hone,ja,jb,k4]
  · cases he
theorem Ax {vs:List AV} {rG:List Value} (h:cL g w vs rG) : ∃cv,(if h:rG.toArray.size=1 then rG.toArray[0] else .tuple rG.toArray)=cv∧VA g w (one vs) cv:=by
 refine⟨_,rfl,?_⟩
 match vs,rG,h with
 |[v],[cv],h=>exact h.1
 |[],[],_=>exact VA.lF.2 trivial
 |v::v'::vs,cv::cv'::rG,h=>
  rw[dif_neg (by simp)]
  exact VA.lF.2 h
theorem DN {fn:Func} {a:Act} {rG:List Value} {cv:Value} (h:(fn.results.toList.mapM (Jr a)).run P w = .ok rG w)
  (hc:(if h:rG.toArray.size=1 then rG.toArray[0] else .tuple rG.toArray)=cv):(results fn a.tmps).run P w = .ok cv w:=by
 have e:results fn a.tmps=(do let vs ←fn.results.mapM (Jr a);pure (if h:vs.size=1 then vs[0] else .tuple vs)):=rfl
 rw[e,Array.mapM_eq_mapM_toList]
 simp only[iv,Sem.run_map,h,jb,ja,hc]
theorem Rel.Ay {m:Mem} (h:Rel g m w) : ∀(F:List Nat),(∀b∈F,∃l,m[b]? = some (.pc l)) →
  ∃g' m',Rel g' m' w∧Ext g w g' w∧dm g m w g' m' w∧g'.bP=g.bP∧g'.lo=g.lo∧g'.hi=g.hi∧m'.length=m.length∧(∀i,i∉F→m'[i]? = m[i]?) ∧
   ∀b∈F,∀l c,m[b]? = some (.pc l)→g.bP b=some c → ∀o,o<l.length→g'.pure c o
 |[],_=>⟨g,m,h,Ext.refl _ _,dm.refl _ _ _,rfl,rfl,rfl,rfl,fun _ _=>rfl,fun _ hb=>by cases hb⟩
 |b::F,hF=>by
  obtain⟨g',m',k1,k2,k3,k4,k5,k6,k7,k8,k9⟩:=Rel.Ay h F fun b hb=>hF b (.tail _ hb)
  by_cases hb:b∈F
  · refine⟨g',m',k1,k2,k3,k4,k5,k6,k7,fun i hi=>k8 i fun q=>hi (.tail _ q),fun b' hb'=> ?_⟩
    cases hb' with
    |head=>exact k9 b hb
    |tail _ hb'=>exact k9 b' hb'
  · obtain⟨l,hl⟩:=hF b (.head _)
    have hl':m'[b]? = some (.pc l):=(k8 b hb).trans hl
    obtain⟨c,cs,e,n,q1,_⟩:=h.cells b _ _ hl rfl
    obtain⟨r1,r2,r3⟩:=k1.Hs hl' (by rw[k4];exact q1)
    refine⟨_,_,r1,k2.trans r2,k3.trans r3,k4,k5,k6,by simp[k7],fun i hi=> ?_,fun b' hb' l' c' Ux fO o ho=> ?_⟩
    · have hne:b≠i:=fun e=>hi (e ▸ .head _)
      rw[mc hne]
      exact k8 i fun q=>hi (.tail _ q)
    · cases hb' with
      |head=>
       rw[hl] at Ux;cases Ux
       rw[q1] at fO;cases fO
       exact .inr ⟨rfl,abb _,ho⟩
      |tail _ hb'=>exact .inl (k9 b' hb' l' c' Ux fO o ho)
theorem Js {m:Mem} {kept:List Nat} {v:AV} : ∀b∈(freeze m kept v).2.2,∃l,m[b]? = some (.pc l):=by
 intro b hb
 unfold freeze at hb
 split at hb
 · rename_i b' off len sz cap
   cases hk:(has kept b'||ae len 0) with
   |true=>simp[hk] at hb
   |false=>
    simp only[hk,cond_false] at hb
    split at hb
    · rename_i l hl
      simp only[List.mem_singleton] at hb
      subst hb
      exact⟨l,getD_some hl (by simp)⟩
    · simp at hb
 · simp at hb
theorem xz {m:Mem} {kept:List Nat} : ∀{vs:List AV},∀b∈(gC m kept vs).2.2,∃l,m[b]? = some (.pc l)
 |[],b,hb=>by simp[gC] at hb
 |v::vs,b,hb=>by
  simp only[gC,na] at hb
  rcases hb with hb | hb
  · exact Js b hb
  · exact xz b hb
theorem Cf {m:Mem} (h:Rel g m w) {g':Gh} (he:Ext g w g' w) {kept:List Nat} {v:AV} {cv:Value} (hv:VA g w v cv) (hok:(freeze m kept v).2.1=true)
  (hp : ∀b∈(freeze m kept v).2.2,∀l c,m[b]? = some (.pc l)→g.bP b=some c → ∀o,o<l.length→g'.pure c o):VA g' w (freeze m kept v).1 cv:=by
 unfold freeze at hok hp ⊢
 split at hok
 · rename_i b off len sz cap
   cases hk:(has kept b||ae len 0) with
   |true=>simp only[cond_true];exact hv.mono he
   |false=>
    simp only[hk,cond_false] at hok hp ⊢
    split at hok
    · rename_i l hl
      simp only[hl] at hp ⊢
      have hl:=getD_some hl (by simp)
      obtain⟨hok,hz⟩:=(c8 _ _).mp hok
      have hle:=en hok
      have hz:=en hz
      cases hv with
      |ms _ _ _ _ cap c hc hcap=>
      obtain⟨c',cs,e,n,k1,k2,k3,k4,k5⟩:=h.cells b _ _ hl rfl
      rw[hc] at k1;cases k1
      have hlen:=k4.1.len
      simp only[List.length_map,fw] at hlen
      have hpure:=hp b (by simp) l c hl hc
      have hVP:Ho g w l cs.toList:=bu.dA (by simpa using k4.1.len) fun i a b=>by
       have:=k4.1.get i (by simpa using a) b
       rw[List.getElem_map,VA.pv] at this
       exact this
      refine .p _ _ (VP.mk (us:=(cs.toList.drop off).take (len*sz)) (bu.mono (fun _ _ q=>VP.mono he.pure q) ((hVP.drop off).take (len*sz))) (by simp;omega) hcap hz fun k v hk=> ?_)
      rw[List.getElem?_take] at hk
      split at hk
      · rename_i hlt
        rw[List.getElem?_drop] at hk
        have hk':=bq hk
        refine⟨by rw[aX k2];simpa using hk,hpure (off+k) (by omega),k4.2 v (mb hk)⟩
      · cases hk
    · exact hv.mono he
 · exact hv.mono he
theorem pN {m:Mem} (h:Rel g m w) {g':Gh} (he:Ext g w g' w) {kept:List Nat} : ∀{vs:List AV} {rG:List Value},cL g w vs rG→(gC m kept vs).2.1=true →
  (∀b∈(gC m kept vs).2.2,∀l c,m[b]? = some (.pc l)→g.bP b=some c → ∀o,o<l.length→g'.pure c o)→cL g' w (gC m kept vs).1 rG
 |[],[],_,_,_=>trivial
 |v::vs,cv::rG,hv,hok,hp=>by
  simp only[gC,c8,na] at hok hp ⊢
  exact⟨Cf h he hv.1 hok.1 fun b hb=>hp b (.inl hb),pN h he hv.2 hok.2 fun b hb=>hp b (.inr hb)⟩
 |[],_::_,h,_,_=>h.elim
 |_::_,[],h,_,_=>h.elim
theorem xA : ∀{l ord:List Nat},BI l ord=true → ∀i∈l,i∉ord
 |[],_,_,_,h=>by cases h
 |j::l,ord,h,i,hi=>by
  simp only[BI,c8,Bool.not_eq_true'] at h
  cases hi with
  |head=>exact fun q=>by rw[Hx.2 q] at h;cases h.1
  |tail _ hi=>exact xA h.2 i hi
theorem xB {c:cw} {b:Frame} {a:Act} {todo:List Item} (hs:cu E g c.st a w) (hrb:eJ g c.st.bX b) (xg : ∀i,c.st.bX ≠ .round i) (xe:b.fn=c.f) (hd:a.defers=[]) {fr:Frame}
  (hst : ∀cs,Steps P (lone fr cs w) (lone {b.atR a todo with mode:= .returning} cs w)):B9 P E g c fr w (mq P c):=by
 unfold mq
 split
 · rename_i fn hfn
   split
   · rename_i vs ok hres
     intro hok cs
     simp only[c8] at hok
     obtain⟨⟨rfl,hfz⟩,hni⟩:=hok
     obtain⟨rG,k1,k2⟩:=jk hs hres
     obtain⟨g',m',r1,r2,r3,r4,r5,r6,r7,r8,r9⟩:=hs.rel.Ay _ (xz (m:=c.st.mem) (kept:=close c.st.mem c.st.fix []) (vs:=vs))
     have k3:=pN hs.rel r2 k2 hfz r9
     obtain⟨cv,hcv,_⟩:=Ax k2
     obtain⟨cv',acz,k4⟩:=Ax k3
     have:cv'=cv:=acz.symm.trans hcv
     subst this
     have hrun:=DN (P:=P) k1 hcv
     generalize agd:gC c.st.mem (close c.st.mem c.st.fix []) vs=fz at *
     obtain⟨hnd,oc⟩:=fc c.st.mem c.st.fix [one fz.1]
     generalize LI:close c.st.mem c.st.fix [one fz.1]=ord at *
     have hpk:Am.pack c.st.mem ord=Am.pack m' ord:=by
      unfold Am.pack
      refine List.map_congr_left fun i hi=> ?_
      rw[ch,ch,r8 i fun q=>xA hni i q hi]
     obtain⟨p1,p2⟩:=r1.pack hnd
     have hlen:c.st.fix≤ord.length:=by
      rcases py c.st.fix with e | e
      · omega
      · have:=bq (oc (c.st.fix-1) (by omega));omega
     refine⟨g'.pack ord,_,w,hst cs,?_,?_,?_,rfl,rfl,rfl⟩
     · refine⟨xe,cv',w,?_,?_,?_,dm.refl _ _ _,?_⟩
       · show Ly P c.st.bX {b.atR a todo with mode:= .returning} w cv' w
         have YV:P.funcs[b.fn]? = some fn:=by rw[xe];exact hfn
         generalize c.st.bX=r at hrb xg
         cases r with
         |call=>exact⟨⟨rfl,hd,hrb.1,fn,YV,hrun⟩,rfl⟩
         |late=>exact⟨⟨⟨rfl,hd,fn,YV,hrun⟩,hrb.1⟩,rfl⟩
         |round i=>exact absurd rfl (xg i)
       · simp only[look,vt,cond_true]
         exact k4.jx (dy.pack g' ord)
       · show Rel (g'.pack ord) (Am.pack c.st.mem ord) w
         rw[hpk];exact p1
       · show c.st.fix≤(Am.pack c.st.mem ord).length
         simpa[Am.pack] using hlen
     · refine r3.trans ⟨bx _,fun _ _ _=>rfl,fun _ _ p=>⟨p,rfl⟩,fun _ _ p=> .inl p,fun c' ho=> .inl (p2 c' ?_),rfl,rfl,rfl⟩
       have ho:gp (g'.pack ord) (Am.pack c.st.mem ord) c':=ho
       rw[hpk] at ho;exact ho
     · intro k c' hk fO
       have:=oc k hk
       simp[Gh.pack,this,r4,r5,r6,fO]
   · trivial
 · trivial
theorem rH {r:Nat} {w:World} (h:w.heap[r]? = some (.deferred (some []))):(Instr.takeDeferred r).run P w = .ok [] {w with heap:=w.heap.setIfInBounds r (.deferred none)}:=by
 simp[Instr.takeDeferred,iv,getObj,setObj,Sem.run,h,Result.andThen]
theorem HD {b:Frame} {a:Act} {todo:List Item} : ∀{mk:List Mark} {ds:List Deferred} {st:St} {m:Mem} {w:World},mw mk st.mem=some m→Mk g mk ds→cu E g st a w →
  ∃w',(∀cs,Steps P (lone {b.atR {a with defers:=ds} todo with mode:= .returning} cs w) (lone {b.atR {a with defers:=[]} todo with mode:= .returning} cs w')) ∧
   cu E g {st with mem:=m,cA:=[]} {a with defers:=[]} w'∧dm g st.mem w g m w'
 |[],[],st,m,w,h,_,hs=>by
  simp only[mw,c9] at h
  subst h
  exact⟨w,fun cs=>abC _ _,⟨hs.tm,hs.nt,hs.rel,hs.fix,hs.dg⟩,dm.refl _ _ _⟩
 |.late .. :: mk,_,st,m,w,h,hm,hs=>by
  simp only[mw] at h
  cases h
 |.range i::mk,d::ds,st,m,w,h,hm,hs=>by
  simp only[mw] at h
  split at h
  · rename_i hb
    obtain⟨⟨D,hD,rfl⟩,hm⟩:=hm
    have hib:=getD_some hb (by simp)
    obtain⟨c,ob,vs,k1,k2,k3,k4,_⟩:=hs.rel.obs i _ _ hib
    rw[hD] at k1;cases k1
    obtain⟨rfl,_⟩:=k4
    obtain⟨e1,e2,e3⟩:=cS w (o':= .deferred none) k2
    obtain⟨r1,r2,r3⟩:=hs.rel.fP (Df:= .shut) (l':=[]) (vs':=[]) hib hD e1 e2 rfl rfl rfl e3 ⟨rfl,rfl⟩ trivial
    have hs':cu E g {st with mem:=st.mem.set i (.ob .shut [])} a {w with heap:=w.heap.setIfInBounds D (.deferred none)}:=
     ⟨fun k=>(hs.tm k).mono r2,hs.nt,r1,by simpa using hs.fix,hs.dg.mono r2.pure⟩
    obtain⟨w',q1,q2,q3⟩:=HD (st:={st with mem:=st.mem.set i (.ob .shut [])}) h hm hs'
    refine⟨w',fun cs=> .head ?_ (q1 cs),q2,r3.trans q3⟩
    exact step_collected (fr:={b.atR {a with defers:={target:= .collected D,args:= #[]}::ds} todo with mode:= .returning}) (fun e=>by cases e) rfl rfl (rH k2)
  · cases h
 |[],_::_,_,_,_,_,hm,_=>hm.elim
 |.range _::_,[],_,_,_,_,hm,_=>hm.elim
theorem LN {f:FuncId} {fa ca:Array Value} {fn:Func} (hf:P.funcs[f]? = some fn) (hb:fn.body.isSome=true) (hn:(fn.name == "runtime.NumGoroutine")=false) :
  (invoke (.fn (.func f) ca) fa).run P w = .ok (.enter f (fa++ca)) w:=by
 have Tz:fn.body.isNone=false:=by cases hq:fn.body<;>simp_all
 simp only[invoke,callFunc,iv,run_program,jb,hf,hn,pb,if_false,Tz,ja]
theorem tC : ∀{l:List (Nat×Nat)} {cs:List Value},Mps g l cs→cL g w (mps l) cs
 |[],[],_=>trivial
 |(b,off)::l,_::cs,h=>by
  obtain⟨⟨c,h1,h2⟩,h3⟩:=h
  exact⟨by rw[h2];exact .mp b off c h1,tC h3⟩
 |[],_::_,h=>h.elim
 |_::_,[],h=>h.elim
theorem DO (cv:Option Value):settle (cT cv true) = .returning:=by cases cv<;>rfl
theorem HE {c:cw} {b:Frame} {a:Act} {todo:List Item} {gf:FuncId} {first caps:List (Nat×Nat)} {pv:Option AV} {rA:Option Value} {d:Deferred}
  (hs:cu E g c.st a w) (hrb:eJ g c.st.bX b) (xg : ∀i,c.st.bX ≠ .round i) (xe:b.fn=c.f) (hd:a.defers=[d]) (hm:Mark.Ok g (.late gf first caps) d) (Ft:LA g w pv rA) {fr:Frame}
  (hst : ∀cs,Steps P (lone fr cs w) (lone {b.atR a todo with mode:=cT rA false} cs w)):B9 P E g c fr w (BJ c pv gf first caps):=by
 unfold BJ
 obtain⟨fa,ca,h1,h2,rfl⟩:=hm
 have hargs:cL g w (mps first++mps caps) (fa++ca).toList:=by
  rw[Hb]
  exact(tC h1).append (tC h2)
 dsimp only
 generalize mps first++mps caps=args at *
 obtain⟨hnd,_⟩:=fc c.st.mem 0 (pv.toList++args)
 generalize close c.st.mem 0 (pv.toList++args)=ord at *
 cases hlt:iT ord c.st.mem.length with
 |false=>trivial
 |true=>
  intro m1 fD cs
  obtain⟨⟨fn,Qm,Qn,Qo⟩,fD⟩:=fD
  obtain⟨Lv,Lw⟩:=hs.rel.pack hnd
  have mF:=dy.pack g ord
  have acA:LA (g.pack ord) w (pv.map (jx (idx ord))) rA:=by
   cases pv with
   |none=>cases rA with
    |none=>exact trivial
    |some v=>exact Ft.elim
   |some u=>cases rA with
    |none=>exact Ft.elim
    |some v=>exact VA.jx mF Ft
  obtain⟨w',g',cv,fr',q1,q2,q3,q5,q6,q7,q8⟩:=fD (g.pack ord) w (fa++ca) rA {b.atR {a with defers:=[]} todo with mode:=cT rA false} cs rfl acA Lv (cL.jx mF hargs) (hs.dg.mono fun _ _ p=>⟨p,rfl⟩)
  have hlen:(Am.pack c.st.mem ord).length=ord.length:=by simp[Am.pack]
  rw[hlen] at q7 q8
  obtain⟨r1,r2,r3,r4⟩:=hs.rel.back hnd (fQ hlt) q5 q6 q7 q8
  have FL:=step_defer (P:=P) (fr:={b.atR a todo with mode:=cT rA false}) (cs:=cs) (w:=w) (ds:=[]) (by cases rA<;>exact fun e=>by cases e) hd rfl (LN Qm Qn Qo)
  have hleave:=step_going_returned (P:=P) (c:={b.atR {a with defers:=[]} todo with mode:=cT rA true}) (cs:=cs) q3 q2
  have nX:c.st.fix≤(dh (bg ord c.st.mem.length) ord m1 c.st.mem).length:=by
   rw[dX _ _ _ _ q8];have:=hs.fix;omega
  refine⟨_,{b.atR {a with defers:=[]} todo with mode:= .returning},w',(hst cs).trans (.head FL (q1.trans (.one ?_))),⟨b,{a with defers:=[]},todo,rfl,xe,hrb.ext fun i c q=>(r2.bP i c q).1,xg,rfl,rfl,⟨fun k=>(hs.tm k).mono r2,hs.nt,r1,nX,hs.dg.mono r2.pure⟩⟩,r3,bJ.rz r2 _,rfl,rfl,rfl⟩
  rw[hleave]
  simp only[DO]
theorem Jt {c:cw} {b:Frame} {a:Act} {todo:List Item} {u:AV} {cv:Value} (hs:cu E g c.st a w) (hrb:eJ g c.st.bX b) (xe:b.fn=c.f) (hd:Mk g c.st.cA a.defers) (hu:VA g w u cv) :
  B9 P E g c {b.atR a todo with mode:=cT (some cv) false} w (wh P c u):=by
 unfold wh
 split
 · trivial
 · rename_i xg
   have xg : ∀i,c.st.bX ≠ .round i:=fun i e=>xg i e
   split
   · rename_i hmk
     split
     · rename_i fn hfn
       intro cs
       have hds:a.defers=[]:=by
        rw[hmk] at hd
        cases hq:a.defers with
        |nil=>rfl
        |cons _ _=>rw[hq] at hd;exact hd.elim
       obtain⟨hnd,oc⟩:=fc c.st.mem c.st.fix [u]
       generalize close c.st.mem c.st.fix [u]=ord at *
       obtain⟨p1,p2⟩:=hs.rel.pack hnd
       have hlen:c.st.fix≤ord.length:=by
        rcases py c.st.fix with e | e
        · omega
        · have:=bq (oc (c.st.fix-1) (by omega));omega
       refine⟨g.pack ord,_,w,abC _ _,⟨xe,cv,⟨rfl,hds,fn,?_⟩,hu.jx (dy.pack g ord),p1,?_⟩,?_,?_,rfl,rfl,rfl⟩
       · show P.funcs[b.fn]? = some fn
         rw[xe];exact hfn
       · show c.st.fix≤(Am.pack c.st.mem ord).length
         simpa[Am.pack] using hlen
       · exact⟨bx _,fun _ _ _=>rfl,fun _ _ p=>⟨p,rfl⟩,fun _ _ p=> .inl p,fun c' ho=> .inl (p2 c' ho),rfl,rfl,rfl⟩
       · intro k c' hk fO
         have:=oc k hk
         simp[Gh.pack,this,fO]
     · trivial
   · rename_i gf first caps hmk
     rw[hmk] at hd
     cases hq:a.defers with
     |nil=>rw[hq] at hd;exact hd.elim
     |cons d ds=>
      rw[hq] at hd
      obtain⟨hd1,hd2⟩:=hd
      cases ds with
      |nil=>exact HE (pv:=some u) (rA:=some cv) hs hrb xg xe hq hd1 hu fun cs=>abC _ _
      |cons _ _=>exact hd2.elim
   · trivial
theorem Az {c:cw} {b:Frame} {a:Act} {todo:List Item} (hs:cu E g c.st a w) (hrb:eJ g c.st.bX b) (xg : ∀i,c.st.bX ≠ .round i) (xe:b.fn=c.f) (hd:Mk g c.st.cA a.defers) {fr:Frame}
  (hst : ∀cs,Steps P (lone fr cs w) (lone {b.atR a todo with mode:= .returning} cs w)):B9 P E g c fr w (ending P c):=by
 have key : ∀m,mw c.st.cA c.st.mem=some m→B9 P E g c fr w (mq P {c with st:={c.st with mem:=m,cA:=[]}}):=by
  intro m hm
  obtain⟨w',q1,q2,q3⟩:=HD (P:=P) (b:=b) (todo:=todo) hm hd hs
  have h1:=xB (P:=P) (E:=E) (c:={c with st:={c.st with mem:=m,cA:=[]}}) (b:=b) (a:={a with defers:=[]}) (todo:=todo) q2 hrb xg xe rfl (fr:={b.atR {a with defers:=[]} todo with mode:= .returning}) fun cs=>abC _ _
  unfold mq at h1 ⊢
  split
  · rename_i fn hfn
    rw[hfn] at h1
    simp only at h1
    split
    · rename_i vs ok hres
      simp only[hres] at h1
      intro hok cs
      obtain⟨g',fr',w2,s1,s2,s3,s4,s5,s6,s7⟩:=h1 hok cs
      exact⟨g',fr',w2,((hst cs).trans (q1 cs)).trans s1,s2,q3.trans s3,s4,s5,s6,s7⟩
    · trivial
  · trivial
 unfold ending
 split
 · rename_i hmk
   have h:=key c.st.mem (by rw[hmk];rfl)
   have e:({c with st:={c.st with mem:=c.st.mem,cA:=[]}}:cw)=c:=by
    obtain⟨f,t,st⟩:=c
    obtain⟨tm,nt,mem,fix,cA,bX⟩:=st
    simp only at hmk
    subst hmk
    rfl
   rw[e] at h
   exact h
 · rename_i gf first caps hmk
   rw[hmk] at hd
   cases hq:a.defers with
   |nil=>rw[hq] at hd;exact hd.elim
   |cons d ds=>
    rw[hq] at hd
    obtain⟨hd1,hd2⟩:=hd
    cases ds with
    |nil=>exact HE (pv:=none) (rA:=none) hs hrb xg xe hq hd1 trivial hst
    |cons _ _=>exact hd2.elim
 · split
   · rename_i m hm
     exact key m hm
   · trivial
end
end Go.Am
end
section
namespace Go.Am
open Go.RowKit
section
variable {P:Program} {E:Env} {g:Gh} {w:World}
theorem HF (m:Mem) (b b':aU):(m++[b]).set m.length b'=m++[b']:=by
 rw[List.set_append_right _ _ (bx _)];simp
theorem FM {st:St} {a:Act} (h:cu E g st a w):cL g w ((upTo st.nt).map (look st.tm)) a.tmps.toList:=by
 refine bu.dA (by simp[h.nt,iY]) fun i hi hi'=> ?_
 have hu:(upTo st.nt)[i]? = some i:=wZ st.nt i (by simpa[iY] using hi)
 have e:((upTo st.nt).map (look st.tm))[i]=look st.tm i:=by
  have:((upTo st.nt).map (look st.tm))[i]? = some (look st.tm i):=by rw[dT,hu];rfl
  rw[cb hi] at this
  exact da this
 rw[e]
 have:=h.tm i
 rw[xr,fv (by simpa using hi')] at this
 simpa using this
theorem Ju {st:St} {a:Act} (hs:cu E g st a w) (f:FuncId) (ps:Array Tmp) (as bd:Code) :
  ∃g',Rel g' (dM st f ps as bd) ((w.alloc (.deferred (some []))).alloc (.loop {state:= .ready,pending:=none,fn:=f,tmps:=a.tmps,params:=ps,assign:=as,body:=bd,defers:=w.heap.size})) ∧
   Ext g w g' ((w.alloc (.deferred (some []))).alloc (.loop {state:= .ready,pending:=none,fn:=f,tmps:=a.tmps,params:=ps,assign:=as,body:=bd,defers:=w.heap.size})) ∧
   dm g st.mem w g' (dM st f ps as bd) ((w.alloc (.deferred (some []))).alloc (.loop {state:= .ready,pending:=none,fn:=f,tmps:=a.tmps,params:=ps,assign:=as,body:=bd,defers:=w.heap.size})) ∧
   g'.bP st.mem.length=some w.heap.size∧g'.bP (st.mem.length+1)=some (w.heap.size+1):=by
 obtain⟨r1,s1⟩:=hs.rel.reserve
 obtain⟨r2,e2,s2⟩:=r1.vG (i:=st.mem.length) (ob:= .Jc) (l:=[]) (vs:=[]) (by simp) trivial (eI w (.deferred (some []))) ⟨rfl,rfl⟩
 rw[HF] at r2 s2
 obtain⟨r3,s3⟩:=r2.reserve
 have hv:=(FM hs).mono e2
 obtain⟨r4,e4,s4⟩:=r3.vG (i:=st.mem.length+1) (ob:= .loop f ps as bd .ready none) (l:=(upTo st.nt).map (look st.tm)) (vs:=a.tmps.toList)
  (by simp) hv (eI _ (.loop {state:= .ready,pending:=none,fn:=f,tmps:=a.tmps,params:=ps,assign:=as,body:=bd,defers:=w.heap.size})) ⟨w.heap.size,by simp⟩
 have hl:(st.mem++[aU.ob .Jc []]).length=st.mem.length+1:=by simp
 have hse:=HF (st.mem++[aU.ob .Jc []]) .free (.ob (.loop f ps as bd .ready none) ((upTo st.nt).map (look st.tm)))
 rw[hl] at hse
 rw[hse] at r4 s4
 refine⟨_,r4,e2.trans e4,s1.trans (s2.trans (s3.trans s4)),?_,?_⟩
 · have:=(e4.bP st.mem.length w.heap.size (by simp[Gh.put])).1
   exact this
 · simp[Gh.put]
theorem zM {a:Act} {x:Operand} {f:FuncId} {fa ca:Array Value} {l:Nat} (hx:a.eval x = .func (.func f) fa ca)
  {fn:Func} (hf:P.funcs[f]? = some fn) (hb:fn.body.isSome=true) (hn:(fn.name == "runtime.NumGoroutine")=false) :
  ∃d,(resolve a.eval (rangeCall x l) 0).run P w = .ok d w∧(invoke d.target d.args).run P w = .ok (.enter f (fa ++ #[.func (.yield l) #[] #[]]++ca)) w:=by
 have Tz:fn.body.isNone=false:=by cases hq:fn.body<;>simp_all
 refine⟨{target:= .fn (.func f) ca,args:=fa ++ #[.func (.yield l) #[] #[]]},?_,?_⟩
 · simp only[resolve,hx,Deferred.ofValue,ja]
   have e:Array.map a.eval #[Operand.const (Value.func (Fn.yield l) #[] #[])] = #[Value.func (Fn.yield l) #[] #[]]:=by simp[Act.eval]
   rw[e]
 · simp only[invoke,callFunc,iv,run_program,jb,hf,hn,pb,if_false,Tz,ja]
theorem DP {m m':Mem} {L l:Nat} {pd:Option Code} (h:Rel g m w) (hl:g.bP L=some l) (he:gm m L=some (m',pd)) :
  ∃w',(Instr.endLoop l).run P w = .ok pd w'∧Rel g m' w'∧Ext g w g w'∧dm g m w g m' w':=by
 unfold gm at he
 split at he
 · rename_i f ps as bd st HG vals hb
   have hib:=getD_some hb (by simp)
   obtain⟨c,ob,vs,k1,k2,k3,k4,_⟩:=h.obs L _ _ hib
   rw[hl] at k1;cases k1
   obtain⟨D,rfl⟩:=k4
   have fin:st ≠ .busy→some (m.set L (.ob (.loop f ps as bd .exhausted HG) vals),HG)=some (m',pd) → ∃w',(Instr.endLoop l).run P w = .ok pd w'∧Rel g m' w'∧Ext g w g w'∧dm g m w g m' w':=by
    intro hst e
    simp only[c9,iu] at e
    obtain⟨rfl,rfl⟩:=e
    obtain⟨e1,e2,e3⟩:=cS w (o':= .loop {state:= .exhausted,pending:=HG,fn:=f,tmps:=vs.toArray,params:=ps,assign:=as,body:=bd,defers:=D}) k2
    obtain⟨r1,r2,r3⟩:=h.fP (Df:= .loop f ps as bd .exhausted HG) (l':=vals) (vs':=vs) hib hl e1 e2 rfl rfl rfl e3 ⟨D,rfl⟩ k3
    exact⟨_,run_endLoop k2 hst,r1,r2,r3⟩
   cases st with
   |busy=>cases he
   |ready=>exact fin (fun e=>by cases e) he
   |done=>exact fin (fun e=>by cases e) he
   |exhausted=>exact fin (fun e=>by cases e) he
 · cases he
theorem LO {st:St} {a:Act} {b:Frame} {k:List Item} {x:Operand} {ps:Array Tmp} {as bd:Code} {gf:FuncId} {first captured:List AV} {v:AV} {m1 m2:Mem} {pd:Option Code}
  (hs:cu E g st a w) (hr:b.roundOf=none) (hd:Mk g st.cA a.defers) (hx:ev E st.tm x = .fn (.func gf) first captured)
  (hlt:iT (close (dM st b.fn ps as bd) 0 (first++[.vy (st.mem.length+1)]++captured)) (dM st b.fn ps as bd).length=true)
  (fD:an P E gf (eW (idx (close (dM st b.fn ps as bd) 0 (first++[.vy (st.mem.length+1)]++captured))) (first++[.vy (st.mem.length+1)]++captured))
    (pack (dM st b.fn ps as bd) (close (dM st b.fn ps as bd) 0 (first++[.vy (st.mem.length+1)]++captured))) v m1)
  (hend:gm (back (close (dM st b.fn ps as bd) 0 (first++[.vy (st.mem.length+1)]++captured)) none {st with mem:=dM st b.fn ps as bd} v m1).mem (st.mem.length+1)=some (m2,pd)) :
  ∀cs,∃g' a' w',Steps P (lone (b.atR a (.code (.rangeFunc x ps as bd)::k)) cs w) (lone (b.atR a' ((pd.map Item.code).toList++k)) cs w') ∧
   Mk g' (.range st.mem.length::st.cA) a'.defers∧cu E g' {st with mem:=m2,cA:= .range st.mem.length::st.cA} a' w'∧dm g st.mem w g' m2 w'∧bJ g g' st.fix ∧ ∀i c,g.bP i=some c→g'.bP i=some c:=by
 intro cs
 obtain⟨g1,r1,e1,s1,d1,d2⟩:=Ju hs b.fn ps as bd
 generalize hM:dM st b.fn ps as bd=M at *
 generalize hW:(w.alloc (.deferred (some []))).alloc (.loop {state:= .ready,pending:=none,fn:=b.fn,tmps:=a.tmps,params:=ps,assign:=as,body:=bd,defers:=w.heap.size})=W at *
 have hlM:st.mem.length+2≤M.length:=by rw[←hM];simp[dM]
 have zB:=gw hs x
 rw[hx,VA.fns] at zB
 obtain⟨fa,ca,zB,Ul,hca⟩:=zB
 obtain⟨⟨fn,Qm,Qn,Qo⟩,fD⟩:=fD
 obtain⟨d,hres,hinv⟩:=zM (P:=P) (w:=W) (l:=w.heap.size+1) zB Qm Qn Qo
 have FL:=stepR_rangeFunc (P:=P) (b:=b) (a:=a) (k:=k) (cs:=cs) (w:=w) (g:=x) (ps:=ps) (assign:=as) (body:=bd) (w₁:=W) (by rw[hr,←hW];exact run_enterLoop_outer _ _ _ _ _) hres hinv
 have hargs:cL g1 W (first++[.vy (st.mem.length+1)]++captured) (fa ++ #[Value.func (.yield (w.heap.size+1)) #[] #[]]++ca).toList:=by
  simp only[Hb]
  have hy:cL g1 W [.vy (st.mem.length+1)] [Value.func (.yield (w.heap.size+1)) #[] #[]]:=⟨.vy _ _ d2,trivial⟩
  exact((Ul.mono e1).append hy).append (hca.mono e1)
 generalize first++[.vy (st.mem.length+1)]++captured=args at *
 obtain⟨hnd,_⟩:=fc M 0 args
 generalize close M 0 args=ord at *
 obtain⟨Lv,Lw⟩:=r1.pack hnd
 have mF:=dy.pack g1 ord
 have YW:gk E g1 W:=hs.dg.mono e1.pure
 obtain⟨w',g',cv,fr,q1,q2,q3,q4,q5,q6,q7,q8⟩:=fD (g1.pack ord) W _ (b.atR {a with defers:=[{target:= .collected w.heap.size,args:= #[]}]++a.defers} (.inRangeFunc (w.heap.size+1)::k)::cs) Lv
  (cL.jx mF hargs) (YW.mono fun _ _ p=>⟨p,rfl⟩)
 have hlen:(Am.pack M ord).length=ord.length:=by simp[Am.pack]
 rw[hlen] at q7 q8
 obtain⟨r2,e2,s2,r4⟩:=r1.back hnd (fQ hlt) q5 q6 q7 q8
 have hmem:(back ord none {st with mem:=M} v m1).mem=dh (bg ord M.length) ord m1 M:=rfl
 rw[hmem] at hend
 have hL:(g1.back g' ord M.length).bP (st.mem.length+1)=some (w.heap.size+1):=(e2.bP _ _ d2).1
 obtain⟨w2,f1,f2,f3,f4⟩:=DP (P:=P) r2 hL hend
 have hleave:=step_leave_returned (P:=P) (c:=b.atR {a with defers:=[{target:= .collected w.heap.size,args:= #[]}]++a.defers} (.inRangeFunc (w.heap.size+1)::k)) (cs:=cs) q2
 rw[finish_atR_inRangeFunc] at hleave
 have DQ:Ext g w (g1.back g' ord M.length) w2:=(e1.trans e2).trans f3
 have hm2:st.fix≤m2.length:=by
  have qe:=dX (bg ord M.length) ord m1 M q8
  have Ls:m2.length=(dh (bg ord M.length) ord m1 M).length:=by
   unfold gm at hend
   split at hend
   · split at hend
     · cases hend
     · simp only[c9,iu] at hend
       obtain⟨rfl,_⟩:=hend
       simp
   · cases hend
  have:=hs.fix
  omega
 refine⟨g1.back g' ord M.length,{a with defers:=[{target:= .collected w.heap.size,args:= #[]}]++a.defers},w2,.head FL (q1.trans (.head hleave (.one (stepR_endRangeFunc f1)))),?_,?_,s1.trans (s2.trans f4),bJ.rz DQ _,fun i c q=>(DQ.bP i c q).1⟩
 · exact⟨⟨w.heap.size,(e2.bP _ _ d1).1,rfl⟩,hd.ext fun i c q=>(DQ.bP i c q).1⟩
 · exact⟨fun j=>(hs.tm j).mono DQ,hs.nt,f2,hm2,hs.dg.mono DQ.pure⟩
end
end Go.Am
end
section
namespace Go.Am
open Go.RowKit
section
variable {P:Program} {E:Env} {g:Gh} {w:World}
theorem dK {id:Nat} : ∀{k k':List It},bY id k=some k'→exitTo id (dV k)=some (dV k')
 |[],_,h=>by simp[bY] at h
 |.inBlock i::k,k',h=>by
  simp only[bY] at h
  cases hb:ae i id with
  |true=>
   simp only[hb,cond_true,c9] at h;subst h
   have:=ai hb
   subst this
   simp[dV,er,exitTo]
  |false=>
   simp only[hb,cond_false] at h
   have hne:(i==id)=false:=by
    rw[beq_eq_false_iff_ne];intro e;subst e;simp[vt] at hb
   simp only[dV,er,abE,QP,exitTo,hne,pb,if_false]
   exact dK h
 |.code _ _::k,k',h=>by
  simp only[bY] at h
  simpa[dV,er,exitTo] using dK h
 |.ops _ _ _ _::k,k',h=>by
  simp only[bY] at h
  simpa[dV,er,exitTo] using dK h
 |.inLoop _ _::k,k',h=>by
  simp only[bY] at h
  simpa[dV,er,exitTo] using dK h
 |.forget _::k,k',h=>by
  simp only[bY] at h
  simpa[dV,er] using dK h
 |.fin::k,k',h=>by
  simp only[bY] at h
  simpa[dV,er] using dK h
 |.zj _::k,k',h=>by
  simp only[bY] at h
  simpa[dV,er] using dK h
 |.hJ _::k,k',h=>by
  simp only[bY] at h
  simpa[dV,er] using dK h
 |.leave::k,k',h=>by
  simp only[bY] at h
  simpa[dV,er] using dK h
 |.begin::k,k',h=>by
  simp only[bY] at h
  simpa[dV,er,exitTo] using dK h
 |.inScope _::k,k',h=>by
  simp only[bY] at h
  simpa[dV,er,exitTo] using dK h
theorem cZ {id:Nat} : ∀{k:List It},bY id k=none→exitTo id (dV k)=none
 |[],_=>rfl
 |.inBlock i::k,h=>by
  simp only[bY] at h
  cases hb:ae i id with
  |true=>simp[hb] at h
  |false=>
   simp only[hb,cond_false] at h
   have hne:(i==id)=false:=by
    rw[beq_eq_false_iff_ne];intro e;subst e;simp[vt] at hb
   simp only[dV,er,abE,QP,exitTo,hne,pb,if_false]
   exact cZ h
 |.code _ _::k,h=>by
  simp only[bY] at h
  simpa[dV,er,exitTo] using cZ h
 |.ops _ _ _ _::k,h=>by
  simp only[bY] at h
  simpa[dV,er,exitTo] using cZ h
 |.inLoop _ _::k,h=>by
  simp only[bY] at h
  simpa[dV,er,exitTo] using cZ h
 |.forget _::k,h=>by
  simp only[bY] at h
  simpa[dV,er] using cZ h
 |.fin::k,h=>by
  simp only[bY] at h
  simpa[dV,er] using cZ h
 |.zj _::k,h=>by
  simp only[bY] at h
  simpa[dV,er] using cZ h
 |.hJ _::k,h=>by
  simp only[bY] at h
  simpa[dV,er] using cZ h
 |.leave::k,h=>by
  simp only[bY] at h
  simpa[dV,er] using cZ h
 |.begin::k,h=>by
  simp only[bY] at h
  simpa[dV,er,exitTo] using cZ h
 |.inScope _::k,h=>by
  simp only[bY] at h
  simpa[dV,er,exitTo] using cZ h
theorem dL {l:Nat} : ∀{k k':List It},eN l k=some k'→gotoIn l (dV k)=some (dV k')
 |[],_,h=>by simp[eN] at h
 |.inScope b::k,k',h=>by
  simp only[eN] at h
  simp only[dV,er,abE,QP,gotoIn]
  cases hf:findLabel b l with
  |some rest=>
   simp only[hf,c9] at h;subst h
   rfl
  |none=>
   simp only[hf] at h
   exact dL h
 |.code _ _::k,k',h=>by
  simp only[eN] at h
  simpa[dV,er,gotoIn] using dL h
 |.ops _ _ _ _::k,k',h=>by
  simp only[eN] at h
  simpa[dV,er,gotoIn] using dL h
 |.inBlock _::k,k',h=>by
  simp only[eN] at h
  simpa[dV,er,gotoIn] using dL h
 |.inLoop _ _::k,k',h=>by
  simp only[eN] at h
  simpa[dV,er,gotoIn] using dL h
 |.forget _::k,k',h=>by
  simp only[eN] at h
  simpa[dV,er] using dL h
 |.fin::k,k',h=>by
  simp only[eN] at h
  simpa[dV,er] using dL h
 |.zj _::k,k',h=>by
  simp only[eN] at h
  simpa[dV,er] using dL h
 |.hJ _::k,k',h=>by
  simp only[eN] at h
  simpa[dV,er] using dL h
 |.leave::k,k',h=>by
  simp only[eN] at h
  simpa[dV,er] using dL h
 |.begin::k,k',h=>by
  simp only[eN] at h
  simpa[dV,er,gotoIn] using dL h
theorem qk {l:Nat} : ∀{k k':List It},(∀x∈k,It.pl x)→eN l k=some k' → ∀x∈k',It.pl x
 |[],_,_,h=>by simp[eN] at h
 |x::k,k',hf,h=>by
  have ht : ∀y∈k,It.pl y:=fun y hy=>hf y (.tail _ hy)
  cases x with
  |inScope b=>
   simp only[eN] at h
   cases hl:findLabel b l with
   |some rest=>
    simp only[hl,c9] at h;subst h
    intro y hy
    cases hy with
    |head=>exact trivial
    |tail _ hy=>exact hf y hy
   |none=>
    simp only[hl] at h
    exact qk ht h
  |_=>simp only[eN] at h;exact qk ht h
theorem ql {id:Nat} : ∀{k k':List It},(∀x∈k,It.pl x)→bY id k=some k' → ∀x∈k',It.pl x
 |[],_,_,h=>by simp[bY] at h
 |x::k,k',hf,h=>by
  have ht : ∀y∈k,It.pl y:=fun y hy=>hf y (.tail _ hy)
  cases x with
  |inBlock i=>
   simp only[bY] at h
   cases hb:ae i id with
   |true=>simp only[hb,cond_true,c9] at h;subst h;exact ht
   |false=>simp only[hb,cond_false] at h;exact ql ht h
  |_=>simp only[bY] at h;exact ql ht h
theorem DR {g':Gh} {ρ:Nat→Option Nat} {f:Nat→Value} : ∀(keep:List Nat) (tm:vQ),(∀k,VA g' w (jx ρ (look tm k)) (f k)) → ∀k,VA g' w (look (keep.zip (eW ρ (keep.map (look tm)))) k) (f k)
 |[],tm,_,k=> .ah _
 |i::keep,tm,h,k=>by
  simp only[List.map_cons,eW,abF,jM]
  by_cases e:i=k
  · subst e;simp only[if_true];exact h i
  · simp only[e,if_false];exact DR keep tm h k
theorem xC {keep:List Nat} {st:St}:(forget keep st).bX=st.bX:=by
 obtain⟨tm,nt,mem,fix,cA,bX⟩:=st
 cases cA with
 |cons i l=>rfl
 |nil=>cases bX<;>rfl
theorem uH {keep:Option (List Nat)} {st:St}:(iN keep st).bX=st.bX:=by
 cases keep with
 |none=>rfl
 |some keep=>exact xC
theorem AA {st:St} {a:Act} (h:cu E g st a w) (keep:List Nat) : ∃g',cu E g' (forget keep st) a w∧dm g st.mem w g' (forget keep st).mem w∧bJ g g' st.fix∧(forget keep st).fix=st.fix∧(∀ds,Mk g st.cA ds→Mk g' (forget keep st).cA ds) ∧ ∀b,eJ g st.bX b→eJ g' (forget keep st).bX b:=by
 obtain⟨tm,nt,mem,fix,cA,bX⟩:=st
 have stay:forget keep ⟨tm,nt,mem,fix,cA,bX⟩=⟨tm,nt,mem,fix,cA,bX⟩→_:=fun this=>(show ∃g',cu E g' (forget keep ⟨tm,nt,mem,fix,cA,bX⟩) a w∧dm g mem w g' (forget keep ⟨tm,nt,mem,fix,cA,bX⟩).mem w∧bJ g g' fix∧(forget keep ⟨tm,nt,mem,fix,cA,bX⟩).fix=fix∧(∀ds,Mk g cA ds→Mk g' (forget keep ⟨tm,nt,mem,fix,cA,bX⟩).cA ds) ∧ ∀b,eJ g bX b→eJ g' (forget keep ⟨tm,nt,mem,fix,cA,bX⟩).bX b from by
  rw[this]
  exact⟨g,h,dm.refl _ _ _,bJ.refl _ _,rfl,fun _ q=>q,fun _ q=>q⟩)
 cases cA with
 |cons i cA=>exact stay rfl
 |nil=>
  cases bX with
  |round i=>exact stay rfl
  |late=>exact stay rfl
  |call=>
   obtain⟨hnd,oc⟩:=fc mem fix (keep.map (look tm))
   obtain⟨h1,h2⟩:=h.rel.pack hnd
   have hlen:fix≤(close mem fix (keep.map (look tm))).length:=by
    rcases py fix with e | e
    · omega
    · have:=bq (oc (fix-1) (by omega));omega
   refine⟨g.pack (close mem fix (keep.map (look tm))),⟨DR keep tm fun k=>(h.tm k).jx (dy.pack g _),h.nt,h1,?_,h.dg.mono fun _ _ p=>⟨p,rfl⟩⟩,?_,?_,rfl,?_,fun _ q=>q⟩
   · show fix≤(Am.pack mem _).length
     simpa[Am.pack] using hlen
   · exact⟨bx _,fun _ _ _=>rfl,fun _ _ p=>⟨p,rfl⟩,fun _ _ p=> .inl p,fun c ho=> .inl (h2 c ho),rfl,rfl,rfl⟩
   · intro k c hk hc
     have:=oc k hk
     simp[Gh.pack,this,hc]
   · intro ds hd
     cases ds with
     |nil=>exact trivial
     |cons _ _=>exact hd.elim
theorem xD {st:St} {a:Act} (h:cu E g st a w) (keep:Option (List Nat)) : ∃g',cu E g' (iN keep st) a w∧dm g st.mem w g' (iN keep st).mem w∧bJ g g' st.fix∧(iN keep st).fix=st.fix∧(∀ds,Mk g st.cA ds→Mk g' (iN keep st).cA ds) ∧ ∀b,eJ g st.bX b→eJ g' (iN keep st).bX b:=by
 cases keep with
 |none=>exact⟨g,h,dm.refl _ _ _,bJ.refl _ _,rfl,fun _ q=>q,fun _ q=>q⟩
 |some keep=>exact AA h keep
theorem og (keep:Option (List Nat)) (k:List It):dV (eY keep k)=dV k:=by cases keep<;>rfl
theorem oh {keep:Option (List Nat)} {k:List It} (h : ∀x∈k,It.pl x) : ∀x∈eY keep k,It.pl x:=by
 cases keep with
 |none=>exact h
 |some keep=>
  intro x hx
  cases hx with
  |head=>exact trivial
  |tail _ hx=>exact h x hx
theorem xE {st:St} {a:Act} {i l:Nat} {f:FuncId} {ps:Array Tmp} {as bd:Code} {s s':LoopState} {pd HG:Option Code} {vals:List AV}
  (h:cu E g st a w) (hl:g.bP i=some l) (hb:st.mem.getD i .dead = .ob (.loop f ps as bd s pd) vals) :
  ∃r:Loop,w.heap[l]? = some (.loop r)∧r.state=s ∧
   Rel g (st.mem.set i (.ob (.loop f ps as bd s' HG) vals)) (w.putObj l (.loop {r with state:=s',pending:=HG})) ∧
   Ext g w g (w.putObj l (.loop {r with state:=s',pending:=HG})) ∧
   dm g st.mem w g (st.mem.set i (.ob (.loop f ps as bd s' HG) vals)) (w.putObj l (.loop {r with state:=s',pending:=HG})) ∧
   gp g st.mem l:=by
 have hib:=getD_some hb (by simp)
 obtain⟨c,ob,vs,k1,k2,k3,k4,_⟩:=h.rel.obs i _ _ hib
 rw[hl] at k1;cases k1
 obtain⟨D,rfl⟩:=k4
 obtain⟨e1,e2,e3⟩:=cS w (o':= .loop {state:=s',pending:=HG,fn:=f,tmps:=vs.toArray,params:=ps,assign:=as,body:=bd,defers:=D}) k2
 obtain⟨r1,r2,r3⟩:=h.rel.fP (Df:= .loop f ps as bd s' HG) (l':=vals) (vs':=vs) hib hl e1 e2 rfl rfl rfl e3 ⟨D,rfl⟩ k3
 exact⟨_,k2,rfl,r1,r2,r3,i,_,hib,rfl,hl⟩
theorem om {c:cw} {b:Frame} {a:Act} {i l:Nat} {jump:Option Code} {todo:List Item} (hs:cu E g c.st a w) (hrn:c.st.bX = .round i) (hl:g.bP i=some l) (xe:b.fn=c.f)
  (hst : ∀(v:Value) (w':World),(Instr.endRound l jump).run P w = .ok v w' → ∀(d:Frame) (cs:List Frame),_root_.Go.step P (lone (b.atR a todo) (d::cs) w) = .next (lone (d.finish v) cs w')) :
  B9 P E g c (b.atR a todo) w (nE c i jump):=by
 unfold nE
 split
 · rename_i f ps as bd s pd vals hb
   dsimp only
   cases hlt:ar i c.st.fix with
   |false=>trivial
   |true=>
   rw[Nat.blt_eq] at hlt
   intro cs
   obtain⟨r,q1,_,q2,q3,q4,q5⟩:=xE (s':=fH jump) (HG:=jump) hs hl hb
   have hrun:=run_endRound (P:=P) jump q1
   have Uy:(if jump.isNone then LoopState.ready else .done)=(fH jump):=by cases jump<;>rfl
   rw[Uy] at hrun
   generalize hm:c.st.mem.set i (.ob (.loop f ps as bd (fH jump) jump) vals)=m at *
   obtain⟨hnd,oc⟩:=fc m c.st.fix []
   generalize LI:close m c.st.fix []=ord at *
   obtain⟨p1,p2⟩:=q2.pack hnd
   have hlen:c.st.fix≤ord.length:=by
    rcases py c.st.fix with e | e
    · omega
    · have:=bq (oc (c.st.fix-1) (by omega));omega
   have own : ∀c',gp (g.pack ord) (Am.pack m ord) c'→gp g c.st.mem c':=fun c' ho=>(q4.owned c' (p2 c' ho)).elim id fun hh=>by
    have h1:=q2.lG (p2 c' ho)
    rw[World.putObj_size] at h1
    omega
   refine⟨g.pack ord,_,w,abC _ _,⟨xe,.bool jump.isNone,_,?_,.p _ _ (.sc _),p1,?_,?_⟩,?_,?_,rfl,rfl,rfl⟩
   · show Ly P c.st.bX _ w _ _
     rw[hrn]
     exact fun d cs=> .one (hst _ _ hrun d cs)
   · have hol:gp (g.pack ord) (Am.pack m ord) l:=by
      have hi:=oc i hlt
      have him:m[i]? = some (.ob (.loop f ps as bd (fH jump) jump) vals):=by
       rw[←hm,ma (bq (getD_some hb (by simp)))]
      refine⟨i,gJ (idx ord) (.ob (.loop f ps as bd (fH jump) jump) vals),?_,rfl,by simp[Gh.pack,hi,hl]⟩
      unfold Am.pack
      rw[dT,hi]
      simp[ch,him]
     exact⟨by simp,fun c' _ hno=>World.putObj_heap_other fun e=>hno (e▸hol),fun c' o p=>⟨p,(q4.pure c' o p).2⟩,fun _ _ p=> .inl p,fun _ ho=> .inl ho,rfl,rfl,rfl⟩
   · show c.st.fix≤(Am.pack m ord).length
     simpa[Am.pack] using hlen
   · exact⟨bx _,fun _ _ _=>rfl,fun _ _ p=>⟨p,rfl⟩,fun _ _ p=> .inl p,fun c' ho=> .inl (own c' ho),rfl,rfl,rfl⟩
   · intro k c' hk fO
     have:=oc k hk
     simp[Gh.pack,this,fO]
 · trivial
theorem ia {c:cw} {fr:Frame} (h:dN P E g c fr w):B9 P E g c fr w (Am.step P E c):=by
 obtain⟨f,todo,st⟩:=c
 cases todo with
 |nil=>
  obtain⟨b,a,rfl,h1,h2,h3,h4,_⟩:=h
  simp only[Am.step]
  split
  · rename_i i hr
    rw[hr] at h2
    obtain⟨hk,l,hl,hro⟩:=h2
    exact om (c:=⟨f,[],st⟩) h4 hr hl h1 fun v w' hrun d cs=>stepR_round_end hro hk hrun
  · rename_i xg
    have xg : ∀i,st.bX ≠ .round i:=fun i e=>xg i e
    exact Az (c:=⟨f,[],st⟩) (b:=b) (a:=a) (todo:=[]) h4 h2 xg h1 h3 fun cs=> .one (stepR_end (h2.B7 xg))
 |cons x k=>
  by_cases nW:It.pl x
  case neg=>
   cases x with
   |fin=>
    obtain⟨h1,cv,w2,h2,h3,h4,h6,h5⟩:=h
    exact⟨h1,rfl,cv,w2,h2,h3,h4,h6,h5⟩
   |zj u=>
    obtain⟨h1,cv,h2,h3,h4,h5⟩:=h
    exact⟨h1,rfl,cv,h2,h3,h4,h5⟩
   |hJ u=>
    obtain⟨b,a,todo,cv,rfl,h1,h2,h3,h4,h5⟩:=h
    exact Jt (c:=⟨f,.hJ u::k,st⟩) h4 h2 h1 h3 h5
   |leave=>
    obtain⟨b,a,todo,rfl,h1,h2,h3,_,h5,h6⟩:=h
    exact xB (c:=⟨f,.leave::k,st⟩) (b:=b) (a:=a) (todo:=todo) h6 h2 h3 h1 h5 fun cs=>abC _ _
   |_=>exact absurd trivial nW
  have h' : ∃(b:Frame) (a:Act),fr=b.atR a (er x++dV k)∧b.fn=f∧eJ g st.bX b∧Mk g st.cA a.defers∧cu E g st a w ∧ ∀y∈x::k,It.pl y:=by
   cases x<;>first
    |exact absurd nW id
    |exact h
  obtain⟨b,a,rfl,h1,h2,h3,h4,hxk⟩:=h'
  have hk : ∀y∈k,It.pl y:=fun y hy=>hxk y (.tail _ hy)
  clear h
  cases x with
  |fin=>exact absurd nW id
  |zj u=>exact absurd nW id
  |hJ u=>exact absurd nW id
  |leave=>exact absurd nW id
  |begin=>
   simp only[Am.step]
   split
   · rename_i i hr
     unfold wj
     split
     · rename_i f' ps as bd pd vals hb
       intro cs
       have h2':=h2
       rw[hr] at h2'
       obtain⟨_,l,hl,hro⟩:=h2'
       obtain⟨r,q1,q0,q2,q3,q4,_⟩:=xE (s':= .busy) (HG:=pd) h4 hl hb
       have hp:r.pending=pd:=by
        have hib:=getD_some hb (by simp)
        obtain⟨c,ob,vs,k1,k2,k3,k4,_⟩:=h4.rel.obs i _ _ hib
        rw[hl] at k1;cases k1
        obtain⟨D,rfl⟩:=k4
        rw[q1] at k2;cases k2
        rfl
       have hrun:=run_beginRound (P:=P) q1 q0
       rw[show({r with state:= .busy}:Loop)={r with state:= .busy,pending:=pd} by rw[←hp]] at hrun
       refine⟨g,_,_,.one (stepR_beginRound hro hrun),dN.mk (a:=a) (c:=⟨f,k,{st with mem:=st.mem.set i (.ob (.loop f' ps as bd .busy pd) vals)}⟩) hk h1 h2 h3 ⟨fun j=>(h4.tm j).mono q3,h4.nt,q2,by simpa using h4.fix,h4.dg.mono q3.pure⟩,q4,bJ.refl _ _,rfl,rfl,rfl⟩
     · trivial
   · trivial
  |inScope bd=>exact eO.quiet (fun cs=> .one (step_lone_go (by simp[stepG,stepG.exec,zr,er]))) hk h1 rfl h2 h3 h4 rfl rfl
  |inBlock id=>exact eO.quiet (fun cs=> .one stepR_inBlock) hk h1 rfl h2 h3 h4 rfl rfl
  |forget keep=>
   intro cs
   obtain⟨g',q1,q2,q3,q4,q5,q6⟩:=AA h4 keep
   exact⟨g',_,w,abC _ _,dN.mk (c:=⟨f,k,forget keep st⟩) hk h1 (q6 _ h2) (q5 _ h3) q1,q2,q3,rfl,q4,xC⟩
  |inLoop i body=>
   intro cs
   obtain⟨g',q1,q2,q3,q4,q5,q6⟩:=xD h4 (E.keep f (2*i))
   exact⟨g',_,w,.one stepR_inLoop,dN.mk (c:=⟨f,.code (i+1) body :: .inLoop i body::k,iN (E.keep f (2*i)) st⟩) (nf trivial (nf trivial hk)) h1 (q6 _ h2) (q5 _ h3) q1,q2,q3,rfl,q4,uH⟩
  |ops bV ops i sure=>
   simp only[Am.step]
   cases ho:ops[i]? with
   |none=>
    have hi:ops.size-i=0:=by
     have:ops.size≤i:=by
      rcases fg i ops.size with q | q
      · rw[fv q] at ho;cases ho
      · exact q
     omega
    refine eO.quiet (c':=⟨f,k,st⟩) (fun cs=> .one ?_) hk h1 rfl h2 h3 h4 rfl rfl
    simp only[er,hi,List.range'_zero,abE,QP]
    exact stepR_region_end
   |some o=>
    obtain⟨w1,w2,w3⟩:=oU h4 (ops:=ops) (o:=o)
    have hi:i<ops.size:=by
     rcases fg i ops.size with q | q
     · exact q
     · rw[Ha q] at ho;cases ho
    have skip:Region.wanted o (yielded ops a.tmps)=false→fits st o.dst=true→eO P E g ⟨f,.ops bV ops i sure::k,st⟩ (b.atR a (er (.ops bV ops i sure)++dV k)) w ⟨f,.ops bV ops (i+1) false::k,put st o.dst (.au [])⟩:=by
     intro hw hf cs
     have hst:=stepR_op_skip (P:=P) (b:=b) (a:=a) (k:=dV k) (cs:=cs) (w:=w) (ops:=ops) (i:=i) (rest:=xi (i+1) (ops.size-(i+1))) (by simp[ho,hw])
     simp only[ho,Option.bind_some] at hst
     rw[←nV hi] at hst
     have hp:=h4.put (v:= .au []) (cv:=undef) hf (VA.lF.2 trivial) (Ext.refl g w) h4.rel h4.fix
     refine⟨g,_,w,.one hst,dN.mk (a:=a.put o.dst undef) (c:=⟨f,.ops bV ops (i+1) false::k,put st o.dst (.au [])⟩) (nf trivial hk) h1 (h2.put (Ext.refl g w) rfl) (h3.put (Ext.refl g w) rfl) hp,?_,bJ.refl _ _,rfl,?_,jA⟩
     · have:(put st o.dst (.au [])).mem=st.mem:=by unfold Am.put;cases o.dst<;>rfl
       show dm g st.mem w g (put st o.dst (.au [])).mem w
       rw[this];exact dm.refl _ _ _
     · show(put st o.dst (.au [])).fix=st.fix
       unfold Am.put;cases o.dst<;>rfl
    dsimp only
    cases FF:ep ops st.tm o with
    |yes=>exact HA (c:=⟨f,.ops bV ops i sure::k,st⟩) h4 h1 h2 h3 ho (w1 FF) hk
    |no=>
     dsimp only
     cases hf:fits st o.dst with
     |false=>trivial
     |true=>exact skip (w2 FF) hf
    |lost=>trivial
    |ask d bb want=>
     obtain⟨q1,q2⟩:=w3 d bb want FF
     dsimp only
     cases sure with
     |false=>
      have known : ∀b':Bool,bb=b'→eO P E g ⟨f,.ops bV ops i false::k,st⟩ (b.atR a (er (.ops bV ops i false)++dV k)) w ⟨f,.ops bV ops i true::k,put st (some d) (sB b')⟩:=by
       intro b' e
       subst e
       refine eO.quiet (c':=⟨f,.ops bV ops i true::k,put st (some d) (sB bb)⟩) (fun cs=>abC _ _) (nf trivial hk) h1 rfl h2 h3 (h4.known ?_) rfl rfl
       rw[q2];exact .p _ _ (.sc _)
      exact⟨known true,known false⟩
     |true=>
      dsimp only
      cases hb:bb==want with
      |true=>exact HA (c:=⟨f,.ops bV ops i true::k,st⟩) h4 h1 h2 h3 ho (q1.trans hb) hk
      |false=>
       dsimp only
       cases hf:fits st o.dst with
       |false=>trivial
       |true=>exact skip (q1.trans hb) hf
  |code i code=>
   cases code with
   |skip=>exact eO.quiet (c':=⟨f,k,st⟩) (fun cs=> .one stepR_skip) hk h1 rfl h2 h3 h4 rfl rfl
   |region id ops draw=>
    cases draw with
    |true=>
     simp only[Am.step]
     split
     · rename_i st' ok hq
       intro hok cs
       subst hok
       obtain⟨g',a',w',r1,r2,r3,r4,r5,r6,r7⟩:=Qt (b:=b) (k:=dV k) h4 hq
       refine⟨g',_,w',r1 cs,dN.mk (a:=a') (c:=⟨f,k,{st' with cA:=st.cA,bX:=st.bX}⟩) hk h1 (h2.ext r7) (by rw[r2];exact h3.ext r7) ⟨r3.tm,r3.nt,r3.rel,r3.fix,r3.dg⟩,r4,r5,rfl,r6,rfl⟩
     · split
       · rename_i sts hq
         obtain⟨st',hm,g',a',w',r1,r2,r3,r4,r5,r6,r7⟩:=Qz (b:=b) (k:=dV k) (bV:=id) h4 hq
         intro cs
         exact⟨_,eh.2 ⟨st',hm,rfl⟩,g',_,w',r1 cs,dN.mk (a:=a') (c:=⟨f,k,{st' with cA:=st.cA,bX:=st.bX}⟩) hk h1 (h2.ext r7) (by rw[r2];exact h3.ext r7) ⟨r3.tm,r3.nt,r3.rel,r3.fix,r3.dg⟩,r4,r5,rfl,r6,rfl⟩
       intro O st' hO hq cs
       obtain⟨g',a',w',r1,r2,r3,r4,r5,r6,r7⟩:=Uw (b:=b) (k:=k) hO h4 hq cs
       have hk' : ∀y∈iH id ops k,It.pl y:=by
        unfold iH
        cases sQ ops with
        |false=>exact hk
        |true=>exact nf trivial hk
       exact⟨g',_,w',r1,dN.mk (a:=a') (c:=⟨f,iH id ops k,{st' with cA:=st.cA,bX:=st.bX}⟩) hk' h1 (h2.ext r7) (by rw[r2];exact h3.ext r7) ⟨r3.tm,r3.nt,r3.rel,r3.fix,r3.dg⟩,r4,r5,rfl,r6,rfl⟩
    |false=>
     refine eO.quiet (c':=⟨f,.ops id ops 0 false::k,st⟩) (fun cs=> .one ?_) (nf trivial hk) h1 rfl h2 h3 h4 rfl rfl
     have:=stepR_region (P:=P) (b:=b) (a:=a) (k:=dV k) (cs:=cs) (w:=w) (ops:=ops) (id:=id)
     simpa[dV,er,abD] using this
   |seq x y=>exact eO.quiet (c':=⟨f,.code i x :: .code (i+nodes x) y::k,st⟩) (fun cs=> .one stepR_seq) (nf trivial (nf trivial hk)) h1 rfl h2 h3 h4 rfl rfl
   |cond x y z=>
    simp only[Am.step]
    split
    · rename_i t hx
      have hv:=gw h4 x
      rw[hx,VA.pv] at hv
      generalize hz:a.eval x=cv at hv
      cases hv
      refine⟨fun e=> ?_,fun e=> ?_⟩<;>subst e
      · refine eO.quiet (c':=⟨f,.code (i+1) y::eY (E.keep f (2*i)) k,st⟩) (fun cs=> .one ?_) (nf trivial (oh hk)) h1 rfl h2 h3 h4 rfl rfl
        simp only[dV,og];exact stepR_cond hz
      · refine eO.quiet (c':=⟨f,.code (i+1+nodes y) z::eY (E.keep f (2*i)) k,st⟩) (fun cs=> .one ?_) (nf trivial (oh hk)) h1 rfl h2 h3 h4 rfl rfl
        simp only[dV,og];exact stepR_cond hz
    · trivial
   |block id body=>exact eO.quiet (c':=⟨f,.code i body :: .inBlock id::k,st⟩) (fun cs=> .one stepR_block) (nf trivial (nf trivial hk)) h1 rfl h2 h3 h4 rfl rfl
   |loop body=>
    intro cs
    obtain⟨g',q1,q2,q3,q4,q5,q6⟩:=xD h4 (E.keep f (2*i))
    refine⟨g',b.atR a (dV (.code (i+1) body :: .inLoop i body::eY (E.keep f (2*i+1)) k)),w,.one ?_,dN.mk (c:=⟨f,.code (i+1) body :: .inLoop i body::eY (E.keep f (2*i+1)) k,iN (E.keep f (2*i)) st⟩) (nf trivial (nf trivial (oh hk))) h1 (q6 _ h2) (q5 _ h3) q1,q2,q3,rfl,q4,uH⟩
    simp only[dV,og];exact stepR_loop
   |exit id=>
    simp only[Am.step]
    split
    · rename_i k' hk'
      exact eO.quiet (c':=⟨f,k',st⟩) (fun cs=> .one (stepR_exit (dK hk'))) (ql hk hk') h1 rfl h2 h3 h4 rfl rfl
    · rename_i hx
      split
      · rename_i j hr
        rw[hr] at h2
        obtain⟨hk,l,hl,hro⟩:=h2
        exact om (c:=⟨f,.code i (.exit id)::k,st⟩) h4 hr hl h1 fun v w' hrun d cs=>stepR_round_exit hro hk (cZ hx) hrun
      · trivial
   |scope bd=>exact eO.quiet (c':=⟨f,.code i bd :: .inScope bd::k,st⟩) (fun cs=> .one (step_lone_go (by simp[stepG,stepG.exec,zr,dV,er]))) (nf trivial (nf trivial hk)) h1 rfl h2 h3 h4 rfl rfl
   |label l=>exact eO.quiet (c':=⟨f,k,st⟩) (fun cs=> .one stepR_label) hk h1 rfl h2 h3 h4 rfl rfl
   |goto l=>
    simp only[Am.step]
    split
    · rename_i k' hk'
      exact eO.quiet (c':=⟨f,k',st⟩) (fun cs=> .one (stepR_goto (dL hk'))) (qk hk hk') h1 rfl h2 h3 h4 rfl rfl
    · trivial
   |rangeFunc x ps as bd=>
    simp only[Am.step]
    split
    · rename_i hr
      have h2':=h2
      rw[hr] at h2'
      unfold Hh
      split
      · rename_i gf first captured hx
        dsimp only
        cases hlt:iT (close (dM st f ps as bd) 0 (first++[.vy (st.mem.length+1)]++captured)) (dM st f ps as bd).length with
        |false=>trivial
        |true=>
         subst h1
         intro v m1 hd m2 pd hend cs
         obtain⟨g',a',w',s1,s2,s3,s4,s5,s6⟩:=LO (P:=P) (k:=dV k) h4 h2'.2 h3 hx hlt hd hend cs
         have e:(pd.map Item.code).toList++dV k=dV (behind ⟨b.fn,k,{st with mem:=dM st b.fn ps as bd,cA:= .range st.mem.length::st.cA}⟩ m2 pd).todo:=by
          cases pd<;>rfl
         rw[e] at s1
         refine⟨g',_,w',s1,dN.mk (a:=a') (c:=behind ⟨b.fn,k,{st with mem:=dM st b.fn ps as bd,cA:= .range st.mem.length::st.cA}⟩ m2 pd) ?_ rfl (h2.ext s6) s2 s3,s4,s5,rfl,rfl,rfl⟩
         cases pd with
         |none=>exact hk
         |some code=>exact nf trivial hk
      · trivial
    · trivial
   |ret=>
    simp only[Am.step]
    split
    · rename_i j hr
      rw[hr] at h2
      obtain⟨hk,l,hl,hro⟩:=h2
      exact om (c:=⟨f,.code i .ret::k,st⟩) h4 hr hl h1 fun v w' hrun d cs=>stepR_round_ret hro hk hrun
    · rename_i xg
      have xg : ∀i,st.bX ≠ .round i:=fun i e=>xg i e
      exact Az (c:=⟨f,.code i .ret::k,st⟩) (b:=b) (a:=a) (todo:= .code .ret::dV k) h4 h2 xg h1 h3 fun cs=> .one (stepR_ret (h2.B7 xg))
   |_=>trivial
end
end Go.Am
end
section
namespace Go.Am
open Go.RowKit
def gI (P:Program):Prop:= ∀(f:FuncId) (fn:Func),P.funcs[f]? = some fn→(fn.name == "runtime.NumGoroutine")=false
def cO (P:Program) (E:Env) (c:cw) (o:Out):Prop:=
 ∀(g:Gh) (fr:Frame) (w:World) (cs:List Frame),dN P E g c fr w→match o with
  |.ret v m'=> ∃g' fr' w' cv w2,Steps P (lone fr cs w) (lone fr' cs w')∧Ly P c.st.bX fr' w' cv w2∧fr'.fn=c.f∧VA g' w2 v cv∧Rel g' m' w2∧dm g c.st.mem w g' m' w2∧bJ g g' c.st.fix∧c.st.fix≤m'.length
  |.za v m'=> ∃g' fr' w' cv,Steps P (lone fr cs w) (lone fr' cs w')∧fr'.leaving P w' (.panicked [{v:=cv,recovered:=false}])∧fr'.fn=c.f∧VA g' w' v cv∧Rel g' m' w'∧dm g c.st.mem w g' m' w'∧bJ g g' c.st.fix∧c.st.fix≤m'.length
section
variable {P:Program} {E:Env}
theorem cO.bn {c c':cw} {o:Out} (hg : ∀g fr w,dN P E g c fr w→eO P E g c fr w c') (h:cO P E c' o):cO P E c o:=by
 intro g fr w cs hc
 obtain⟨g',fr',w',q1,q2,q3,q4,q5,q6,q7⟩:=hg g fr w hc cs
 cases o with
 |ret v m'=>
  obtain⟨g2,QA,w2,cv,w3,r1,r2,r3,r4,r5,r6,r7,r8⟩:=h g' fr' w' cs q2
  refine⟨g2,QA,w2,cv,w3,q1.trans r1,by rw[←q7];exact r2,r3.trans q5,r4,r5,q3.trans r6,q4.trans ?_,by rw[←q6];exact r8⟩
  rw[←q6];exact r7
 |za v m'=>
  obtain⟨g2,QA,w2,cv,r1,r2,r3,r4,r5,r6,r7,r8⟩:=h g' fr' w' cs q2
  refine⟨g2,QA,w2,cv,q1.trans r1,r2,r3.trans q5,r4,r5,q3.trans r6,q4.trans ?_,by rw[←q6];exact r8⟩
  rw[←q6];exact r7
theorem qm : ∀n,upTo n=List.range n
 |0=>rfl
 |n+1=>by rw[upTo,qm n,List.range_succ]
theorem qn : ∀(l:List AV) (s k:Nat),look ((xi s l.length).zip l) k=if s≤k then l.getD (k-s) .ah else .ah
 |[],s,k=>by simp[look]
 |v::l,s,k=>by
  simp only[List.length_cons,List.range'_succ,abF,jM]
  by_cases e:s=k
  · subst e;simp
  · simp only[e,if_false]
    rw[qn l (s+1) k]
    by_cases h:s+1≤k
    · have h1:s≤k:=by omega
      have h2:k-s=(k-(s+1))+1:=by omega
      simp[h,h1,h2]
    · have h1 : ¬s≤k:=by omega
      simp[h,h1]
def FN:Bool→Ts
 |false=> .call
 |true=> .late
def kindOf:Bool→CallKind
 |false=> .normal
 |true=> .deferred
theorem dN.LP {g:Gh} {w:World} {f:FuncId} {args:List AV} {m:Mem} {c:cw} {cY:Array Value} (z:Bool) (hi:init P f args m=some c) (hr:Rel g m w) (ha:cL g w args cY.toList) (hg:gk E g w) :
  dN P E g {c with st:={c.st with bX:=FN z}} (xv P f cY (kindOf z)) w:=by
 unfold init at hi
 split at hi
 · rename_i fn hf
   split at hi
   · rename_i body hb
     simp only[c9] at hi;subst hi
     have hlen:=ha.len
     simp only[fw] at hlen
     let b:Frame:={(default:Frame) with fn:=f,kind:=kindOf z,roundOf:=none}
     have YX:xv P f cY (kindOf z)=b.atR {tmps:=cY++Array.replicate (fn.ntmps-cY.size) undef,defers:=[]} [.code body]:=by
      simp[xv,zr,hf,hb,b]
     rw[YX]
     refine dN.mk (c:=⟨f,[.code 0 body],⟨(upTo args.length).zip args,max fn.ntmps args.length,m,m.length,[],FN z⟩⟩) (nf trivial (fun _ h=>by cases h)) rfl (by cases z<;>exact⟨rfl,rfl⟩) trivial ⟨?_,?_,hr,bx _,hg⟩
     · intro k
       rw[qm,abD,qn]
       simp only[abb,if_true,abK]
       rcases fg k args.length with hk | hk
       · rw[ch,cb hk]
         have hk':k<cY.toList.length:=by simp;omega
         have hk2:k<cY.size:=by omega
         have:=ha.get k hk hk'
         simp only[ic,xr]
         rw[Array.getElem?_append_left hk2,fv hk2]
         simpa using this
       · rw[ch,dt hk]
         exact .ah _
     · simp;omega
   · cases hi
 · cases hi
theorem rI {f:FuncId} {args:List AV} {m:Mem} {c:cw} (hi:init P f args m=some c):c.st.mem=m∧c.st.fix=m.length∧c.f=f∧c.st.bX = .call:=by
 unfold init at hi
 split at hi
 · split at hi
   · simp only[c9] at hi;subst hi;exact⟨rfl,rfl,rfl,rfl⟩
   · cases hi
 · cases hi
theorem dN.enter {g:Gh} {w:World} {f:FuncId} {args:List AV} {m:Mem} {c:cw} {cY:Array Value} (hi:init P f args m=some c) (hr:Rel g m w) (ha:cL g w args cY.toList) (hg:gk E g w) :
  dN P E g c (xv P f cY .normal) w:=by
 have h:=dN.LP (P:=P) false hi hr ha hg
 have e:({c with st:={c.st with bX:=FN false}}:cw)=c:=by
  obtain⟨_,_,_,h4⟩:=rI hi
  obtain⟨f,t,tm,nt,mem,fix,cA,bX⟩:=c
  simp only at h4
  subst h4
  rfl
 rw[e] at h
 exact h
theorem tD (hN:gI P) {f:FuncId} {args:List AV} {m:Mem} {c:cw} (hi:init P f args m=some c) : ∃fn,P.funcs[f]? = some fn∧fn.body.isSome=true∧(fn.name == "runtime.NumGoroutine")=false:=by
 unfold init at hi
 split at hi
 · rename_i fn hf
   split at hi
   · rename_i body hb
     exact⟨fn,hf,by simp[hb],hN f fn hf⟩
   · cases hi
 · cases hi
theorem pO (hN:gI P) {f:FuncId} {args:List AV} {m:Mem} {c:cw} {v:AV} {m':Mem} (hi:init P f args m=some c) (h:cO P E c (.za v m')):Lz P E f args m v m':=by
 refine⟨tD hN hi,fun g w cY cs hr ha hg=> ?_⟩
 obtain⟨g',fr',w',cv,q1,q2,q3,q4,q5,q6,q7,q8⟩:=h g _ w cs (dN.enter hi hr ha hg)
 obtain⟨e1,e2,e3,e4⟩:=rI hi
 rw[e1] at q6;rw[e2] at q7 q8;rw[e3] at q3
 exact⟨_,g',cv,fr',q1,q2,q3,q4,q5,q6,q7,q8⟩
theorem ff (hN:gI P) {f:FuncId} {args:List AV} {m:Mem} {c:cw} {v:AV} {m':Mem} (hi:init P f args m=some c) (h:cO P E c (.ret v m')):an P E f args m v m':=by
 refine⟨tD hN hi,fun g w cY cs hr ha hg=> ?_⟩
 obtain⟨g',fr',w',cv,w2,q1,q2,q3,q4,q5,q6,q7,q8⟩:=h g _ w cs (dN.enter hi hr ha hg)
 obtain⟨e1,e2,e3,e4⟩:=rI hi
 rw[e1] at q6;rw[e2] at q7 q8;rw[e3] at q3;rw[e4] at q2
 obtain⟨q2,rfl⟩:=q2
 exact⟨_,g',cv,fr',q1,q2,q3,q4,q5,q6,q7,q8⟩
theorem rJ {g:Gh} {w:World} : ∀(ds:List Nat) (vs:List AV) (rG:List Value) (tm:vQ) (t:Array Value),cL g w vs rG→ds.length=vs.length→(∀d∈ds,d<t.size)→(∀k,VA g w (look tm k) (t.getD k undef)) →
  (∀k,VA g w (look (Fl tm ds vs) k) (((ds.zip rG).foldl (fun t (q:Nat×Value)=>t.setIfInBounds q.1 q.2) t).getD k undef))∧((ds.zip rG).foldl (fun t (q:Nat×Value)=>t.setIfInBounds q.1 q.2) t).size=t.size
 |[],[],[],tm,t,_,_,_,h=>⟨h,rfl⟩
 |d::ds,v::vs,cv::rG,tm,t,hv,hl,hd,h=>by
  have hdt:=hd d (.head _)
  obtain⟨q1,q2⟩:=rJ ds vs rG ((d,v)::tm) (t.setIfInBounds d cv) hv.2 (by simpa using hl) (fun d' hd'=>by simpa using hd d' (.tail _ hd')) fun k=>by
   simp only[jM]
   by_cases hk:d=k
   · subst hk
     simp only[if_true,xr,Array.getElem?_setIfInBounds_self_of_lt hdt,ic]
     exact hv.1
   · simp only[hk,if_false,xr]
     rw[Array.getElem?_setIfInBounds_ne hk,←xr]
     exact h k
  exact⟨q1,q2.trans (by simp)⟩
 |[],_::_,_,_,_,_,hl,_,_=>by simp at hl
 |_::_,[],_,_,_,_,hl,_,_=>by simp at hl
 |[],[],_::_,_,_,h,_,_,_=>h.elim
 |_::_,_::_,[],_,_,h,_,_,_=>h.elim
theorem pP {args:List AV} {m:Mem} {c:cw} {v:AV} {m':Mem} (hi:Dc args m=some c) (h:cO P E c (.ret v m')):Hz P E args m v m':=by
 intro g w i l xs Ql d cs hargs hr hl hx hg
 subst hargs
 unfold Dc at hi
 dsimp only at hi
 split at hi
 · rename_i f ps as bd s pd vals hb
   cases hc:(ae xs.length ps.toList.length&&iT ps.toList vals.length) with
   |false=>rw[hc] at hi;cases hi
   |true=>
    rw[hc] at hi
    simp only[cond_true,c9] at hi
    simp only[c8] at hc
    have hlen:=ai hc.1
    have hlt:=fQ hc.2
    have hib:=getD_some hb (by simp)
    obtain⟨c0,ob,vs,k1,k2,k3,k4,_⟩:=hr.obs i _ _ hib
    rw[hl] at k1;cases k1
    obtain⟨D,rfl⟩:=k4
    have hxl:=hx.len
    simp only[fw] at hxl
    have hvl:=k3.len
    have FO:=run_yield (P:=P) (args:=Ql) k2 (by show Ql.size=ps.size;simp at hlen;omega)
    dsimp only at FO
    have Hq:(ps.zip Ql).foldl (fun tmps (t,a)=>tmps.setIfInBounds t a) vs.toArray=(ps.toList.zip Ql.toList).foldl (fun t (q:Nat×Value)=>t.setIfInBounds q.1 q.2) vs.toArray:=by
     rw[←Array.foldl_toList,Array.toList_zip]
    rw[Hq] at FO
    obtain⟨t1,t2⟩:=rJ ps.toList xs Ql.toList ((upTo vals.length).zip vals) vs.toArray hx hlen.symm (fun d hd=>by have:=hlt d hd;simp;omega) fun k=>by
     rw[qm,abD,qn]
     simp only[abb,if_true,abK]
     rcases fg k vals.length with hk | hk
     · rw[ch,cb hk]
       have hk':k<vs.length:=by omega
       have:=k3.get k hk hk'
       simp only[ic,xr]
       simpa[hk'] using this
     · rw[ch,dt hk]
       exact .ah _
    generalize (ps.toList.zip Ql.toList).foldl (fun t (q:Nat×Value)=>t.setIfInBounds q.1 q.2) vs.toArray=T at *
    let b:Frame:={(default:Frame) with fn:=f,kind:= .normal,roundOf:=some l}
    have YX:abM l f T as bd .normal=b.atR {tmps:=T,defers:=[]} (dV c.todo):=by
     rw[←hi]
     simp[abM,zr,dV,er,b]
    have Uz:dN P E g c (abM l f T as bd .normal) w:=by
     rw[YX]
     subst hi
     exact dN.mk (nf trivial (nf trivial (nf trivial fun _ h=>by cases h))) rfl ⟨rfl,l,hl,rfl⟩ trivial ⟨t1,by rw[t2];simp;omega,hr,bx _,hg⟩
    have hm:c.st.mem=m∧c.st.fix=m.length∧c.st.bX = .round i:=by subst hi;exact⟨rfl,rfl,rfl⟩
    obtain⟨e1,e2,e3⟩:=hm
    obtain⟨g',fr',w',cv,w2,q1,q2,q3,q4,q5,q6,q7,q8⟩:=h g _ w (d::cs) Uz
    rw[e1] at q6;rw[e2] at q7 q8;rw[e3] at q2
    exact⟨f,T,as,bd,w2,g',cv,FO,q1.trans (q2 d cs),q4,q5,q6,q7,q8⟩
 · cases hi
theorem AB {c:cw} {o:Out} (h:Am.step P E c = .done o):cO P E c o:=by
 intro g fr w cs hc
 have hs:=ia hc
 rw[h] at hs
 cases o with
 |ret v m'=>
  obtain⟨h1,rfl,cv,w2,h2,h3,h4,h6,h5⟩:=hs
  exact⟨g,fr,w,cv,w2,abC _ _,h2,h1,h3,h4,h6,bJ.refl _ _,h5⟩
 |za v m'=>
  obtain⟨h1,rfl,cv,h2,h3,h4,h5⟩:=hs
  exact⟨g,fr,w,cv,abC _ _,h2,h1,h3,h4,dm.refl _ _ _,bJ.refl _ _,h5⟩
theorem tE {c c':cw} (h:Am.step P E c = .next c') : ∀g fr w,dN P E g c fr w→eO P E g c fr w c':=by
 intro g fr w hc
 have hs:=ia hc
 rw[h] at hs;exact hs
theorem AD {c c':cw} (h:Am.step P E c = .must true c') : ∀g fr w,dN P E g c fr w→eO P E g c fr w c':=by
 intro g fr w hc
 have hs:=ia hc
 rw[h] at hs;exact hs rfl
theorem AE {c y z:cw} {b:Bool} (h:Am.step P E c = .test b y z) : ∀g fr w,dN P E g c fr w→eO P E g c fr w (match b with | true=>y | false=>z):=by
 intro g fr w hc
 have hs:=ia hc
 rw[h] at hs
 cases b with
 |true=>exact hs.1 rfl
 |false=>exact hs.2 rfl
theorem lP {c c':cw} {f:FuncId} {args:List AV} {m:Mem} {ord:List Nat} {dst:Option Tmp} {v:AV} {m1:Mem} (h:Am.step P E c = .call f args m ord dst c') (hd:an P E f args m v m1) :
  ∀g fr w,dN P E g c fr w→eO P E g c fr w {c' with st:=back ord dst c'.st v m1}:=by
 intro g fr w hc
 have hs:=ia hc
 rw[h] at hs
 exact hs.1 v m1 hd
theorem uI {c c':cw} {f:FuncId} {args:List AV} {m:Mem} {ord:List Nat} {dst:Option Tmp} {v:AV} {m1:Mem} (h:Am.step P E c = .call f args m ord dst c') (hd:Lz P E f args m v m1) :
  ∀g fr w,dN P E g c fr w→eO P E g c fr w (nF ord c' v m1):=by
 intro g fr w hc
 have hs:=ia hc
 rw[h] at hs
 exact hs.2 v m1 hd
theorem AF {c c':cw} {f:FuncId} {args:List AV} {m:Mem} {ord:List Nat} {pv:Option AV} {m1:Mem} (h:Am.step P E c = .late f args m ord pv c') (hd:LB P E f args m pv m1) :
  ∀g fr w,dN P E g c fr w→eO P E g c fr w {c' with st:=back ord none c'.st (.au []) m1}:=by
 intro g fr w hc
 have hs:=ia hc
 rw[h] at hs
 exact hs m1 hd
theorem j9 {b:Frame} {a:Act} {cs:List Frame} {w:World} : ∀(n:Nat) (t t':List It),wq n t=some t'→(∀x∈t,It.pl x)→Steps P (lone (b.atR a (dV t)) cs w) (lone (b.atR a (dV t')) cs w) ∧ ∀x∈t',It.pl x
 |0,_,_,h,_=>by cases h
 |n+1,t,t',h,hp=>by
  unfold wq at h
  split at h
  · simp only[c9] at h;subst h
    exact⟨abC _ _,hp⟩
  · obtain⟨h1,h2⟩:=j9 n _ t' h (nf trivial (nf trivial fun y hy=>hp y (.tail _ hy)))
    exact⟨.head stepR_seq h1,h2⟩
  · rename_i id ops k
    obtain⟨h1,h2⟩:=j9 n _ t' h (nf trivial fun y hy=>hp y (.tail _ hy))
    refine⟨.head ?_ h1,h2⟩
    have:=stepR_region (P:=P) (b:=b) (a:=a) (k:=dV k) (cs:=cs) (w:=w) (ops:=ops) (id:=id)
    simpa[dV,er,abD] using this
  · obtain⟨h1,h2⟩:=j9 n _ t' h (nf trivial (nf trivial fun y hy=>hp y (.tail _ hy)))
    exact⟨.head (step_lone_go (by simp[stepG,stepG.exec,zr,dV,er])) h1,h2⟩
  · obtain⟨h1,h2⟩:=j9 n _ t' h (nf trivial (nf trivial fun y hy=>hp y (.tail _ hy)))
    exact⟨.head stepR_block h1,h2⟩
  · cases h
theorem Cg {b:Frame} {a:Act} {k:List Item} {c0:Frame} {cs:List Frame} {w:World} {ops:Array Oper} {i:Nat} {rest:List Nat} {o:Oper} {rA:Option Value} (hk:b.kind = .deferred) (hb:b.roundOf=none) (ho:ops[i]? = some o) (hr:isRec o=true)
  (h0:c0.mode=cT rA false) :
  _root_.Go.step P (lone (b.atR a (.inRegion ops (i::rest)::k)) (c0::cs) w) = .next (lone (b.atR (a.put o.dst (rA.getD .nilIface)) (.inRegion ops rest::k)) ({c0 with mode:=cT rA true}::cs) w):=by
 unfold isRec at hr
 split at hr
 · rename_i c hop hgd
   split at hr
   · rename_i zJ acC
     have kG:c.args = #[]:=by have:=congrArg List.toArray acC;simpa using this
     have hw:Region.wanted o (yielded ops a.tmps)=true:=by unfold Region.wanted;rw[hgd]
     have hg:=stepGR_op (P:=P) (b:=b) (k:=k) (cs:=c0::cs) (w:=w) (rest:=rest) ho hw
     have hrun:(o.semAt b.roundOf a.eval).run P w = .ok .recover w:=by
      rw[hb]
      simp only[Oper.semAt,execOp,hop,resolve,zJ,kG,iv,ja,jb,invoke,builtin]
     have nW : ∀v,(b.atR a (.inRegion ops (i::rest)::k)).finish v=b.atR (a.put o.dst v) (.inRegion ops rest::k):=fun v=>by rw[Frame.finish_atR,ho];rfl
     have hkk:(b.atR a (.inRegion ops (i::rest)::k)).kind = .deferred:=hk
     have TE:=tryRecover_deferred hkk (c0::cs)
     have hro:(b.atR a (.inRegion ops (i::rest)::k)).roundOf=none:=hb
     refine step_lone_go ?_
     rw[hg]
     cases rA with
     |none=>
      have e:recoverD (c0::cs)=none:=by unfold recoverD;simp only[h0,cT]
      rw[e] at TE
      have h00:({c0 with mode:=cT none true}:Frame)=c0:=by rw[show cT none true=c0.mode from h0.symm]
      rw[h00]
      simp only[stepG.apply,abI,hrun,hro,TE,GStep.bare_after,GStep.bare_go,nW,Option.getD_none,if_true]
     |some v=>
      have e:recoverD (c0::cs)=some (v,{c0 with mode:=cT (some v) true}::cs):=by unfold recoverD;simp only[h0,cT]
      rw[e] at TE
      simp only[stepG.apply,abI,hrun,hro,TE,GStep.bare_after,GStep.bare_go,nW,ic,if_true]
   · cases hr
 · cases hr
theorem pQ (hN:gI P) {f:FuncId} {args:List AV} {m:Mem} {pv:Option AV} {c:cw} {v:AV} {m':Mem} (hi:De P f args m pv=some c) (h:cO P E c (.ret v m')):LB P E f args m pv m':=by
 unfold De at hi
 split at hi
 · rename_i c0 fj
   split at hi
   · rename_i t1 hi1
     refine⟨tD hN fj,fun g w cY rA fr0 cs h0 Ft hr ha hg=> ?_⟩
     obtain⟨e1,e2,e3,_⟩:=rI fj
     have YX:=dN.LP (P:=P) true fj hr ha hg
     have YY : ∃body,c0.todo=[.code 0 body]:=by
      unfold init at fj
      split at fj
      · split at fj
        · simp only[c9] at fj;subst fj;exact⟨_,rfl⟩
        · cases fj
      · cases fj
     obtain⟨body,hbody⟩:=YY
     obtain⟨f0,t0,gH⟩:=c0
     simp only at hbody e1 e2 e3 hi1 hi
     subst hbody
     obtain⟨b,a,hfr,h1,h2,h3,h4,hk⟩:=YX
     simp only at h1 h2 h3 h4 hk
     obtain⟨UA,KP⟩:=j9 (P:=P) (b:=b) (a:=a) (cs:=fr0::cs) (w:=w) 20 _ _ hi1 hk
     have acD:xv P f cY .deferred=b.atR a (dV [It.code 0 body]):=hfr
     rw[acD]
     unfold Tt at hi
     simp only at hi
     split at hi
     · rename_i bV ops i sure k
       split at hi
       · rename_i o ho
         have hlt:i<ops.size:=by
          rcases fg i ops.size with q | q
          · exact q
          · rw[Ha q] at ho;cases ho
         have hk' : ∀y∈k,It.pl y:=fun y hy=>KP y (.tail _ hy)
         cases hb:(isRec o&&fits {gH with bX:= .late} o.dst) with
         |false=>rw[hb] at hi;cases hi
         |true=>
          rw[hb] at hi
          simp only[cond_true,c9] at hi
          simp only[c8] at hb
          have hstep:=Cg (P:=P) (a:=a) (k:=dV k) (cs:=cs) (w:=w) (rest:=xi (i+1) (ops.size-(i+1))) (rA:=rA) h2.1 h2.2 ho hb.1 h0
          have zz:VA g w (pv.getD (.p (.sc .nilIface))) (rA.getD .nilIface):=by
           cases pv with
           |none=>cases rA with
            |none=>exact .p _ _ (.sc _)
            |some _=>exact Ft.elim
           |some u=>cases rA with
            |none=>exact Ft.elim
            |some cv=>exact Ft
          have hput:=h4.put (m':=gH.mem) hb.2 zz (Ext.refl g w) h4.rel h4.fix
          have hcr:dN P E g c (b.atR (a.put o.dst (rA.getD .nilIface)) (.inRegion ops (xi (i+1) (ops.size-(i+1)))::dV k)) w:=by
           subst hi
           exact dN.mk (c:=⟨f0,.ops bV ops (i+1) false::k,put {gH with bX:= .late} o.dst (pv.getD (.p (.sc .nilIface)))⟩) (nf trivial hk') h1 (by rw[jA];exact h2) (h3.put (st:={gH with bX:= .late}) (st':={gH with bX:= .late}) (Ext.refl g w) rfl) hput
          obtain⟨g2,QA,w2,cv,w3,r1,r2,r3,r4,r5,r6,r7,r8⟩:=h g _ w ({fr0 with mode:=cT rA true}::cs) hcr
          have hc:c.st.mem=m∧c.st.fix=m.length∧c.st.bX = .late:=by
           subst hi
           refine⟨?_,?_,?_⟩
           · rw[←e1]
             show(put {gH with bX:= .late} o.dst _).mem=gH.mem
             unfold Am.put;cases o.dst<;>rfl
           · rw[←e2]
             show(put {gH with bX:= .late} o.dst _).fix=gH.fix
             unfold Am.put;cases o.dst<;>rfl
           · show(put {gH with bX:= .late} o.dst _).bX = .late
             rw[jA]
          obtain⟨c1,c2,c3⟩:=hc
          rw[c3] at r2
          obtain⟨⟨r2,r2'⟩,rfl⟩:=r2
          rw[c1] at r6
          rw[c2] at r7 r8
          refine⟨_,g2,cv,QA,UA.trans (.head ?_ r1),r2,r2',r5,r6,r7,r8⟩
          have he:dV (.ops bV ops i sure::k) = .inRegion ops (i::xi (i+1) (ops.size-(i+1)))::dV k:=by
           simp only[dV,er,nV hlt,abE,QP]
          rw[he]
          exact hstep
       · cases hi
     · cases hi
   · cases hi
 · cases hi
theorem xF {c c':cw} {args:List AV} {m:Mem} {ord:List Nat} {dst:Option Tmp} {v:AV} {m1:Mem} (h:Am.step P E c = .round args m ord dst c') (hd:Hz P E args m v m1) :
  ∀g fr w,dN P E g c fr w→eO P E g c fr w {c' with st:=back ord dst c'.st v m1}:=by
 intro g fr w hc
 have hs:=ia hc
 rw[h] at hs
 exact hs v m1 hd
theorem qo {c c':cw} {f:FuncId} {args:List AV} {m:Mem} {ord:List Nat} {L:Nat} {v:AV} {m1 m2:Mem} {pd:Option Code} (h:Am.step P E c = .range f args m ord L c') (hd:an P E f args m v m1)
  (he:gm (back ord none c'.st v m1).mem L=some (m2,pd)) : ∀g fr w,dN P E g c fr w→eO P E g c fr w (behind c' m2 pd):=by
 intro g fr w hc
 have hs:=ia hc
 rw[h] at hs
 exact hs v m1 hd m2 pd he
theorem cO.UB {c:cw} {l:List cw} {o:Out} (hg : ∀g fr w,dN P E g c fr w→B8 P E g c fr w l) (h : ∀c'∈l,cO P E c' o):cO P E c o:=by
 intro g fr w cs hc
 obtain⟨c',hm,g',fr',w',q1,q2,q3,q4,q5,q6,q7⟩:=hg g fr w hc cs
 cases o with
 |ret v m'=>
  obtain⟨g2,QA,w2,cv,w3,r1,r2,r3,r4,r5,r6,r7,r8⟩:=h c' hm g' fr' w' cs q2
  refine⟨g2,QA,w2,cv,w3,q1.trans r1,by rw[←q7];exact r2,r3.trans q5,r4,r5,q3.trans r6,q4.trans ?_,by rw[←q6];exact r8⟩
  rw[←q6];exact r7
 |za v m'=>
  obtain⟨g2,QA,w2,cv,r1,r2,r3,r4,r5,r6,r7,r8⟩:=h c' hm g' fr' w' cs q2
  refine⟨g2,QA,w2,cv,q1.trans r1,r2,r3.trans q5,r4,r5,q3.trans r6,q4.trans ?_,by rw[←q6];exact r8⟩
  rw[←q6];exact r7
theorem Jv {c:cw} {l:List cw} (h:Am.step P E c = .fork l) : ∀g fr w,dN P E g c fr w→B8 P E g c fr w l:=by
 intro g fr w hc
 have hs:=ia hc
 rw[h] at hs;exact hs
theorem tF {c c':cw} {bV:Nat} {ops:Array Oper} {O:FuncId→List AV→Mem→Option (AV×Mem)} {st':St} (h:Am.step P E c = .draw bV ops c') (hO : ∀g args m v m1,O g args m=some (v,m1)→an P E g args m v m1)
  (hq:jW P E c'.f bV O ops c'.st=some (st',true)) : ∀g fr w,dN P E g c fr w→eO P E g c fr w {c' with st:={st' with cA:=c'.st.cA,bX:=c'.st.bX}}:=by
 intro g fr w hc
 have hs:=ia hc
 rw[h] at hs
 exact hs O st' hO hq
def dY (P:Program) (E:Env) (l:List bQ):Prop:= ∀q∈l,an P E q.g q.args q.m q.v q.m'
theorem rK {K:List bQ} (hK:dY P E K) {g:FuncId} {args:List AV} {m:Mem} {r:AV×Mem} (h:mz K g args m=some r):an P E g args m r.1 r.2:=by
 induction K with
 |nil=>cases h
 |cons q K ih=>
  simp only[mz] at h
  cases hb:(ae q.g g&&(jS args q.args&&qJ m q.m)) with
  |true=>
   rw[hb] at h
   simp only[cond_true,c9] at h
   subst h
   simp only[c8] at hb
   obtain⟨h1,h2,h3⟩:=hb
   have h1:=ai h1
   have h2:=fI h2
   have h3:=lH h3
   subst h1;subst h2;subst h3
   exact hK q (.head _)
  |false=>
   rw[hb] at h
   exact ih (fun x hx=>hK x (.tail _ hx)) h
theorem LQ {o p:Out} (h:Dd o p=true):o=p:=by
 cases o with
 |ret v m=>cases p with
  |ret u n=>
   simp only[Dd,c8] at h
   rw[kO h.1,lH h.2]
  |za u n=>cases h
 |za v m=>cases p with
  |ret u n=>cases h
  |za u n=>
   simp only[Dd,c8] at h
   rw[kO h.1,lH h.2]
theorem AG : ∀{l:List (Option Out)} {o:Out},agree l=some o → ∀x∈l,x=some o
 |[],_,h,_,_=>by cases h
 |[x],o,h,y,hy=>by
  cases hy with
  |head=>exact h
  |tail _ hy=>cases hy
 |x::y::r,o,h,z,hz=>by
  simp only[agree] at h
  split at h
  · rename_i o1 p1 h1
    cases hb:Dd o1 p1 with
    |false=>rw[hb] at h;cases h
    |true=>
     rw[hb] at h
     simp only[cond_true,c9] at h
     subst h
     cases hz with
     |head=>rw[LQ hb]
     |tail _ hz=>exact AG h1 z hz
  · cases h
theorem bS (hN:gI P) {K:List bQ} (hK:dY P E K) : ∀(n:Nat) (c:cw) (o:Out),exec P E K n c=some o→cO P E c o
 |0,_,_,h=>by cases h
 |n+1,c,o,h=>by
  unfold exec at h
  split at h
  · rename_i c' hs;exact cO.bn (tE hs) (bS hN hK n c' o h)
  · rename_i b c' hs
    cases b with
    |false=>cases h
    |true=>exact cO.bn (AD hs) (bS hN hK n c' o h)
  · rename_i b y z hs
    have:=AE hs
    cases b with
    |true=>exact cO.bn this (bS hN hK n y o h)
    |false=>exact cO.bn this (bS hN hK n z o h)
  · rename_i g args m ord dst c' hs
    split at h
    · rename_i v m1 hk
      exact cO.bn (lP hs (rK hK hk)) (bS hN hK n _ o h)
    · split at h
      · rename_i ci hi
        split at h
        · rename_i v m1 he
          have hd:=ff hN hi (bS hN hK n ci _ he)
          exact cO.bn (lP hs hd) (bS hN hK n _ o h)
        · rename_i u m1 he
          have hd:=pO hN hi (bS hN hK n ci _ he)
          exact cO.bn (uI hs hd) (bS hN hK n _ o h)
        · cases h
      · cases h
  · rename_i g args m ord pv c' hs
    split at h
    · rename_i ci hi
      split at h
      · rename_i v m1 he
        have hd:=pQ hN hi (bS hN hK n ci _ he)
        exact cO.bn (AF hs hd) (bS hN hK n _ o h)
      · cases h
    · cases h
  · rename_i args m ord dst c' hs
    split at h
    · rename_i ci hi
      split at h
      · rename_i v m1 he
        have hd:=pP hi (bS hN hK n ci _ he)
        exact cO.bn (xF hs hd) (bS hN hK n _ o h)
      · cases h
    · cases h
  · rename_i g args m ord L c' hs
    split at h
    · rename_i ci hi
      split at h
      · rename_i v m1 he
        split at h
        · rename_i m2 pd hend
          have hd:=ff hN hi (bS hN hK n ci _ he)
          exact cO.bn (qo hs hd hend) (bS hN hK n _ o h)
        · cases h
      · cases h
    · cases h
  · rename_i bV ops c' hs
    split at h
    · rename_i st' ok hq
      cases ok with
      |false=>cases h
      |true=>
       refine cO.bn (tF hs (fun g args m v m1 hO=> ?_) hq) (bS hN hK n _ o h)
       split at hO
       · rename_i r hk
         simp only[c9] at hO
         subst hO
         exact rK hK hk
       · split at hO
         · rename_i ci hi
           split at hO
           · rename_i v' Jm he
             simp only[c9,iu] at hO
             obtain⟨rfl,rfl⟩:=hO
             exact ff hN hi (bS hN hK n ci _ he)
           · cases hO
         · cases hO
    · cases h
  · rename_i l hs
    exact cO.UB (Jv hs) fun c' fO=>bS hN hK n c' o (AG h _ (eh.2 ⟨c',fO,rfl⟩))
  · rename_i o' hs
    simp only[c9] at h;subst h
    exact AB hs
  · cases h
theorem zN (hN:gI P) {K:List bQ} (hK:dY P E K) {n:Nat} {f:FuncId} {args:List AV} {m m':Mem} {v:AV} (h:Hl P E K n f args m=some (.ret v m')):an P E f args m v m':=by
 unfold Hl at h
 split at h
 · rename_i c hi;exact ff hN hi (bS hN hK n c _ h)
 · cases h
theorem fq:dY P E []:=fun _ hq=>by cases hq
theorem cU {q:bQ} {K:List bQ} (h:an P E q.g q.args q.m q.v q.m') (hK:dY P E K):dY P E (q::K):=by
 intro x hx
 cases hx with
 |head=>exact h
 |tail _ hx=>exact hK x hx
def LR (P:Program) (E:Env) (c:cw):Fin→Prop
 |.out o=>cO P E c o
 |.at c'=> ∀o,cO P E c' o→cO P E c o
theorem LR.bn {c c':cw} {r:Fin} (hg : ∀g fr w,dN P E g c fr w→eO P E g c fr w c') (h:LR P E c' r):LR P E c r:=by
 cases r with
 |out o=>exact cO.bn hg h
 | «at» c2=>exact fun o ho=>cO.bn hg (h o ho)
end
end Go.Am
end
section
namespace Go.Am
noncomputable section
abbrev OpT:=Program→(Nat→aU)→Bool→Nat→(Operand→AV)→Oper→kF
def YZ (P:Program) (rd:Nat→aU) (wr:Bool) (aZ:Nat) (ρ:Operand→AV) (o:Oper):kF:=ug P rd wr aZ ρ o
def TF (x:Operand) (_:Program) (_:Nat→aU) (_:Bool) (_:Nat) (ρ:Operand→AV) (_:Oper):kF:=some (ρ x,[],true)
def Y0 (t:TypeId) (a:Operand) (P:Program) (rd:Nat→aU) (_:Bool) (_:Nat) (ρ:Operand→AV) (_:Oper):kF:=hH (kY P rd t (ρ a))
def UC (t:TypeId) (a v:Operand) (P:Program) (rd:Nat→aU) (_:Bool) (_:Nat) (ρ:Operand→AV) (_:Oper):kF:=qH P rd t (ρ a) (ρ v)
def acE (x:Operand) (P:Program) (_:Nat→aU) (_:Bool) (_:Nat) (ρ:Operand→AV) (o:Oper):kF:=jv (jR P ρ o (ρ x))
def FP (t:TypeId) (x:Operand) (f:Nat) (P:Program) (_:Nat→aU) (_:Bool) (_:Nat) (ρ:Operand→AV) (_:Oper):kF:=jv (kI P t (ρ x) f)
def UD (t:TypeId) (x:Operand) (f:Nat) (P:Program) (_:Nat→aU) (_:Bool) (_:Nat) (ρ:Operand→AV) (_:Oper):kF:=hH (vu P t (ρ x) f)
def FQ (t:TypeId) (x i:Operand) (P:Program) (_:Nat→aU) (_:Bool) (_:Nat) (ρ:Operand→AV) (_:Oper):kF:=hH (kJ P t (ρ x) (ρ i))
def UE (t:TypeId) (x i:Operand) (P:Program) (_:Nat→aU) (_:Bool) (_:Nat) (ρ:Operand→AV) (_:Oper):kF:=hH (vv P t (ρ x) (ρ i))
def LS (s d:TypeId) (x:Operand) (P:Program) (rd:Nat→aU) (_:Bool) (aZ:Nat) (ρ:Operand→AV) (o:Oper):kF:=convertOp P rd aZ ρ o s d (ρ x)
def acF (op:BinOp) (t:TypeId) (x y:Operand) (P:Program) (_:Nat→aU) (_:Bool) (_:Nat) (ρ:Operand→AV) (o:Oper):kF:=match BG y with
    |true=>vA P op t (ρ x)
    |false=>match G9 (ρ x) (ρ y) with
     |true=>He P op t (ρ x) (ρ y)
     |false=>match BF (ρ x) (ρ y) with
      |true=>oK P op t
      |false=>hH (qI P ρ o op (ρ x) (ρ y))
def oUn (op:UnOp) (x:Operand) (P:Program) (_:Nat→aU) (_:Bool) (_:Nat) (ρ:Operand→AV) (o:Oper):kF:=hH (vT P ρ o op (ρ x))
def UF (t:TypeId) (x:Operand) (lo hi mx:Option Operand) (P:Program) (_:Nat→aU) (_:Bool) (_:Nat) (ρ:Operand→AV) (_:Oper):kF:=hH (oI P ρ t (ρ x) lo hi mx)
def LU (x:Operand) (i:Nat) (_:Program) (_:Nat→aU) (_:Bool) (_:Nat) (ρ:Operand→AV) (_:Oper):kF:=match ρ x with
    |.au vs=>jv vs[i]?
    |_=>none
def UG (t:TypeId) (parts:Array (Nat×Operand)) (P:Program) (_:Nat→aU) (_:Bool) (_:Nat) (ρ:Operand→AV) (_:Oper):kF:=hH (vr P t (parts.toList.map fun q=>(q.1,ρ q.2)))
def Y1 (c a b:Operand) (_:Program) (_:Nat→aU) (_:Bool) (_:Nat) (ρ:Operand→AV) (_:Oper):kF:=match ρ c with
    |.p (.sc (.bool t))=>some (cond t (ρ a) (ρ b),[],true)
    |_=>none
def acG:Op→OpT
 |.binOp op t x y _=>acF op t x y
 |.unOp op _ x=>oUn op x
 |.slice t x lo hi mx=>UF t x lo hi mx
 |.extract x i=>LU x i
 |.build t parts=>UG t parts
 |.pick c a b=>Y1 c a b
 |.move x=>TF x
 |.assign x=>TF x
 |.load t a=>Y0 t a
 |.store t a v=>UC t a v
 |.nilCheck x=>acE x
 |.fieldAddr t x f=>FP t x f
 |.field t x f=>UD t x f
 |.indexAddr t x i=>FQ t x i
 |.index t x i=>UE t x i
 |.convert s d x=>LS s d x
 |_=>YZ
def opF (P:Program) (rd:Nat→aU) (wr:Bool) (aZ:Nat) (ρ:Operand→AV) (o:Oper):kF:=acG o.op P rd wr aZ ρ o
theorem UH (P:Program) (rd:Nat→aU) (wr:Bool) (aZ:Nat) (ρ:Operand→AV) (o:Oper):opF P rd wr aZ ρ o=ug P rd wr aZ ρ o:=by
 obtain⟨dst,op,type,pos,after,guard⟩:=o
 cases op<;>rfl
def LV (tm:vQ) (i:Nat):AV:=abH (motive:=fun _=>AV) .ah (fun p _ ih=>abJ (motive:=fun _=>AV) ih p.2 (ae p.1 i)) tm
theorem DS : ∀(tm:vQ) (i:Nat),LV tm i=look tm i
 |[],_=>rfl
 |(k,v)::r,i=>by
  show abJ (motive:=fun _=>AV) (LV r i) v (ae k i)=cond (ae k i) v (look r i)
  rw[DS r i]
  cases ae k i<;>rfl
def Y2 (t:Nat) (_:Env) (tm:vQ):AV:=LV tm t
def UI (x:Operand) (E:Env) (tm:vQ):AV:=ev E tm x
def acI:Operand→Env→vQ→AV
 |.tmp t=>Y2 t
 |.const v=>fun _ _=>KT v
 |x=>UI x
def Y3 (E:Env) (tm:vQ) (x:Operand):AV:=acI x E tm
theorem LW (E:Env) (tm:vQ):Y3 E tm=ev E tm:=by
 funext x
 cases x with
 |tmp t=>exact DS tm t
 |const v=>rfl
 |global g=>rfl
 |func f=>rfl
def FR:Op→Bool
 |.call _ | .defer _ | .panic _=>true
 |_=>false
def Ch:Op→Bool
 |.alloc _ | .box .. | .buildSlice .. | .makeSlice .. | .convert .. | .makeMap .. | .range .. =>true
 |.call c=>makes ⟨none,.call c,0,"",#[],none⟩
 |_=>false
def QB (ops:Array Oper) (i:Nat):Option Oper:=abH (motive:=fun _=>Nat→Option Oper) (fun _=>none) (fun a _ ih i=>abL (motive:=fun _=>Option Oper) (some a) (fun j _=>ih j) i) ops.toList i
theorem QC (ops:Array Oper) (i:Nat):QB ops i=ops[i]? :=by
 have : ∀(l:List Oper) (i:Nat),abH (motive:=fun _=>Nat→Option Oper) (fun _=>none) (fun a _ ih i=>abL (motive:=fun _=>Option Oper) (some a) (fun j _=>ih j) i) l i=l[i]? :=by
  intro l
  induction l with
  |nil=>intro i;rfl
  |cons a l ih=>
   intro i
   cases i with
   |zero=>rfl
   |succ i=>exact(ih i).trans (by simp)
 rw[QB,this]
 simp
def HH:kF→Option Tmp→FuncId→List It→vQ→Nat→Mem→Nat→List Mark→Ts→Ev
 |none=>fun _ _ _ _ _ _ _ _ _=> .fail
 |some (v,[],ok)=>fun dst f k tm nt mem fix cA bX=>abN (motive:=fun _=>Ev) (.must (ok&&true) ⟨f,k,⟨tm,nt,mem,fix,cA,bX⟩⟩) (fun d=> .must (ok&&ar d nt) ⟨f,k,⟨(d,v)::tm,nt,mem,fix,cA,bX⟩⟩) dst
 |some (v,us,ok)=>fun dst f k tm nt mem fix cA bX=>abN (motive:=fun _=>Ev) (.must (ok&&true) ⟨f,k,⟨tm,nt,apply mem us,fix,cA,bX⟩⟩) (fun d=> .must (ok&&ar d nt) ⟨f,k,⟨(d,v)::tm,nt,apply mem us,fix,cA,bX⟩⟩) dst
abbrev Fe (α:Type):=Program→Env→FuncId→vQ→Nat→Mem→Nat→List Mark→Ts→α
def xG (todo:List It):Fe Ev:=fun P E f tm nt mem fix cA bX=>step P E ⟨f,todo,⟨tm,nt,mem,fix,cA,bX⟩⟩
def QD (o:Oper) (bV:Nat) (ops:Array Oper) (i:Nat) (_:Bool) (k:List It):Fe Ev:=fun P E f tm nt mem fix cA bX=>
 HH (opF P (fun i=>mem.getD i .dead) (E.wr f (o.dst.getD 0)) mem.length (Y3 E tm) o) o.dst f (.ops bV ops (i+1) false::k) tm nt mem fix cA bX
def UJ (_:Oper) (bV:Nat) (ops:Array Oper) (i:Nat) (sure:Bool) (k:List It):Fe Ev:=xG (.ops bV ops i sure::k)
abbrev DoT:=Oper→Nat→Array Oper→Nat→Bool→List It→Fe Ev
def TG:Bool→Bool→Option (Nat×Bool)→DoT
 |false,false,none=>QD
 |_,_,_=>UJ
def LX:Option Oper→Nat→Array Oper→Nat→Bool→List It→Fe Ev
 |none=>fun _ _ _ _ k _ _ f tm nt mem fix cA bX=> .next ⟨f,k,⟨tm,nt,mem,fix,cA,bX⟩⟩
 |some o=>TG (FR o.op) (Ch o.op) o.guard o
def UK (i:Nat) (c:Code) (k:List It):Fe Ev:=xG (.code i c::k)
def UL (_:Nat) (k:List It):Fe Ev:=fun _ _ f tm nt mem fix cA bX=> .next ⟨f,k,⟨tm,nt,mem,fix,cA,bX⟩⟩
def Y4 (id:Nat) (ops:Array Oper) (_:Nat) (k:List It):Fe Ev:=fun _ _ f tm nt mem fix cA bX=> .next ⟨f,.ops id ops 0 false::k,⟨tm,nt,mem,fix,cA,bX⟩⟩
def Y5 (a b:Code) (i:Nat) (k:List It):Fe Ev:=fun _ _ f tm nt mem fix cA bX=> .next ⟨f,.code i a :: .code (i+nodes a) b::k,⟨tm,nt,mem,fix,cA,bX⟩⟩
def QE (id:Nat) (b:Code) (i:Nat) (k:List It):Fe Ev:=fun _ _ f tm nt mem fix cA bX=> .next ⟨f,.code i b :: .inBlock id::k,⟨tm,nt,mem,fix,cA,bX⟩⟩
def LY:AV→cw→cw→Ev
 |.p (.sc (.bool t))=>fun y z=> .test t y z
 |_=>fun _ _=> .fail
def UM (x:Operand) (a b:Code) (i:Nat) (k:List It):Fe Ev:=fun _ E f tm nt mem fix cA bX=>
 LY (Y3 E tm x) ⟨f,.code (i+1) a::eY (E.keep f (2*i)) k,⟨tm,nt,mem,fix,cA,bX⟩⟩ ⟨f,.code (i+1+nodes a) b::eY (E.keep f (2*i)) k,⟨tm,nt,mem,fix,cA,bX⟩⟩
def UN (id:Nat) (i:Nat) (k:List It):Fe Ev:=fun P E f tm nt mem fix cA bX=>abN (motive:=fun _=>Ev) (xG (.code i (.exit id)::k) P E f tm nt mem fix cA bX) (fun k'=> .next ⟨f,k',⟨tm,nt,mem,fix,cA,bX⟩⟩) (bY id k)
def UO:Code→Nat→List It→Fe Ev
 |.block id b=>QE id b
 |.cond x a b=>UM x a b
 |.exit id=>UN id
 |.skip=>UL
 |.seq a b=>Y5 a b
 |.region id ops false=>Y4 id ops
 |c=>fun i k=>UK i c k
def LZ (k:List It):Fe Ev:=fun _ _ f tm nt mem fix cA bX=> .next ⟨f,k,⟨tm,nt,mem,fix,cA,bX⟩⟩
def acJ:It→List It→Fe Ev
 |.inBlock _=>LZ
 |.inScope _=>LZ
 |.ops bV ops i sure=>fun k=>LX (QB ops i) bV ops i sure k
 |.code i c=>fun k=>UO c i k
 |x=>fun k=>xG (x::k)
def UP:List It→Fe Ev
 |[]=>xG []
 |x::k=>acJ x k
def L0 (P:Program) (E:Env) (c:cw):Ev:=cw.rec (motive:=fun _=>Ev) (fun f todo st=>St.rec (motive:=fun _=>Ev) (fun tm nt mem fix cA bX=>UP todo P E f tm nt mem fix cA bX) st) c
theorem Jw (o:Oper):Ch o.op=makes o:=by
 obtain⟨dst,op,type,pos,after,guard⟩:=o
 cases op<;>rfl
theorem L2 (P:Program) (E:Env) (c:cw):L0 P E c=step P E c:=by
 obtain⟨f,todo,tm,nt,mem,fix,cA,bX⟩:=c
 cases todo with
 |nil=>rfl
 |cons x k=>
  cases x with
  |code i c=>
   cases c with
   |region id ops b=>cases b<;>rfl
   |cond x a b=>
    show LY (Y3 E tm x) _ _=_
    rw[LW]
    simp only[step]
    split
    · rename_i t ht;rw[ht];rfl
    · rename_i hne
      generalize ev E tm x=v at hne
      cases v with
      |p v=>cases v with
       |sc v=>cases v with
        |bool t=>exact absurd rfl (hne t)
        |_=>rfl
       |_=>rfl
      |_=>rfl
   |exit id=>
    show abN (motive:=fun _=>Ev) _ _ (bY id k)=_
    cases he:bY id k with
    |none=>rfl
    |some k'=>simp only[step,he]
   |_=>rfl
  |ops bV ops i sure=>
   show LX (QB ops i) bV ops i sure k P E f tm nt mem fix cA bX=_
   rw[QC]
   cases ho:ops[i]? with
   |none=>simp only[LX,step,ho]
   |some o=>
    show TG (FR o.op) (Ch o.op) o.guard o bV ops i sure k P E f tm nt mem fix cA bX=_
    cases h1:FR o.op with
    |true=>rfl
    |false=>
     cases h2:Ch o.op with
     |true=>rfl
     |false=>
      cases h3:o.guard with
      |some q=>rfl
      |none=>
       rw[Jw] at h2
       have ht:target (ev E tm) o=none:=by
        obtain⟨dst,op,type,pos,after,guard⟩:=o
        cases op<;>first | rfl | cases h1
       have hy:vB (ev E tm) o=none:=by
        obtain⟨dst,op,type,pos,after,guard⟩:=o
        cases op<;>first | rfl | cases h1
       show HH (opF P (fun i=>mem.getD i .dead) (E.wr f (o.dst.getD 0)) mem.length (Y3 E tm) o) o.dst f (.ops bV ops (i+1) false::k) tm nt mem fix cA bX=_
       rw[UH,LW]
       have hr:reserve o mem=mem:=by simp[reserve,h2]
       simp only[step,ho,ep,h3,K4,ht,hy,hr]
       cases hop:ug P (fun i=>mem.getD i .dead) (E.wr f (o.dst.getD 0)) mem.length (ev E tm) o with
       |none=>
        clear hop hr hy ht h3 h2 ho
        obtain⟨dst,op,type,pos,after,guard⟩:=o
        cases op<;>first | rfl | cases h1
       |some r=>
        obtain⟨v,us,ok⟩:=r
        cases us with
        |nil=>cases hd:o.dst<;>simp[HH,fits,put,apply]
        |cons u us=>cases hd:o.dst<;>simp[HH,fits,put]
  |_=>rfl
abbrev RunT:=Program→Env→List bQ→(cw→Option Out)→Option Out
def Y6 (c:cw):RunT:=fun _ _ _ ih=>ih c
def Y7 (b:Bool) (c:cw):RunT:=fun _ _ _ ih=>abJ (motive:=fun _=>Option Out) none (ih c) b
def Y8 (b:Bool) (y z:cw):RunT:=fun _ _ _ ih=>abJ (motive:=fun _=>Option Out) (ih z) (ih y) b
def Y9 (g:FuncId) (args:List AV) (m:Mem) (ord:List Nat) (dst:Option Tmp) (c:cw):RunT:=fun P _ K ih=>match mz K g args m with
     |some (v,m1)=>ih {c with st:=back ord dst c.st v m1}
     |none=>match init P g args m with
      |some ci=>match ih ci with
       |some (.ret v m1)=>ih {c with st:=back ord dst c.st v m1}
       |some (.za u m1)=>ih (nF ord c u m1)
       |none=>none
      |none=>none
def Za (g:FuncId) (args:List AV) (m:Mem) (ord:List Nat) (pv:Option AV) (c:cw):RunT:=fun P _ _ ih=>match De P g args m pv with
     |some ci=>match ih ci with
      |some (.ret _ m1)=>ih {c with st:=back ord none c.st (.au []) m1}
      |_=>none
     |none=>none
def UQ (args:List AV) (m:Mem) (ord:List Nat) (dst:Option Tmp) (c:cw):RunT:=fun _ _ _ ih=>match Dc args m with
     |some ci=>match ih ci with
      |some (.ret v m1)=>ih {c with st:=back ord dst c.st v m1}
      |_=>none
     |none=>none
def UR (g:FuncId) (args:List AV) (m:Mem) (ord:List Nat) (L:Nat) (c:cw):RunT:=fun P _ _ ih=>match init P g args m with
     |some ci=>match ih ci with
      |some (.ret v m1)=>match gm (back ord none c.st v m1).mem L with
       |some (m2,pd)=>ih (behind c m2 pd)
       |none=>none
      |_=>none
     |none=>none
def Zb (bV:Nat) (ops:Array Oper) (c:cw):RunT:=fun P E K ih=>match jW P E c.f bV (fun g args m=>match mz K g args m with
       |some r=>some r
       |none=>match init P g args m with
        |some ci=>match ih ci with
         |some (.ret v m1)=>some (v,m1)
         |_=>none
        |none=>none) ops c.st with
     |some (st,ok)=>cond ok (ih {c with st:={st with cA:=c.st.cA,bX:=c.st.bX}}) none
     |none=>none
def Zc (l:List cw):RunT:=fun _ _ _ ih=>agree (l.map ih)
def Zd (o:Out):RunT:=fun _ _ _ _=>some o
def Ze:RunT:=fun _ _ _ _=>none
def TH:Ev→RunT
 |.next c=>Y6 c
 |.must b c=>Y7 b c
 |.test b y z=>Y8 b y z
 |.call g args m ord dst c=>Y9 g args m ord dst c
 |.round args m ord dst c=>UQ args m ord dst c
 |.range g args m ord L c=>UR g args m ord L c
 |.draw bV ops c=>Zb bV ops c
 |.fork l=>Zc l
 |.late g args m ord pv c=>Za g args m ord pv c
 |.done o=>Zd o
 |.fail=>Ze
def L3 (P:Program) (E:Env) (K:List bQ) (n:Nat):cw→Option Out:=
 abL (motive:=fun _=>cw→Option Out) (fun _=>none) (fun _ ih c=>TH (L0 P E c) P E K ih) n
theorem DT (P:Program) (E:Env) (K:List bQ) : ∀n,L3 P E K n=exec P E K n
 |0=>by funext c;rfl
 |n+1=>by
  funext c
  show TH (L0 P E c) P E K (L3 P E K n)=exec P E K (n+1) c
  rw[L2,DT P E K n]
  unfold exec
  cases step P E c with
  |must b c=>cases b<;>rfl
  |test b y z=>cases b<;>rfl
  |_=>rfl
def Ci (P:Program) (E:Env) (K:List bQ) (n:Nat) (g:FuncId) (args:List AV) (m:Mem):Option Out:=
 match init P g args m with
 |some c=>L3 P E K n c
 |none=>none
theorem Jx (P:Program) (E:Env) (K:List bQ) (n:Nat) (g:FuncId) (args:List AV) (m:Mem):Ci P E K n g args m=Hl P E K n g args m:=by
 unfold Ci Hl
 rw[DT]
 cases init P g args m<;>rfl
theorem bT {P:Program} {E:Env} (hN:gI P) {K:List bQ} (hK:dY P E K) {n:Nat} {f:FuncId} {args:List AV} {m m':Mem} {v:AV} (h:Ci P E K n f args m=some (.ret v m')):an P E f args m v m':=
 zN hN hK (n:=n) (by rw[←Jx];exact h)
end
end Go.Am
end
section
namespace Go.Am
open Go.RowKit
inductive az where
 |out (o:Out)
 |at(c:cw)
 |must (b:Bool) (t:az)
 |need (p:Prop) (t:az)
 |test (b:Bool) (y z:az)
 |call (q:bQ) (t:az)
 |stuck
structure bH where
 call:FuncId→List AV→Mem→Option (AV×Mem)
 C4:FuncId→List AV→Mem→Option (AV×Mem):=fun _ _ _=>none
 cut:FuncId→Nat→Bool
 fork:FuncId→Nat→Nat→Bool
 hard:FuncId→Nat→Nat→Bool
 shape:FuncId→Nat→Nat→Option (AV→AV)
def place (c:cw):Nat×Nat:=match c.todo with
 |.code i _::_=>(0,i)
 |.ops bV _ k _::_=>(bV+1,k)
 |_=>(0,0)
def cutAt (O:bH) (c:cw):Bool:=match c.todo with
 |.inLoop i _::_=>O.cut c.f i
 |.code i (.loop _)::_=>O.cut c.f i
 |_=>false
def FT (c:cw):Option Tmp:=match c.todo with
 |.ops _ ops k _::_=>match ops[k]? with
  |some o=>o.dst
  |none=>none
 |_=>none
def TI (c:cw):Bool:=match c.todo with
 |.ops .. :: _=>true
 |_=>false
def reshape (sh:AV→AV) (d:Tmp) (c:cw):cw:={c with st:=put c.st (some d) (sh (look c.st.tm d))}
def shaped (sh:Option (AV→AV)) (d:Option Tmp) (c:cw) (k:cw→az):az:=
 match sh,d,TI c with
 |some sh,some d,true=> .need (look c.st.tm d=sh (look c.st.tm d)) (k (reshape sh d c))
 |_,_,_=>k c
def xH (m:Mem) (i:Nat):List AV:=match m.getD i .dead with
 |.ob _ l=>l
 |_=>[]
def Cj (i:Nat) (l:List AV) (m:Mem):Mem:=match m.getD i .dead with
 |.ob k _=>m.set i (.ob k l)
 |_=>m
def xm (sh:Option (AV→AV)) (c:cw) (k:cw→az):az:=match sh with
 |none=>k c
 |some sh=>match sh .ah with
  |.fn (.func i) _ l=> .need (xH c.st.mem i=l) (k {c with st:={c.st with mem:=Cj i l c.st.mem}})
  |_=>k c
def Ck (h b:Bool) (t:az):az:=
 match h with
 |true=> .must b t
 |false=>match b with
  |true=>t
  |false=> .stuck
inductive Sc where
 |fork (y z:Sc)
 |yes (s:Sc)
 |no (s:Sc)
 |lit (s:Sc)
 |ans (g:FuncId) (v:AV) (m:Mem) (s:Sc)
 |C4 (f bV:Nat) (L:FuncId→List AV→Mem→Option (AV×Mem)) (s:Sc)
 |fin
def QF (g:FuncId):Sc→Option (AV×Mem×Sc)
 |.ans h v m s=>cond (ae h g) (some (v,m,s)) none
 |_=>none
def QG (f bV:Nat):Sc→Option ((FuncId→List AV→Mem→Option (AV×Mem))×Sc)
 |.C4 f' acK L s=>cond (ae f f'&&ae bV acK) (some (L,s)) none
 |_=>none
def oo (E:Env) (O:FuncId→List AV→Mem→Option (AV×Mem)) (o:Oper) (st:St):List bQ:=
 match target (ev E st.tm) o with
 |some (g,args)=>match O g (eW (idx (close st.mem 0 args)) args) (pack st.mem (close st.mem 0 args)) with
  |some (v,m1)=>[⟨g,eW (idx (close st.mem 0 args)) args,pack st.mem (close st.mem 0 args),v,m1⟩]
  |none=>[]
 |none=>[]
def pR (P:Program) (E:Env) (f bV:Nat) (O:FuncId→List AV→Mem→Option (AV×Mem)) (ops:Array Oper):List Oper→Nat→St→List bQ
 |[],_,_=>[]
 |o::r,nx,st=>
  let skip:=pR P E f bV O ops r nx (put st o.dst (.au []))
  let qN:=oo E O o st++match jj P E f bV O nx o st with
   |some (d,jV,_)=>pR P E f bV O ops r jV (put {st with mem:=apply st.mem d.us} o.dst d.v)
   |none=>[]
  match ep ops st.tm o with
  |.yes=>qN
  |.no=>skip
  |.ask _ b want=>match b==want with
   |true=>qN
   |false=>skip
  |.lost=>[]
def asked (P:Program) (E:Env) (f bV:Nat) (O:FuncId→List AV→Mem→Option (AV×Mem)) (ops:Array Oper) (st:St):List bQ:=
 pR P E f bV O ops (ops.toList.take (gG ops)) st.mem.length {st with mem:=st.mem++eu (60+ops.size)}
def Cl:List bQ→az→az
 |[],t=>t
 |q::r,t=> .call q (Cl r t)
def grow (P:Program) (E:Env) (O:bH):Nat→Bool→cw→Sc→(Out→Sc→az)→az
 |0,_,_,_,_=> .stuck
 |n+1,top,c,s,K=>match cutAt O c with
  |true=>match top,step P E c with
   |true,.next c'=> .at c'
   |_,_=> .stuck
  |false=>match step P E c with
   |.next c'=>grow P E O n top c' s K
   |.must b c'=>
    Ck (O.hard c.f (place c).1 (place c).2) b (shaped (O.shape c.f (place c).1 (place c).2) (FT c) c' fun c1=>xm (O.shape c.f ((place c).1+1000) (place c).2) c1 fun c2=>grow P E O n top c2 s K)
   |.test b y z=>match O.fork c.f (place c).1 (place c).2 with
    |true=>match s with
     |.fork s s'=> .test b (grow P E O n top y s K) (grow P E O n top z s' K)
     |.yes s=> .must b (grow P E O n top y s K)
     |.no s=> .must (!b) (grow P E O n top z s K)
     |.lit s=>match b with
      |true=>grow P E O n top y s K
      |false=>grow P E O n top z s K
     |s=> .test b (grow P E O n top y s K) (grow P E O n top z s K)
    |false=>match b with
     |true=>grow P E O n top y s K
     |false=>grow P E O n top z s K
   |.call g args m ord dst c'=>match QF g s with
    |some (v,m1,s)=> .call ⟨g,args,m,v,m1⟩ (shaped (O.shape c.f (place c).1 (place c).2) (FT c) {c' with st:=back ord dst c'.st v m1} fun c=>grow P E O n top c s K)
    |none=>match O.call g args m with
     |some (v,m1)=> .call ⟨g,args,m,v,m1⟩ (shaped (O.shape c.f (place c).1 (place c).2) (FT c) {c' with st:=back ord dst c'.st v m1} fun c=>grow P E O n top c s K)
     |none=>match init P g args m with
      |some ci=>grow P E O n false ci s fun o s=>match o with
       |.ret v m1=>grow P E O n top {c' with st:=back ord dst c'.st v m1} s K
       |.za u m1=>grow P E O n top (nF ord c' u m1) s K
      |none=> .stuck
   |.late g args m ord pv c'=>match De P g args m pv with
    |some ci=>grow P E O n false ci s fun o s=>match o with
     |.ret _ m1=>grow P E O n top {c' with st:=back ord none c'.st (.au []) m1} s K
     |.za .. => .stuck
    |none=> .stuck
   |.round args m ord dst c'=>match Dc args m with
    |some ci=>grow P E O n false ci s fun o s=>match o with
     |.ret v m1=>grow P E O n top {c' with st:=back ord dst c'.st v m1} s K
     |.za .. => .stuck
    |none=> .stuck
   |.range g args m ord L c'=>match O.call g args m with
    |some (v,m1)=>match gm (back ord none c'.st v m1).mem L with
      |some (m2,pd)=> .call ⟨g,args,m,v,m1⟩ (grow P E O n top (behind c' m2 pd) s K)
      |none=> .stuck
    |none=>match init P g args m with
     |some ci=>grow P E O n false ci s fun o s=>match o with
      |.ret v m1=>match gm (back ord none c'.st v m1).mem L with
       |some (m2,pd)=>grow P E O n top (behind c' m2 pd) s K
       |none=> .stuck
      |.za .. => .stuck
     |none=> .stuck
   |.draw bV ops c'=>match QG c'.f bV s with
    |some (L,s)=>match jW P E c'.f bV L ops c'.st with
     |some (st,ok)=>Cl (asked P E c'.f bV L ops c'.st) (Ck (O.hard c.f (place c).1 (place c).2) ok (xm (O.shape c.f ((place c).1+1000) (place c).2) {c' with st:={st with cA:=c'.st.cA,bX:=c'.st.bX}} fun c2=>grow P E O n top c2 s K))
     |none=> .stuck
    |none=>match jW P E c'.f bV O.C4 ops c'.st with
     |some (st,ok)=>Cl (asked P E c'.f bV O.C4 ops c'.st) (Ck (O.hard c.f (place c).1 (place c).2) ok (xm (O.shape c.f ((place c).1+1000) (place c).2) {c' with st:={st with cA:=c'.st.cA,bX:=c'.st.bX}} fun c2=>grow P E O n top c2 s K))
     |none=> .stuck
   |.done o=>K o s
   |_=> .stuck
def az.ok (P:Program) (E:Env) (o:Out):az→Prop
 |.out o'=>o'=o
 |.at c=>cO P E c o
 |.must b t=>b=true∧t.ok P E o
 |.need p t=>p∧t.ok P E o
 |.test b y z=>(b=true→y.ok P E o)∧(b=false→z.ok P E o)
 |.call q t=>an P E q.g q.args q.m q.v q.m'∧t.ok P E o
 |.stuck=>False
section
variable {P:Program} {E:Env}
theorem xI {sh:AV→AV} {d:Tmp} {c:cw} {o:Out} (hin:TI c=true) (h:look c.st.tm d=sh (look c.st.tm d)) (hg:cO P E (reshape sh d c) o):cO P E c o:=by
 intro g fr w cs hc
 have fO:dN P E g (reshape sh d c) fr w:=by
  obtain⟨f,todo,st⟩:=c
  cases todo with
  |nil=>cases hin
  |cons x k=>
   cases x with
   |ops bV ops i sure=>
    obtain⟨b,a,q1,q2,q3,q4,q5,q6⟩:=hc
    exact⟨b,a,q1,q2,q3,q4,q5.known (h▸q5.tm d),q6⟩
   |_=>cases hin
 exact hg g fr w cs fO
theorem tG {h b:Bool} {t:az} {o:Out} (k:(Ck h b t).ok P E o):b=true∧t.ok P E o:=by
 cases h with
 |true=>exact k
 |false=>cases b with
  |true=>exact⟨rfl,k⟩
  |false=>exact k.elim
def eg (P:Program) (E:Env) (top:Bool) (c:cw) (K:Out→Sc→az) (o:Out):Prop:=(∃o1 s1,cO P E c o1∧(K o1 s1).ok P E o)∨(top=true∧cO P E c o)
theorem eg.bn {top:Bool} {c c':cw} {K:Out→Sc→az} {o:Out} (hg : ∀g fr w,dN P E g c fr w→eO P E g c fr w c') (h:eg P E top c' K o):eg P E top c K o:=by
 rcases h with⟨o1,s1,h1,h2⟩ | ⟨h1,h2⟩
 · exact .inl ⟨o1,s1,cO.bn hg h1,h2⟩
 · exact .inr ⟨h1,cO.bn hg h2⟩
theorem mI {top:Bool} {sh:Option (AV→AV)} {d:Option Tmp} {c:cw} {k:cw→az} {K:Out→Sc→az} {o:Out} (hk : ∀c,(k c).ok P E o→eg P E top c K o) (h:(shaped sh d c k).ok P E o):eg P E top c K o:=by
 unfold shaped at h
 split at h
 · rename_i hin
   rcases hk _ h.2 with⟨o1,s1,h1,h2⟩ | ⟨h1,h2⟩
   · exact .inl ⟨o1,s1,xI hin h.1 h1,h2⟩
   · exact .inr ⟨h1,xI hin h.1 h2⟩
 · exact hk c h
theorem Cm {i:Nat} {l:List AV} {m:Mem} (h:xH m i=l):Cj i l m=m:=by
 subst h
 unfold Cj xH
 split
 · rename_i k l' hk
   refine List.ext_getElem? fun j=> ?_
   by_cases hj:i=j
   · subst hj
     rw[ch] at hk
     cases hm:m[i]? with
     |none=>rw[hm] at hk;cases hk
     |some x=>
      rw[hm] at hk
      have hk:x = .ob k l':=hk
      subst hk
      have hlt:i<m.length:=(List.getElem?_eq_some_iff.1 hm).1
      rw[ma hlt]
   · rw[mc hj]
 · rfl
theorem oq {top:Bool} {sh:Option (AV→AV)} {c:cw} {k:cw→az} {K:Out→Sc→az} {o:Out} (hk : ∀c,(k c).ok P E o→eg P E top c K o) (h:(xm sh c k).ok P E o):eg P E top c K o:=by
 unfold xm at h
 split at h
 · exact hk c h
 · split at h
   · obtain⟨h1,h2⟩:=h
     rw[Cm h1] at h2
     exact hk c h2
   · exact hk c h
def Zf (P:Program) (E:Env) (call:FuncId→List AV→Mem→Option (AV×Mem)):Prop:= ∀g args m v m1,call g args m=some (v,m1)→an P E g args m v m1
theorem oW {t:az} {o:Out} : ∀{l:List bQ},(Cl l t).ok P E o→dY P E l∧t.ok P E o
 |[],h=>⟨fun _ hq=>(by cases hq),h⟩
 |q::l,h=>⟨fun q' hq=>by
   cases hq with
   |head=>exact h.1
   |tail _ hq=>exact(oW (l:=l) h.2).1 q' hq,(oW (l:=l) h.2).2⟩
open Classical in
def only(O:FuncId→List AV→Mem→Option (AV×Mem)) (l:List bQ) (g:FuncId) (args:List AV) (m:Mem):Option (AV×Mem):=
 if ∃q∈l,q.g=g∧q.args=args∧q.m=m then O g args m else none
theorem QH {O:FuncId→List AV→Mem→Option (AV×Mem)} {l:List bQ} {g:FuncId} {args:List AV} {m:Mem} (h : ∃q∈l,q.g=g∧q.args=args∧q.m=m):only O l g args m=O g args m:=by
 unfold only;rw[if_pos h]
theorem Cn {f bV:Nat} {O O':FuncId→List AV→Mem→Option (AV×Mem)} {nx:Nat} {o:Oper} {st:St} (h : ∀q∈oo E O o st,O' q.g q.args q.m=O q.g q.args q.m) {r:gO×Nat×Bool} (hr:oM P E f bV O nx o st=some r):oM P E f bV O' nx o st=some r:=by
 unfold oM at hr ⊢
 unfold oo at h
 cases ht:target (ev E st.tm) o with
 |none=>simp only[ht] at hr ⊢;exact hr
 |some ga=>
  obtain⟨g,args⟩:=ga
  simp only[ht] at hr h ⊢
  cases hO:O g (eW (idx (close st.mem 0 args)) args) (pack st.mem (close st.mem 0 args)) with
  |none=>simp only[hO] at hr;cases hr
  |some vm=>
   obtain⟨v,m1⟩:=vm
   simp only[hO] at h hr
   have:=h _ (.head _)
   simp only at this
   rw[this,hO]
   exact hr
theorem DU {f bV:Nat} {O O':FuncId→List AV→Mem→Option (AV×Mem)} {nx:Nat} {o:Oper} {st:St} (h : ∀q∈oo E O o st,O' q.g q.args q.m=O q.g q.args q.m) {r:gO×Nat×Bool} (hr:jj P E f bV O nx o st=some r):jj P E f bV O' nx o st=some r:=by
 unfold jj at hr ⊢
 cases hl:oM P E f bV O nx o st with
 |none=>
  rw[hl] at hr
  unfold Hj at hr
  split at hr<;>cases hr
 |some x=>
  rw[Cn h hl]
  rw[hl] at hr
  exact hr
theorem qp {f bV:Nat} {O O':FuncId→List AV→Mem→Option (AV×Mem)} {ops:Array Oper} : ∀(l:List Oper) (nx:Nat) (st:St) (r:St×Nat×List gO×Bool),(∀q∈pR P E f bV O ops l nx st,O' q.g q.args q.m=O q.g q.args q.m)→iC P E f bV O ops l nx st=some r→iC P E f bV O' ops l nx st=some r
 |[],_,_,_,_,h=>h
 |o::l,nx,st,r,ha,h=>by
  unfold iC at h ⊢
  unfold pR at ha
  have TJ : ∀r,(∀q∈pR P E f bV O ops l nx (put st o.dst (.au [])),O' q.g q.args q.m=O q.g q.args q.m) →
    (match iC P E f bV O ops l nx (put st o.dst (.au [])) with
      |some (st',pG,ds,ok)=>some (st',pG,(⟨.au [],[],[],fun _ _=>false⟩:gO)::ds,fits st o.dst&&ok)
      |none=>none)=some r →
    (match iC P E f bV O' ops l nx (put st o.dst (.au [])) with
      |some (st',pG,ds,ok)=>some (st',pG,(⟨.au [],[],[],fun _ _=>false⟩:gO)::ds,fits st o.dst&&ok)
      |none=>none)=some r:=by
   intro r hq hr
   cases hg:iC P E f bV O ops l nx (put st o.dst (.au [])) with
   |none=>rw[hg] at hr;cases hr
   |some x=>rw[qp l nx _ x hq hg];rw[hg] at hr;exact hr
  have Ur : ∀r,(∀q∈oo E O o st++(match jj P E f bV O nx o st with
        |some (d,jV,_)=>pR P E f bV O ops l jV (put {st with mem:=apply st.mem d.us} o.dst d.v)
        |none=>[]),O' q.g q.args q.m=O q.g q.args q.m) →
    (match jj P E f bV O nx o st with
      |some (d,jV,ok)=>match iC P E f bV O ops l jV (put {st with mem:=apply st.mem d.us} o.dst d.v) with
       |some (st',pG,ds,ok')=>some (st',pG,d::ds,ok&&(fits st o.dst&&ok'))
       |none=>none
      |none=>none)=some r →
    (match jj P E f bV O' nx o st with
      |some (d,jV,ok)=>match iC P E f bV O' ops l jV (put {st with mem:=apply st.mem d.us} o.dst d.v) with
       |some (st',pG,ds,ok')=>some (st',pG,d::ds,ok&&(fits st o.dst&&ok'))
       |none=>none
      |none=>none)=some r:=by
   intro r hq hr
   cases h1:jj P E f bV O nx o st with
   |none=>rw[h1] at hr;cases hr
   |some x=>
    obtain⟨d,jV,ok⟩:=x
    rw[DU (fun q hm=>hq q (na.2 (.inl hm))) h1]
    rw[h1] at hr hq
    dsimp only at hr hq ⊢
    cases hg:iC P E f bV O ops l jV (put {st with mem:=apply st.mem d.us} o.dst d.v) with
    |none=>rw[hg] at hr;cases hr
    |some y=>rw[qp l jV _ y (fun q hm=>hq q (na.2 (.inr hm))) hg];rw[hg] at hr;exact hr
  dsimp only at h ha ⊢
  cases hw:ep ops st.tm o with
  |yes=>simp only[hw] at h ha ⊢;exact Ur r ha h
  |no=>simp only[hw] at h ha ⊢;exact TJ r ha h
  |lost=>simp only[hw] at h;cases h
  |ask d b want=>
   simp only[hw] at h ha ⊢
   cases hb:b==want with
   |true=>simp only[hb] at h ha ⊢;exact Ur r ha h
   |false=>simp only[hb] at h ha ⊢;exact TJ r ha h
theorem AH {f bV:Nat} {O:FuncId→List AV→Mem→Option (AV×Mem)} {ops:Array Oper} {st:St} {r:St×Bool} (h:jW P E f bV O ops st=some r):jW P E f bV (only O (asked P E f bV O ops st)) ops st=some r:=by
 unfold jW at h ⊢
 cases hg:iC P E f bV O ops (ops.toList.take (gG ops)) st.mem.length {st with mem:=st.mem++eu (60+ops.size)} with
 |none=>rw[hg] at h;cases h
 |some x=>
  rw[qp (O':=only O (asked P E f bV O ops st)) _ _ _ x (fun q hq=>QH ⟨q,hq,rfl,rfl,rfl⟩) hg]
  rw[hg] at h;exact h
theorem Jy {O:FuncId→List AV→Mem→Option (AV×Mem)} {o:Oper} {st:St} {q:bQ} (h:q∈oo E O o st):O q.g q.args q.m=some (q.v,q.m'):=by
 unfold oo at h
 split at h
 · split at h
   · rename_i hO
     cases h with
     |head=>exact hO
     |tail _ h=>cases h
   · cases h
 · cases h
theorem rL {f bV:Nat} {O:FuncId→List AV→Mem→Option (AV×Mem)} {ops:Array Oper} : ∀(l:List Oper) (nx:Nat) (st:St) (q:bQ),q∈pR P E f bV O ops l nx st→O q.g q.args q.m=some (q.v,q.m')
 |[],_,_,_,h=>by cases h
 |o::l,nx,st,q,h=>by
  unfold pR at h
  have Ur:q∈oo E O o st++(match jj P E f bV O nx o st with
        |some (d,jV,_)=>pR P E f bV O ops l jV (put {st with mem:=apply st.mem d.us} o.dst d.v)
        |none=>[])→O q.g q.args q.m=some (q.v,q.m'):=by
   intro h
   rcases na.1 h with h | h
   · exact Jy h
   · split at h
     · exact rL l _ _ q h
     · cases h
  dsimp only at h
  split at h
  · exact Ur h
  · exact rL l _ _ q h
  · split at h
    · exact Ur h
    · exact rL l _ _ q h
  · cases h
theorem xJ {f bV:Nat} {O:FuncId→List AV→Mem→Option (AV×Mem)} {ops:Array Oper} {st:St} (h:dY P E (asked P E f bV O ops st)):Zf P E (only O (asked P E f bV O ops st)):=by
 intro g args m v m1 hO
 unfold only at hO
 split at hO
 · rename_i hq
   obtain⟨q,hm,rfl,rfl,rfl⟩:=hq
   have:=rL _ _ _ q hm
   rw[this] at hO
   obtain⟨rfl,rfl⟩:q.v=v∧q.m'=m1:=by simpa using hO
   exact h q hm
 · cases hO
theorem bf (hN:gI P) {O:bH} {o:Out} : ∀(n:Nat) (top:Bool) (c:cw) (s:Sc) (K:Out→Sc→az),(grow P E O n top c s K).ok P E o→eg P E top c K o
 |0,_,_,_,_,h=>h.elim
 |n+1,top,c,s,K,h=>by
  unfold grow at h
  split at h
  · split at h
    · rename_i c' hs;exact .inr ⟨rfl,cO.bn (tE hs) h⟩
    · exact h.elim
  · split at h
    · rename_i c' hs;exact eg.bn (tE hs) (bf hN n top c' s K h)
    · rename_i b c' hs
      obtain⟨rfl,hb⟩:=tG h
      exact eg.bn (AD hs) (mI (fun c=>oq fun c=>bf hN n top c s K) hb)
    · rename_i b y z hs
      have gt:=AE hs
      split at h
      · split at h
        · cases b with
          |true=>exact eg.bn gt (bf hN n top y _ K (h.1 rfl))
          |false=>exact eg.bn gt (bf hN n top z _ K (h.2 rfl))
        · obtain⟨rfl,h⟩:=h
          exact eg.bn gt (bf hN n top y _ K h)
        · obtain⟨hb,h⟩:=h
          cases b with
          |true=>cases hb
          |false=>exact eg.bn gt (bf hN n top z _ K h)
        · cases b with
          |true=>exact eg.bn gt (bf hN n top y _ K h)
          |false=>exact eg.bn gt (bf hN n top z _ K h)
        · cases b with
          |true=>exact eg.bn gt (bf hN n top y _ K (h.1 rfl))
          |false=>exact eg.bn gt (bf hN n top z _ K (h.2 rfl))
      · cases b with
        |true=>exact eg.bn gt (bf hN n top y _ K h)
        |false=>exact eg.bn gt (bf hN n top z _ K h)
    · rename_i f args m ord dst c' hs
      split at h
      · rename_i v m1 s' _
        exact eg.bn (lP hs h.1) (mI (fun c=>bf hN n top c s' K) h.2)
      split at h
      · exact eg.bn (lP hs h.1) (mI (fun c=>bf hN n top c s K) h.2)
      · split at h
        · rename_i ci hi
          rcases bf hN n false ci s _ h with⟨o1,s1,h1,h2⟩ | ⟨h1,_⟩
          · cases o1 with
            |ret v m1=>exact eg.bn (lP hs (ff hN hi h1)) (bf hN n top _ s1 K h2)
            |za v m1=>exact eg.bn (uI hs (pO hN hi h1)) (bf hN n top _ s1 K h2)
          · cases h1
        · exact h.elim
    · rename_i g args m ord pv c' hs
      split at h
      · rename_i ci hi
        rcases bf hN n false ci s _ h with⟨o1,s1,h1,h2⟩ | ⟨h1,_⟩
        · cases o1 with
          |ret v m1=>exact eg.bn (AF hs (pQ hN hi h1)) (bf hN n top _ s1 K h2)
          |za v m1=>exact h2.elim
        · cases h1
      · exact h.elim
    · rename_i args m ord dst c' hs
      split at h
      · rename_i ci hi
        rcases bf hN n false ci s _ h with⟨o1,s1,h1,h2⟩ | ⟨h1,_⟩
        · cases o1 with
          |ret v m1=>exact eg.bn (xF hs (pP hi h1)) (bf hN n top _ s1 K h2)
          |za v m1=>exact h2.elim
        · cases h1
      · exact h.elim
    · rename_i g args m ord L c' hs
      split at h
      · split at h
        · rename_i m2 pd hend
          exact eg.bn (qo hs h.1 hend) (bf hN n top _ s K h.2)
        · exact h.elim
      split at h
      · rename_i ci hi
        rcases bf hN n false ci s _ h with⟨o1,s1,h1,h2⟩ | ⟨h1,_⟩
        · cases o1 with
          |ret v m1=>
           dsimp only at h2
           split at h2
           · rename_i m2 pd hend
             exact eg.bn (qo hs (ff hN hi h1) hend) (bf hN n top _ s1 K h2)
           · exact h2.elim
          |za v m1=>exact h2.elim
        · cases h1
      · exact h.elim
    · rename_i bV ops c' hs
      split at h
      · rename_i L s' _
        split at h
        · rename_i st ok hq
          obtain⟨hcs,h⟩:=oW h
          obtain⟨rfl,hb⟩:=tG h
          exact eg.bn (tF hs (xJ hcs) (AH hq)) (oq (fun c=>bf hN n top c s' K) hb)
        · exact h.elim
      split at h
      · rename_i st ok hq
        obtain⟨hcs,h⟩:=oW h
        obtain⟨rfl,hb⟩:=tG h
        exact eg.bn (tF hs (xJ hcs) (AH hq)) (oq (fun c=>bf hN n top c s K) hb)
      · exact h.elim
    · rename_i o' hs
      exact .inl ⟨o',s,AB hs,h⟩
    · exact h.elim
def atEnd (o:Out) (_:Sc):az:= .out o
theorem aj (hN:gI P) {O:bH} {n:Nat} {c:cw} {s:Sc} {t:az} {o:Out} (ht:grow P E O n true c s atEnd=t) (h:t.ok P E o):cO P E c o:=by
 subst ht
 rcases bf hN n true c s atEnd h with⟨o1,s1,h1,h2⟩ | ⟨_,h1⟩
 · have:o1=o:=h2
   exact this▸h1
 · exact h1
def aG (P:Program) (E:Env) (O:bH) (n:Nat) (f:FuncId) (args:List AV) (m:Mem) (s:Sc):az:=
 match init P f args m with
 |some c=>grow P E O n true c s atEnd
 |none=> .stuck
theorem af (hN:gI P) {O:bH} {n:Nat} {f:FuncId} {args:List AV} {m m':Mem} {s:Sc} {v:AV} {t:az} (ht:aG P E O n f args m s=t) (h:t.ok P E (.ret v m')):an P E f args m v m':=by
 subst ht
 unfold aG at h
 split at h
 · rename_i c hi;exact ff hN hi (aj hN rfl h)
 · exact h.elim
theorem FU {P:Program} (h:(P.funcs.toList.all fun fn=> !(fn.name == "runtime.NumGoroutine"))=true):gI P:=by
 intro f fn hf
 rw[List.all_eq_true] at h
 have:=h fn (by rw[←Array.getElem?_toList] at hf;exact mb hf)
 simpa using this
def iZ (E:Env) (f t:Nat):Code→Nat→List It→Option (Code×List It)
 |.loop b,i,k=>match ae i t with
  |true=>some (b,k)
  |false=>iZ E f t b (i+1) (.inLoop i b::eY (E.keep f (2*i+1)) k)
 |.seq a b,i,k=>match iZ E f t a i (.code (i+nodes a) b::k) with
  |some r=>some r
  |none=>iZ E f t b (i+nodes a) k
 |.cond _ a b,i,k=>match iZ E f t a (i+1) (eY (E.keep f (2*i)) k) with
  |some r=>some r
  |none=>iZ E f t b (i+1+nodes a) (eY (E.keep f (2*i)) k)
 |.block id b,i,k=>iZ E f t b i (.inBlock id::k)
 |.scope b,i,k=>iZ E f t b i (.inScope b::k)
 |_,_,_=>none
def ak (P:Program) (E:Env) (f t:Nat) (vs:List AV) (m:Mem) (fix nt:Nat):cw:=
 match P.funcs[f]? with
 |some fn=>match fn.body with
  |some c=>match iZ E f t c 0 [] with
   |some (b,k)=>⟨f,.code (t+1) b :: .inLoop t b::eY (E.keep f (2*t+1)) k,⟨((E.keep f (2*t)).getD []).zip vs,nt,m,fix,[],.call⟩⟩
   |none=>⟨f,[],⟨[],0,[],0,[],.call⟩⟩
  |none=>⟨f,[],⟨[],0,[],0,[],.call⟩⟩
 |none=>⟨f,[],⟨[],0,[],0,[],.call⟩⟩
def FV (l:List (Nat×Nat×Nat)) (f a b:Nat):Bool:=match l with
 |[]=>false
 |(f',a',b')::r=>cond (ae f f') (cond (ae a a') (cond (ae b b') true (FV r f a b)) (FV r f a b)) (FV r f a b)
def HI (l:List (Nat×Nat)) (f a:Nat):Bool:=match l with
 |[]=>false
 |(f',a')::r=>cond (ae f f') (cond (ae a a') true (HI r f a)) (HI r f a)
def FW (rows:List (Nat×Nat×List Nat)) (f j:Nat):Option (List Nat):=match rows with
 |[]=>none
 |(f',j',l)::r=>cond (ae f f'&&ae j j') (some l) (FW r f j)
def aA (_:FuncId) (_:List AV) (_:Mem):Option (AV×Mem):=none
def aT (call C4:FuncId→List AV→Mem→Option (AV×Mem)) (US:List (Nat×Nat)) (L4 L5:List (Nat×Nat×Nat)):bH where
 call:=call
 C4:=C4
 cut:=HI US
 fork:=FV L4
 hard:=FV L5
 shape _ _ _:=none
def cM (l:List (Nat×Nat×Nat×AV)) (f a b:Nat):Option (AV→AV):=match l with
 |[]=>none
 |(f',a',b',v)::r=>cond (ae f f'&&(ae a a'&&ae b b')) (some fun _=>v) (cM r f a b)
def gx (call C4:FuncId→List AV→Mem→Option (AV×Mem)) (US:List (Nat×Nat)) (L4 L5:List (Nat×Nat×Nat)) (shape:FuncId→Nat→Nat→Option (AV→AV)):bH where
 call:=call
 C4:=C4
 cut:=HI US
 fork:=FV L4
 hard:=FV L5
 shape:=shape
def gT (t:Nat):Code→Nat→Option (Array Tmp×Code×Code)
 |.rangeFunc _ ps as bd,i=>cond (ae i t) (some (ps,as,bd)) none
 |.seq a b,i=>match gT t a i with
  |some r=>some r
  |none=>gT t b (i+nodes a)
 |.cond _ a b,i=>match gT t a (i+1) with
  |some r=>some r
  |none=>gT t b (i+1+nodes a)
 |.block _ b,i=>gT t b i
 |.scope b,i=>gT t b i
 |.loop b,i=>gT t b (i+1)
 |_,_=>none
def ke (P:Program) (f t:Nat) (st:LoopState) (pd:Option Code):aD:=
 match P.funcs[f]? with
 |some fn=>match fn.body with
  |some c=>match gT t c 0 with
   |some (ps,as,bd)=> .loop f ps as bd st pd
   |none=> .Yh
  |none=> .Yh
 |none=> .Yh
end
end Go.Am
end
