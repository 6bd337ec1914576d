import Derived.Test.YtjfgfhaoeicpdaaGreatDoorME
import Derived.RangeFuncLeaves
import Derived.RangeFuncIn
import Derived.RangeFuncRecord
open Option.some renaming injEq→cp,inj→c8
open Prod.mk renaming injEq→ie
open List renaming getD_eq_getElem?_getD→cb,range_eq_range'→aaP,cons_append→aaQ,getElem?_eq_getElem→bm,mem_append→mi,nil_append→M2,range'→wx,getElem?_set_self→ln,getElem?_eq_none→dp,getElem?_set_ne→lr,mem_of_getElem?→mc,zip_cons_cons→aaR,getElem?_map→dC,mapM_cons→aaS,mem_map→ed,rec→aaT
open Go.Sem renaming run_bind→il,run_pure→im,runT_eq→aaU
open Go.Result renaming andThen_ok→iu
open Bool renaming and_eq_true→ch,false_eq_true→oE,rec→aaV
open Nat renaming beq→ae,eq_zero_or_pos→pn,le_refl→bj,eq_of_beq_eq_true→ag,lt_or_ge→fb,le_of_ble_eq_true→eh,beq_refl→ua,zero_le→QQ,sub_zero→aaW,blt→ar,rec→aaX
open Array renaming getD_eq_getD_getElem?→xb,getElem?_eq_getElem→fl,length_toList→ft,getElem?_eq_none→yv,toList_append→zd
open Go.Steps renaming refl→aaN
open Go.Frame renaming enter→xc,atR→yn,round→aaY
open Option renaming getD_some→hX,rec→aaZ
noncomputable section
section
namespace Go.Am
open Go.RowKit
section
variable {P:Program} {E:Env} {g:Gh} {w:World}
def Kp (a:Act):ResultVar→Sem Value
 |.tmp t=>pure (a.tmps.getD t undef)
 |.cell x t=>do loadVar t (←asAddr (a.tmps.getD x undef))
theorem iY {st:St} {a:Act} (h:cK E g st a w) : ∀{rs:List ResultVar} {vs:List AV},ig P st rs=some (vs,true) →
  ∃rm:List Value,(rs.mapM (Kp a)).run P w = .ok rm w∧cA g w vs rm
 |[],vs,he=>by
  simp only[ig,cp,ie,and_true] at he;subst he
  exact⟨[],rfl,trivial⟩
 |.tmp t::rs,vs,he=>by
  simp only[ig,Option.map_eq_some_iff,ie] at he
  obtain⟨⟨us,ok⟩,h1,rfl,rfl⟩:=he
  obtain⟨rm,k1,k2⟩:=iY h h1
  refine⟨_::rm,?_,h.tm t,k2⟩
  simp only[aaS,il,Kp,im,iu,k1]
 |.cell x t::rs,vs,he=>by
  simp only[ig] at he
  split at he
  · rename_i v ok us oks h1 h2
    simp only[cp,ie,ch] at he
    obtain⟨rfl,rfl,rfl⟩:=he
    obtain⟨c,o,cv,k1,k2,k3⟩:=qL h.rel (h.tm x) h1
    obtain⟨rm,k4,k5⟩:=iY h h2
    refine⟨cv::rm,?_,k3,k5⟩
    have ha:(asAddr (.pointer (some ⟨c,o,none⟩))).run P w = .ok ⟨c,o,none⟩ w:=rfl
    have hone:(Kp a (.cell x t)).run P w = .ok cv w:=by simp only[Kp,k1,il,ha,iu,k2]
    simp only[aaS,il,hone,im,iu,k4]
  · cases he
theorem AJ {vs:List AV} {rm:List Value} (h:cA g w vs rm) : ∃cv,(if h:rm.toArray.size=1 then rm.toArray[0] else .tuple rm.toArray)=cv∧VA g w (one vs) cv:=by
 refine⟨_,rfl,?_⟩
 match vs,rm,h with
 |[v],[cv],h=>exact h.1
 |[],[],_=>exact VA.mR.2 trivial
 |v::v'::vs,cv::cv'::rm,h=>
  rw[dif_neg (by simp)]
  exact VA.mR.2 h
theorem D0 {fn:Func} {a:Act} {rm:List Value} {cv:Value} (h:(fn.results.toList.mapM (Kp a)).run P w = .ok rm w)
  (hc:(if h:rm.toArray.size=1 then rm.toArray[0] else .tuple rm.toArray)=cv):(results fn a.tmps).run P w = .ok cv w:=by
 have e:results fn a.tmps=(do let vs ←fn.results.mapM (Kp a);pure (if h:vs.size=1 then vs[0] else .tuple vs)):=rfl
 rw[e,Array.mapM_eq_mapM_toList]
 simp only[il,Sem.run_map,h,iu,im,hc]
theorem Rel.AK {m:Mem} (h:Rel g m w) : ∀(F:List Nat),(∀b∈F,∃l,m[b]? = some (.pc l)) →
  ∃g' m',Rel g' m' w∧Ext g w g' w∧dc g m w g' m' w∧g'.bS=g.bS∧g'.lo=g.lo∧g'.hi=g.hi∧m'.length=m.length∧(∀i,i∉F→m'[i]? = m[i]?) ∧
   ∀b∈F,∀l c,m[b]? = some (.pc l)→g.bS b=some c → ∀o,o<l.length→g'.pure c o
 |[],_=>⟨g,m,h,Ext.refl _ _,dc.refl _ _ _,rfl,rfl,rfl,rfl,fun _ _=>rfl,fun _ hb=>by cases hb⟩
 |b::F,hF=>by
  obtain⟨g',m',k1,k2,k3,k4,k5,k6,k7,k8,k9⟩:=Rel.AK h F fun b hb=>hF b (.tail _ hb)
  by_cases hb:b∈F
  · refine⟨g',m',k1,k2,k3,k4,k5,k6,k7,fun i hi=>k8 i fun q=>hi (.tail _ q),fun b' hb'=> ?_⟩
    cases hb' with
    |head=>exact k9 b hb
    |tail _ hb'=>exact k9 b' hb'
  · obtain⟨l,hl⟩:=hF b (.head _)
    have hl':m'[b]? = some (.pc l):=(k8 b hb).trans hl
    obtain⟨c,cs,e,n,q1,_⟩:=h.cells b _ _ hl rfl
    obtain⟨r1,r2,r3⟩:=k1.H9 hl' (by rw[k4];exact q1)
    refine⟨_,_,r1,k2.trans r2,k3.trans r3,k4,k5,k6,by simp[k7],fun i hi=> ?_,fun b' hb' l' c' WW fm o ho=> ?_⟩
    · have hne:b≠i:=fun e=>hi (e ▸ .head _)
      rw[lr hne]
      exact k8 i fun q=>hi (.tail _ q)
    · cases hb' with
      |head=>
       rw[hl] at WW;cases WW
       rw[q1] at fm;cases fm
       exact .inr ⟨rfl,QQ _,ho⟩
      |tail _ hb'=>exact .inl (k9 b' hb' l' c' WW fm o ho)
theorem Kq {m:Mem} {kept:List Nat} {v:AV} : ∀b∈(freeze m kept v).2.2,∃l,m[b]? = some (.pc l):=by
 intro b hb
 unfold freeze at hb
 split at hb
 · rename_i b' off len sz cap
   cases hk:(has kept b'||ae len 0) with
   |true=>simp[hk] at hb
   |false=>
    simp only[hk,cond_false] at hb
    split at hb
    · rename_i l hl
      simp only[List.mem_singleton] at hb
      subst hb
      exact⟨l,getD_some hl (by simp)⟩
    · simp at hb
 · simp at hb
theorem xI {m:Mem} {kept:List Nat} : ∀{vs:List AV},∀b∈(gw m kept vs).2.2,∃l,m[b]? = some (.pc l)
 |[],b,hb=>by simp[gw] at hb
 |v::vs,b,hb=>by
  simp only[gw,mi] at hb
  rcases hb with hb | hb
  · exact Kq b hb
  · exact xI b hb
theorem Cs {m:Mem} (h:Rel g m w) {g':Gh} (he:Ext g w g' w) {kept:List Nat} {v:AV} {cv:Value} (hv:VA g w v cv) (hok:(freeze m kept v).2.1=true)
  (hp : ∀b∈(freeze m kept v).2.2,∀l c,m[b]? = some (.pc l)→g.bS b=some c → ∀o,o<l.length→g'.pure c o):VA g' w (freeze m kept v).1 cv:=by
 unfold freeze at hok hp ⊢
 split at hok
 · rename_i b off len sz cap
   cases hk:(has kept b||ae len 0) with
   |true=>simp only[cond_true];exact hv.mono he
   |false=>
    simp only[hk,cond_false] at hok hp ⊢
    split at hok
    · rename_i l hl
      simp only[hl] at hp ⊢
      have hl:=getD_some hl (by simp)
      obtain⟨hok,hz⟩:=(ch _ _).mp hok
      have hle:=eh hok
      have hz:=eh hz
      cases hv with
      |ms _ _ _ _ cap c hc hcap=>
      obtain⟨c',cs,e,n,k1,k2,k3,k4,k5⟩:=h.cells b _ _ hl rfl
      rw[hc] at k1;cases k1
      have hlen:=k4.1.len
      simp only[List.length_map,ft] at hlen
      have hpure:=hp b (by simp) l c hl hc
      have hVP:HZ g w l cs.toList:=bH.dF (by simpa using k4.1.len) fun i a b=>by
       have:=k4.1.get i (by simpa using a) b
       rw[List.getElem_map,VA.pv] at this
       exact this
      refine .p _ _ (VP.mk (us:=(cs.toList.drop off).take (len*sz)) (bH.mono (fun _ _ q=>VP.mono he.pure q) ((hVP.drop off).take (len*sz))) (by simp;omega) hcap hz fun k v hk=> ?_)
      rw[List.getElem?_take] at hk
      split at hk
      · rename_i hlt
        rw[List.getElem?_drop] at hk
        have hk':=bF hk
        refine⟨by rw[bk k2];simpa using hk,hpure (off+k) (by omega),k4.2 v (mc hk)⟩
      · cases hk
    · exact hv.mono he
 · exact hv.mono he
theorem oY {m:Mem} (h:Rel g m w) {g':Gh} (he:Ext g w g' w) {kept:List Nat} : ∀{vs:List AV} {rm:List Value},cA g w vs rm→(gw m kept vs).2.1=true →
  (∀b∈(gw m kept vs).2.2,∀l c,m[b]? = some (.pc l)→g.bS b=some c → ∀o,o<l.length→g'.pure c o)→cA g' w (gw m kept vs).1 rm
 |[],[],_,_,_=>trivial
 |v::vs,cv::rm,hv,hok,hp=>by
  simp only[gw,ch,mi] at hok hp ⊢
  exact⟨Cs h he hv.1 hok.1 fun b hb=>hp b (.inl hb),oY h he hv.2 hok.2 fun b hb=>hp b (.inr hb)⟩
 |[],_::_,h,_,_=>h.elim
 |_::_,[],h,_,_=>h.elim
theorem xJ : ∀{l ord:List Nat},BY l ord=true → ∀i∈l,i∉ord
 |[],_,_,_,h=>by cases h
 |j::l,ord,h,i,hi=>by
  simp only[BY,ch,Bool.not_eq_true'] at h
  cases hi with
  |head=>exact fun q=>by rw[Ig.2 q] at h;cases h.1
  |tail _ hi=>exact xJ h.2 i hi
theorem xK {c:cm} {b:Frame} {a:Act} {todo:List Item} (hs:cK E g c.st a w) (hrb:eJ g c.st.b9 b) (xw : ∀i,c.st.b9 ≠ .round i) (vO:b.fn=c.f) (hd:a.defers=[]) {fr:Frame}
  (hst : ∀cs,Steps P (lone fr cs w) (lone {b.atR a todo with mode:= .returning} cs w)):Cm P E g c fr w (lS P c):=by
 unfold lS
 split
 · rename_i fn hfn
   split
   · rename_i vs ok hres
     intro hok cs
     simp only[ch] at hok
     obtain⟨⟨rfl,hfz⟩,hni⟩:=hok
     obtain⟨rm,k1,k2⟩:=iY hs hres
     obtain⟨g',m',r1,r2,r3,r4,r5,r6,r7,r8,r9⟩:=hs.rel.AK _ (xI (m:=c.st.mem) (kept:=close c.st.mem c.st.fix []) (vs:=vs))
     have k3:=oY hs.rel r2 k2 hfz r9
     obtain⟨cv,hcv,_⟩:=AJ k2
     obtain⟨cv',afO,k4⟩:=AJ k3
     have:cv'=cv:=afO.symm.trans hcv
     subst this
     have hrun:=D0 (P:=P) k1 hcv
     generalize ajv:gw c.st.mem (close c.st.mem c.st.fix []) vs=fz at *
     obtain⟨hnd,nJ⟩:=eU c.st.mem c.st.fix [one fz.1]
     generalize Na:close c.st.mem c.st.fix [one fz.1]=ord at *
     have hpk:Am.pack c.st.mem ord=Am.pack m' ord:=by
      unfold Am.pack
      refine List.map_congr_left fun i hi=> ?_
      rw[cb,cb,r8 i fun q=>xJ hni i q hi]
     obtain⟨p1,p2⟩:=r1.pack hnd
     have hlen:c.st.fix≤ord.length:=by
      rcases pn c.st.fix with e | e
      · omega
      · have:=bF (nJ (c.st.fix-1) (by omega));omega
     refine⟨g'.pack ord,_,w,hst cs,?_,?_,?_,rfl,rfl,rfl⟩
     · refine⟨vO,cv',w,?_,?_,?_,dc.refl _ _ _,?_⟩
       · show M0 P c.st.b9 {b.atR a todo with mode:= .returning} w cv' w
         have aby:P.funcs[b.fn]? = some fn:=by rw[vO];exact hfn
         generalize c.st.b9=r at hrb xw
         cases r with
         |call=>exact⟨⟨rfl,hd,hrb.1,fn,aby,hrun⟩,rfl⟩
         |late=>exact⟨⟨⟨rfl,hd,fn,aby,hrun⟩,hrb.1⟩,rfl⟩
         |round i=>exact absurd rfl (xw i)
       · simp only[look,ua,cond_true]
         exact k4.jk (dA.pack g' ord)
       · show Rel (g'.pack ord) (Am.pack c.st.mem ord) w
         rw[hpk];exact p1
       · show c.st.fix≤(Am.pack c.st.mem ord).length
         simpa[Am.pack] using hlen
     · refine r3.trans ⟨bj _,fun _ _ _=>rfl,fun _ _ p=>⟨p,rfl⟩,fun _ _ p=> .inl p,fun c' ho=> .inl (p2 c' ?_),rfl,rfl,rfl⟩
       have ho:fD (g'.pack ord) (Am.pack c.st.mem ord) c':=ho
       rw[hpk] at ho;exact ho
     · intro k c' hk fm
       have:=nJ k hk
       simp[Gh.pack,this,r4,r5,r6,fm]
   · trivial
 · trivial
theorem rq {r:Nat} {w:World} (h:w.heap[r]? = some (.deferred (some []))):(Instr.takeDeferred r).run P w = .ok [] {w with heap:=w.heap.setIfInBounds r (.deferred none)}:=by
 simp[Instr.takeDeferred,il,getObj,setObj,Sem.run,h,Result.andThen]
theorem Il {b:Frame} {a:Act} {todo:List Item} : ∀{mk:List Mark} {ds:List Deferred} {st:St} {m:Mem} {w:World},lT mk st.mem=some m→Mk g mk ds→cK E g st a w →
  ∃w',(∀cs,Steps P (lone {b.atR {a with defers:=ds} todo with mode:= .returning} cs w) (lone {b.atR {a with defers:=[]} todo with mode:= .returning} cs w')) ∧
   cK E g {st with mem:=m,cw:=[]} {a with defers:=[]} w'∧dc g st.mem w g m w'
 |[],[],st,m,w,h,_,hs=>by
  simp only[lT,cp] at h
  subst h
  exact⟨w,fun cs=>aaN _ _,⟨hs.tm,hs.nt,hs.rel,hs.fix,hs.cQ⟩,dc.refl _ _ _⟩
 |.late .. :: mk,_,st,m,w,h,hm,hs=>by
  simp only[lT] at h
  cases h
 |.range i::mk,d::ds,st,m,w,h,hm,hs=>by
  simp only[lT] at h
  split at h
  · rename_i hb
    obtain⟨⟨D,hD,rfl⟩,hm⟩:=hm
    have hib:=getD_some hb (by simp)
    obtain⟨c,ob,vs,k1,k2,k3,k4,_⟩:=hs.rel.obs i _ _ hib
    rw[hD] at k1;cases k1
    obtain⟨rfl,_⟩:=k4
    obtain⟨e1,e2,e3⟩:=cW w (o':= .deferred none) k2
    obtain⟨r1,r2,r3⟩:=hs.rel.gz (FM:= .shut) (l':=[]) (vs':=[]) hib hD e1 e2 rfl rfl rfl e3 ⟨rfl,rfl⟩ trivial
    have hs':cK E g {st with mem:=st.mem.set i (.ob .shut [])} a {w with heap:=w.heap.setIfInBounds D (.deferred none)}:=
     ⟨fun k=>(hs.tm k).mono r2,hs.nt,r1,by simpa using hs.fix,hs.cQ.mono r2.pure⟩
    obtain⟨w',q1,q2,q3⟩:=Il (st:={st with mem:=st.mem.set i (.ob .shut [])}) h hm hs'
    refine⟨w',fun cs=> .head ?_ (q1 cs),q2,r3.trans q3⟩
    exact step_collected (fr:={b.atR {a with defers:={target:= .collected D,args:= #[]}::ds} todo with mode:= .returning}) (fun e=>by cases e) rfl rfl (rq k2)
  · cases h
 |[],_::_,_,_,_,_,hm,_=>hm.elim
 |.range _::_,[],_,_,_,_,hm,_=>hm.elim
theorem Nf {f:FuncId} {fa ca:Array Value} {fn:Func} (hf:P.funcs[f]? = some fn) (hb:fn.body.isSome=true) (hn:(fn.name == "runtime.NumGoroutine")=false) :
  (invoke (.fn (.func f) ca) fa).run P w = .ok (.enter f (fa++ca)) w:=by
 have VT:fn.body.isNone=false:=by cases hq:fn.body<;>simp_all
 simp only[invoke,callFunc,il,run_program,iu,hf,hn,oE,if_false,VT,im]
theorem sW : ∀{l:List (Nat×Nat)} {cs:List Value},Mps g l cs→cA g w (mps l) cs
 |[],[],_=>trivial
 |(b,off)::l,_::cs,h=>by
  obtain⟨⟨c,h1,h2⟩,h3⟩:=h
  exact⟨by rw[h2];exact .mp b off c h1,sW h3⟩
 |[],_::_,h=>h.elim
 |_::_,[],h=>h.elim
theorem D1 (cv:Option Value):settle (cX cv true) = .returning:=by cases cv<;>rfl
theorem Io {c:cm} {b:Frame} {a:Act} {todo:List Item} {gf:FuncId} {first caps:List (Nat×Nat)} {pv:Option AV} {qW:Option Value} {d:Deferred}
  (hs:cK E g c.st a w) (hrb:eJ g c.st.b9 b) (xw : ∀i,c.st.b9 ≠ .round i) (vO:b.fn=c.f) (hd:a.defers=[d]) (hm:Mark.Ok g (.late gf first caps) d) (Ke:M3 g w pv qW) {fr:Frame}
  (hst : ∀cs,Steps P (lone fr cs w) (lone {b.atR a todo with mode:=cX qW false} cs w)):Cm P E g c fr w (BZ c pv gf first caps):=by
 unfold BZ
 obtain⟨fa,ca,h1,h2,rfl⟩:=hm
 have hargs:cA g w (mps first++mps caps) (fa++ca).toList:=by
  rw[zd]
  exact(sW h1).append (sW h2)
 dsimp only
 generalize mps first++mps caps=args at *
 obtain⟨hnd,_⟩:=eU c.st.mem 0 (pv.toList++args)
 generalize close c.st.mem 0 (pv.toList++args)=ord at *
 cases hlt:iM ord c.st.mem.length with
 |false=>trivial
 |true=>
  intro m1 fo cs
  obtain⟨⟨fn,SG,SH,SI⟩,fo⟩:=fo
  obtain⟨MY,MZ⟩:=hs.rel.pack hnd
  have l8:=dA.pack g ord
  have afP:M3 (g.pack ord) w (pv.map (jk (idx ord))) qW:=by
   cases pv with
   |none=>cases qW with
    |none=>exact trivial
    |some v=>exact Ke.elim
   |some u=>cases qW with
    |none=>exact Ke.elim
    |some v=>exact VA.jk l8 Ke
  obtain⟨w',g',cv,fr',q1,q2,q3,q5,q6,q7,q8⟩:=fo (g.pack ord) w (fa++ca) qW {b.atR {a with defers:=[]} todo with mode:=cX qW false} cs rfl afP MY (cA.jk l8 hargs) (hs.cQ.mono fun _ _ p=>⟨p,rfl⟩)
  have hlen:(Am.pack c.st.mem ord).length=ord.length:=by simp[Am.pack]
  rw[hlen] at q7 q8
  obtain⟨r1,r2,r3,r4⟩:=hs.rel.back hnd (fJ hlt) q5 q6 q7 q8
  have Gj:=step_defer (P:=P) (fr:={b.atR a todo with mode:=cX qW false}) (cs:=cs) (w:=w) (ds:=[]) (by cases qW<;>exact fun e=>by cases e) hd rfl (Nf SG SH SI)
  have hleave:=step_going_returned (P:=P) (c:={b.atR {a with defers:=[]} todo with mode:=cX qW true}) (cs:=cs) q3 q2
  have nF:c.st.fix≤(dr (bw ord c.st.mem.length) ord m1 c.st.mem).length:=by
   rw[dY _ _ _ _ q8];have:=hs.fix;omega
  refine⟨_,{b.atR {a with defers:=[]} todo with mode:= .returning},w',(hst cs).trans (.head Gj (q1.trans (.one ?_))),⟨b,{a with defers:=[]},todo,rfl,vO,hrb.ext fun i c q=>(r2.bS i c q).1,xw,rfl,rfl,⟨fun k=>(hs.tm k).mono r2,hs.nt,r1,nF,hs.cQ.mono r2.pure⟩⟩,r3,bM.qV r2 _,rfl,rfl,rfl⟩
  rw[hleave]
  simp only[D1]
theorem Kr {c:cm} {b:Frame} {a:Act} {todo:List Item} {u:AV} {cv:Value} (hs:cK E g c.st a w) (hrb:eJ g c.st.b9 b) (vO:b.fn=c.f) (hd:Mk g c.st.cw a.defers) (hu:VA g w u cv) :
  Cm P E g c {b.atR a todo with mode:=cX (some cv) false} w (wA P c u):=by
 unfold wA
 split
 · trivial
 · rename_i xw
   have xw : ∀i,c.st.b9 ≠ .round i:=fun i e=>xw i e
   split
   · rename_i hmk
     split
     · rename_i fn hfn
       intro cs
       have hds:a.defers=[]:=by
        rw[hmk] at hd
        cases hq:a.defers with
        |nil=>rfl
        |cons _ _=>rw[hq] at hd;exact hd.elim
       obtain⟨hnd,nJ⟩:=eU c.st.mem c.st.fix [u]
       generalize close c.st.mem c.st.fix [u]=ord at *
       obtain⟨p1,p2⟩:=hs.rel.pack hnd
       have hlen:c.st.fix≤ord.length:=by
        rcases pn c.st.fix with e | e
        · omega
        · have:=bF (nJ (c.st.fix-1) (by omega));omega
       refine⟨g.pack ord,_,w,aaN _ _,⟨vO,cv,⟨rfl,hds,fn,?_⟩,hu.jk (dA.pack g ord),p1,?_⟩,?_,?_,rfl,rfl,rfl⟩
       · show P.funcs[b.fn]? = some fn
         rw[vO];exact hfn
       · show c.st.fix≤(Am.pack c.st.mem ord).length
         simpa[Am.pack] using hlen
       · exact⟨bj _,fun _ _ _=>rfl,fun _ _ p=>⟨p,rfl⟩,fun _ _ p=> .inl p,fun c' ho=> .inl (p2 c' ho),rfl,rfl,rfl⟩
       · intro k c' hk fm
         have:=nJ k hk
         simp[Gh.pack,this,fm]
     · trivial
   · rename_i gf first caps hmk
     rw[hmk] at hd
     cases hq:a.defers with
     |nil=>rw[hq] at hd;exact hd.elim
     |cons d ds=>
      rw[hq] at hd
      obtain⟨hd1,hd2⟩:=hd
      cases ds with
      |nil=>exact Io (pv:=some u) (qW:=some cv) hs hrb xw vO hq hd1 hu fun cs=>aaN _ _
      |cons _ _=>exact hd2.elim
   · trivial
theorem AL {c:cm} {b:Frame} {a:Act} {todo:List Item} (hs:cK E g c.st a w) (hrb:eJ g c.st.b9 b) (xw : ∀i,c.st.b9 ≠ .round i) (vO:b.fn=c.f) (hd:Mk g c.st.cw a.defers) {fr:Frame}
  (hst : ∀cs,Steps P (lone fr cs w) (lone {b.atR a todo with mode:= .returning} cs w)):Cm P E g c fr w (ending P c):=by
 have key : ∀m,lT c.st.cw c.st.mem=some m→Cm P E g c fr w (lS P {c with st:={c.st with mem:=m,cw:=[]}}):=by
  intro m hm
  obtain⟨w',q1,q2,q3⟩:=Il (P:=P) (b:=b) (todo:=todo) hm hd hs
  have h1:=xK (P:=P) (E:=E) (c:={c with st:={c.st with mem:=m,cw:=[]}}) (b:=b) (a:={a with defers:=[]}) (todo:=todo) q2 hrb xw vO rfl (fr:={b.atR {a with defers:=[]} todo with mode:= .returning}) fun cs=>aaN _ _
  unfold lS at h1 ⊢
  split
  · rename_i fn hfn
    rw[hfn] at h1
    simp only at h1
    split
    · rename_i vs ok hres
      simp only[hres] at h1
      intro hok cs
      obtain⟨g',fr',w2,s1,s2,s3,s4,s5,s6,s7⟩:=h1 hok cs
      exact⟨g',fr',w2,((hst cs).trans (q1 cs)).trans s1,s2,q3.trans s3,s4,s5,s6,s7⟩
    · trivial
  · trivial
 unfold ending
 split
 · rename_i hmk
   have h:=key c.st.mem (by rw[hmk];rfl)
   have e:({c with st:={c.st with mem:=c.st.mem,cw:=[]}}:cm)=c:=by
    obtain⟨f,t,st⟩:=c
    obtain⟨tm,nt,mem,fix,cw,b9⟩:=st
    simp only at hmk
    subst hmk
    rfl
   rw[e] at h
   exact h
 · rename_i gf first caps hmk
   rw[hmk] at hd
   cases hq:a.defers with
   |nil=>rw[hq] at hd;exact hd.elim
   |cons d ds=>
    rw[hq] at hd
    obtain⟨hd1,hd2⟩:=hd
    cases ds with
    |nil=>exact Io (pv:=none) (qW:=none) hs hrb xw vO hq hd1 trivial hst
    |cons _ _=>exact hd2.elim
 · split
   · rename_i m hm
     exact key m hm
   · trivial
end
section
variable {P:Program} {E:Env} {g:Gh} {w:World}
theorem Ip (m:Mem) (b b':aU):(m++[b]).set m.length b'=m++[b']:=by
 rw[List.set_append_right _ _ (bj _)];simp
theorem Gk {st:St} {a:Act} (h:cK E g st a w):cA g w ((upTo st.nt).map (look st.tm)) a.tmps.toList:=by
 refine bH.dF (by simp[h.nt,iR]) fun i hi hi'=> ?_
 have hu:(upTo st.nt)[i]? = some i:=xq st.nt i (by simpa[iR] using hi)
 have e:((upTo st.nt).map (look st.tm))[i]=look st.tm i:=by
  have:((upTo st.nt).map (look st.tm))[i]? = some (look st.tm i):=by rw[dC,hu];rfl
  rw[bm hi] at this
  exact c8 this
 rw[e]
 have:=h.tm i
 rw[xb,fl (by simpa using hi')] at this
 simpa using this
theorem Ks {st:St} {a:Act} (hs:cK E g st a w) (f:FuncId) (ps:Array Tmp) (as bd:Code) :
  ∃g',Rel g' (dQ st f ps as bd) ((w.alloc (.deferred (some []))).alloc (.loop {state:= .ready,pending:=none,fn:=f,tmps:=a.tmps,params:=ps,assign:=as,body:=bd,defers:=w.heap.size})) ∧
   Ext g w g' ((w.alloc (.deferred (some []))).alloc (.loop {state:= .ready,pending:=none,fn:=f,tmps:=a.tmps,params:=ps,assign:=as,body:=bd,defers:=w.heap.size})) ∧
   dc g st.mem w g' (dQ st f ps as bd) ((w.alloc (.deferred (some []))).alloc (.loop {state:= .ready,pending:=none,fn:=f,tmps:=a.tmps,params:=ps,assign:=as,body:=bd,defers:=w.heap.size})) ∧
   g'.bS st.mem.length=some w.heap.size∧g'.bS (st.mem.length+1)=some (w.heap.size+1):=by
 obtain⟨r1,s1⟩:=hs.rel.reserve
 obtain⟨r2,e2,s2⟩:=r1.vL (i:=st.mem.length) (ob:= .J4) (l:=[]) (vs:=[]) (by simp) trivial (eI w (.deferred (some []))) ⟨rfl,rfl⟩
 rw[Ip] at r2 s2
 obtain⟨r3,s3⟩:=r2.reserve
 have hv:=(Gk hs).mono e2
 obtain⟨r4,e4,s4⟩:=r3.vL (i:=st.mem.length+1) (ob:= .loop f ps as bd .ready none) (l:=(upTo st.nt).map (look st.tm)) (vs:=a.tmps.toList)
  (by simp) hv (eI _ (.loop {state:= .ready,pending:=none,fn:=f,tmps:=a.tmps,params:=ps,assign:=as,body:=bd,defers:=w.heap.size})) ⟨w.heap.size,by simp⟩
 have hl:(st.mem++[aU.ob .J4 []]).length=st.mem.length+1:=by simp
 have hse:=Ip (st.mem++[aU.ob .J4 []]) .free (.ob (.loop f ps as bd .ready none) ((upTo st.nt).map (look st.tm)))
 rw[hl] at hse
 rw[hse] at r4 s4
 refine⟨_,r4,e2.trans e4,s1.trans (s2.trans (s3.trans s4)),?_,?_⟩
 · have:=(e4.bS st.mem.length w.heap.size (by simp[Gh.put])).1
   exact this
 · simp[Gh.put]
theorem zW {a:Act} {x:Operand} {f:FuncId} {fa ca:Array Value} {l:Nat} (hx:a.eval x = .func (.func f) fa ca)
  {fn:Func} (hf:P.funcs[f]? = some fn) (hb:fn.body.isSome=true) (hn:(fn.name == "runtime.NumGoroutine")=false) :
  ∃d,(resolve a.eval (rangeCall x l) 0).run P w = .ok d w∧(invoke d.target d.args).run P w = .ok (.enter f (fa ++ #[.func (.yield l) #[] #[]]++ca)) w:=by
 have VT:fn.body.isNone=false:=by cases hq:fn.body<;>simp_all
 refine⟨{target:= .fn (.func f) ca,args:=fa ++ #[.func (.yield l) #[] #[]]},?_,?_⟩
 · simp only[resolve,hx,Deferred.ofValue,im]
   have e:Array.map a.eval #[Operand.const (Value.func (Fn.yield l) #[] #[])] = #[Value.func (Fn.yield l) #[] #[]]:=by simp[Act.eval]
   rw[e]
 · simp only[invoke,callFunc,il,run_program,iu,hf,hn,oE,if_false,VT,im]
theorem D2 {m m':Mem} {L l:Nat} {pd:Option Code} (h:Rel g m w) (hl:g.bS L=some l) (he:gh m L=some (m',pd)) :
  ∃w',(Instr.endLoop l).run P w = .ok pd w'∧Rel g m' w'∧Ext g w g w'∧dc g m w g m' w':=by
 unfold gh at he
 split at he
 · rename_i f ps as bd st Iq vals hb
   have hib:=getD_some hb (by simp)
   obtain⟨c,ob,vs,k1,k2,k3,k4,_⟩:=h.obs L _ _ hib
   rw[hl] at k1;cases k1
   obtain⟨D,rfl⟩:=k4
   have fin:st ≠ .busy→some (m.set L (.ob (.loop f ps as bd .exhausted Iq) vals),Iq)=some (m',pd) → ∃w',(Instr.endLoop l).run P w = .ok pd w'∧Rel g m' w'∧Ext g w g w'∧dc g m w g m' w':=by
    intro hst e
    simp only[cp,ie] at e
    obtain⟨rfl,rfl⟩:=e
    obtain⟨e1,e2,e3⟩:=cW w (o':= .loop {state:= .exhausted,pending:=Iq,fn:=f,tmps:=vs.toArray,params:=ps,assign:=as,body:=bd,defers:=D}) k2
    obtain⟨r1,r2,r3⟩:=h.gz (FM:= .loop f ps as bd .exhausted Iq) (l':=vals) (vs':=vs) hib hl e1 e2 rfl rfl rfl e3 ⟨D,rfl⟩ k3
    exact⟨_,run_endLoop k2 hst,r1,r2,r3⟩
   cases st with
   |busy=>cases he
   |ready=>exact fin (fun e=>by cases e) he
   |done=>exact fin (fun e=>by cases e) he
   |exhausted=>exact fin (fun e=>by cases e) he
 · cases he
theorem Ng {st:St} {a:Act} {b:Frame} {k:List Item} {x:Operand} {ps:Array Tmp} {as bd:Code} {gf:FuncId} {first captured:List AV} {v:AV} {m1 m2:Mem} {pd:Option Code}
  (hs:cK E g st a w) (hr:b.roundOf=none) (hd:Mk g st.cw a.defers) (hx:ev E st.tm x = .fn (.func gf) first captured)
  (hlt:iM (close (dQ st b.fn ps as bd) 0 (first++[.vy (st.mem.length+1)]++captured)) (dQ st b.fn ps as bd).length=true)
  (fo:an P E gf (eR (idx (close (dQ st b.fn ps as bd) 0 (first++[.vy (st.mem.length+1)]++captured))) (first++[.vy (st.mem.length+1)]++captured))
    (pack (dQ st b.fn ps as bd) (close (dQ st b.fn ps as bd) 0 (first++[.vy (st.mem.length+1)]++captured))) v m1)
  (hend:gh (back (close (dQ st b.fn ps as bd) 0 (first++[.vy (st.mem.length+1)]++captured)) none {st with mem:=dQ st b.fn ps as bd} v m1).mem (st.mem.length+1)=some (m2,pd)) :
  ∀cs,∃g' a' w',Steps P (lone (b.atR a (.code (.rangeFunc x ps as bd)::k)) cs w) (lone (b.atR a' ((pd.map Item.code).toList++k)) cs w') ∧
   Mk g' (.range st.mem.length::st.cw) a'.defers∧cK E g' {st with mem:=m2,cw:= .range st.mem.length::st.cw} a' w'∧dc g st.mem w g' m2 w'∧bM g g' st.fix ∧ ∀i c,g.bS i=some c→g'.bS i=some c:=by
 intro cs
 obtain⟨g1,r1,e1,s1,d1,d2⟩:=Ks hs b.fn ps as bd
 generalize hM:dQ st b.fn ps as bd=M at *
 generalize hW:(w.alloc (.deferred (some []))).alloc (.loop {state:= .ready,pending:=none,fn:=b.fn,tmps:=a.tmps,params:=ps,assign:=as,body:=bd,defers:=w.heap.size})=W at *
 have hlM:st.mem.length+2≤M.length:=by rw[←hM];simp[dQ]
 have zM:=gk hs x
 rw[hx,VA.fns] at zM
 obtain⟨fa,ca,zM,WJ,hca⟩:=zM
 obtain⟨⟨fn,SG,SH,SI⟩,fo⟩:=fo
 obtain⟨d,hres,hinv⟩:=zW (P:=P) (w:=W) (l:=w.heap.size+1) zM SG SH SI
 have Gj:=stepR_rangeFunc (P:=P) (b:=b) (a:=a) (k:=k) (cs:=cs) (w:=w) (g:=x) (ps:=ps) (assign:=as) (body:=bd) (w₁:=W) (by rw[hr,←hW];exact run_enterLoop_outer _ _ _ _ _) hres hinv
 have hargs:cA g1 W (first++[.vy (st.mem.length+1)]++captured) (fa ++ #[Value.func (.yield (w.heap.size+1)) #[] #[]]++ca).toList:=by
  simp only[zd]
  have hy:cA g1 W [.vy (st.mem.length+1)] [Value.func (.yield (w.heap.size+1)) #[] #[]]:=⟨.vy _ _ d2,trivial⟩
  exact((WJ.mono e1).append hy).append (hca.mono e1)
 generalize first++[.vy (st.mem.length+1)]++captured=args at *
 obtain⟨hnd,_⟩:=eU M 0 args
 generalize close M 0 args=ord at *
 obtain⟨MY,MZ⟩:=r1.pack hnd
 have l8:=dA.pack g1 ord
 have abz:fY E g1 W:=hs.cQ.mono e1.pure
 obtain⟨w',g',cv,fr,q1,q2,q3,q4,q5,q6,q7,q8⟩:=fo (g1.pack ord) W _ (b.atR {a with defers:=[{target:= .collected w.heap.size,args:= #[]}]++a.defers} (.inRangeFunc (w.heap.size+1)::k)::cs) MY
  (cA.jk l8 hargs) (abz.mono fun _ _ p=>⟨p,rfl⟩)
 have hlen:(Am.pack M ord).length=ord.length:=by simp[Am.pack]
 rw[hlen] at q7 q8
 obtain⟨r2,e2,s2,r4⟩:=r1.back hnd (fJ hlt) q5 q6 q7 q8
 have hmem:(back ord none {st with mem:=M} v m1).mem=dr (bw ord M.length) ord m1 M:=rfl
 rw[hmem] at hend
 have hL:(g1.back g' ord M.length).bS (st.mem.length+1)=some (w.heap.size+1):=(e2.bS _ _ d2).1
 obtain⟨w2,f1,f2,f3,f4⟩:=D2 (P:=P) r2 hL hend
 have hleave:=step_leave_returned (P:=P) (c:=b.atR {a with defers:=[{target:= .collected w.heap.size,args:= #[]}]++a.defers} (.inRangeFunc (w.heap.size+1)::k)) (cs:=cs) q2
 rw[finish_atR_inRangeFunc] at hleave
 have D3:Ext g w (g1.back g' ord M.length) w2:=(e1.trans e2).trans f3
 have hm2:st.fix≤m2.length:=by
  have pS:=dY (bw ord M.length) ord m1 M q8
  have MV:m2.length=(dr (bw ord M.length) ord m1 M).length:=by
   unfold gh at hend
   split at hend
   · split at hend
     · cases hend
     · simp only[cp,ie] at hend
       obtain⟨rfl,_⟩:=hend
       simp
   · cases hend
  have:=hs.fix
  omega
 refine⟨g1.back g' ord M.length,{a with defers:=[{target:= .collected w.heap.size,args:= #[]}]++a.defers},w2,.head Gj (q1.trans (.head hleave (.one (stepR_endRangeFunc f1)))),?_,?_,s1.trans (s2.trans f4),bM.qV D3 _,fun i c q=>(D3.bS i c q).1⟩
 · exact⟨⟨w.heap.size,(e2.bS _ _ d1).1,rfl⟩,hd.ext fun i c q=>(D3.bS i c q).1⟩
 · exact⟨fun j=>(hs.tm j).mono D3,hs.nt,f2,hm2,hs.cQ.mono D3.pure⟩
end
section
variable {P:Program} {E:Env} {g:Gh} {w:World}
theorem dO {id:Nat} : ∀{k k':List It},cg id k=some k'→exitTo id (dU k)=some (dU k')
 |[],_,h=>by simp[cg] at h
 |.inBlock i::k,k',h=>by
  simp only[cg] at h
  cases hb:ae i id with
  |true=>
   simp only[hb,cond_true,cp] at h;subst h
   have:=ag hb
   subst this
   simp[dU,er,exitTo]
  |false=>
   simp only[hb,cond_false] at h
   have hne:(i==id)=false:=by
    rw[beq_eq_false_iff_ne];intro e;subst e;simp[ua] at hb
   simp only[dU,er,aaQ,M2,exitTo,hne,oE,if_false]
   exact dO h
 |.code _ _::k,k',h=>by
  simp only[cg] at h
  simpa[dU,er,exitTo] using dO h
 |.ops _ _ _ _::k,k',h=>by
  simp only[cg] at h
  simpa[dU,er,exitTo] using dO h
 |.inLoop _ _::k,k',h=>by
  simp only[cg] at h
  simpa[dU,er,exitTo] using dO h
 |.forget _::k,k',h=>by
  simp only[cg] at h
  simpa[dU,er] using dO h
 |.fin::k,k',h=>by
  simp only[cg] at h
  simpa[dU,er] using dO h
 |.zz _::k,k',h=>by
  simp only[cg] at h
  simpa[dU,er] using dO h
 |.gQ _::k,k',h=>by
  simp only[cg] at h
  simpa[dU,er] using dO h
 |.leave::k,k',h=>by
  simp only[cg] at h
  simpa[dU,er] using dO h
 |.begin::k,k',h=>by
  simp only[cg] at h
  simpa[dU,er,exitTo] using dO h
 |.inScope _::k,k',h=>by
  simp only[cg] at h
  simpa[dU,er,exitTo] using dO h
theorem dh {id:Nat} : ∀{k:List It},cg id k=none→exitTo id (dU k)=none
 |[],_=>rfl
 |.inBlock i::k,h=>by
  simp only[cg] at h
  cases hb:ae i id with
  |true=>simp[hb] at h
  |false=>
   simp only[hb,cond_false] at h
   have hne:(i==id)=false:=by
    rw[beq_eq_false_iff_ne];intro e;subst e;simp[ua] at hb
   simp only[dU,er,aaQ,M2,exitTo,hne,oE,if_false]
   exact dh h
 |.code _ _::k,h=>by
  simp only[cg] at h
  simpa[dU,er,exitTo] using dh h
 |.ops _ _ _ _::k,h=>by
  simp only[cg] at h
  simpa[dU,er,exitTo] using dh h
 |.inLoop _ _::k,h=>by
  simp only[cg] at h
  simpa[dU,er,exitTo] using dh h
 |.forget _::k,h=>by
  simp only[cg] at h
  simpa[dU,er] using dh h
 |.fin::k,h=>by
  simp only[cg] at h
  simpa[dU,er] using dh h
 |.zz _::k,h=>by
  simp only[cg] at h
  simpa[dU,er] using dh h
 |.gQ _::k,h=>by
  simp only[cg] at h
  simpa[dU,er] using dh h
 |.leave::k,h=>by
  simp only[cg] at h
  simpa[dU,er] using dh h
 |.begin::k,h=>by
  simp only[cg] at h
  simpa[dU,er,exitTo] using dh h
 |.inScope _::k,h=>by
  simp only[cg] at h
  simpa[dU,er,exitTo] using dh h
theorem dP {l:Nat} : ∀{k k':List It},eM l k=some k'→gotoIn l (dU k)=some (dU k')
 |[],_,h=>by simp[eM] at h
 |.inScope b::k,k',h=>by
  simp only[eM] at h
  simp only[dU,er,aaQ,M2,gotoIn]
  cases hf:findLabel b l with
  |some rest=>
   simp only[hf,cp] at h;subst h
   rfl
  |none=>
   simp only[hf] at h
   exact dP h
 |.code _ _::k,k',h=>by
  simp only[eM] at h
  simpa[dU,er,gotoIn] using dP h
 |.ops _ _ _ _::k,k',h=>by
  simp only[eM] at h
  simpa[dU,er,gotoIn] using dP h
 |.inBlock _::k,k',h=>by
  simp only[eM] at h
  simpa[dU,er,gotoIn] using dP h
 |.inLoop _ _::k,k',h=>by
  simp only[eM] at h
  simpa[dU,er,gotoIn] using dP h
 |.forget _::k,k',h=>by
  simp only[eM] at h
  simpa[dU,er] using dP h
 |.fin::k,k',h=>by
  simp only[eM] at h
  simpa[dU,er] using dP h
 |.zz _::k,k',h=>by
  simp only[eM] at h
  simpa[dU,er] using dP h
 |.gQ _::k,k',h=>by
  simp only[eM] at h
  simpa[dU,er] using dP h
 |.leave::k,k',h=>by
  simp only[eM] at h
  simpa[dU,er] using dP h
 |.begin::k,k',h=>by
  simp only[eM] at h
  simpa[dU,er,gotoIn] using dP h
theorem pY {l:Nat} : ∀{k k':List It},(∀x∈k,It.pl x)→eM l k=some k' → ∀x∈k',It.pl x
 |[],_,_,h=>by simp[eM] at h
 |x::k,k',hf,h=>by
  have ht : ∀y∈k,It.pl y:=fun y hy=>hf y (.tail _ hy)
  cases x with
  |inScope b=>
   simp only[eM] at h
   cases hl:findLabel b l with
   |some rest=>
    simp only[hl,cp] at h;subst h
    intro y hy
    cases hy with
    |head=>exact trivial
    |tail _ hy=>exact hf y hy
   |none=>
    simp only[hl] at h
    exact pY ht h
  |_=>simp only[eM] at h;exact pY ht h
theorem pZ {id:Nat} : ∀{k k':List It},(∀x∈k,It.pl x)→cg id k=some k' → ∀x∈k',It.pl x
 |[],_,_,h=>by simp[cg] at h
 |x::k,k',hf,h=>by
  have ht : ∀y∈k,It.pl y:=fun y hy=>hf y (.tail _ hy)
  cases x with
  |inBlock i=>
   simp only[cg] at h
   cases hb:ae i id with
   |true=>simp only[hb,cond_true,cp] at h;subst h;exact ht
   |false=>simp only[hb,cond_false] at h;exact pZ ht h
  |_=>simp only[cg] at h;exact pZ ht h
theorem D4 {g':Gh} {ρ:Nat→Option Nat} {f:Nat→Value} : ∀(keep:List Nat) (tm:sA),(∀k,VA g' w (jk ρ (look tm k)) (f k)) → ∀k,VA g' w (look (keep.zip (eR ρ (keep.map (look tm)))) k) (f k)
 |[],tm,_,k=> .aj _
 |i::keep,tm,h,k=>by
  simp only[List.map_cons,eR,aaR,jy]
  by_cases e:i=k
  · subst e;simp only[if_true];exact h i
  · simp only[e,if_false];exact D4 keep tm h k
theorem xL {keep:List Nat} {st:St}:(forget keep st).b9=st.b9:=by
 obtain⟨tm,nt,mem,fix,cw,b9⟩:=st
 cases cw with
 |cons i l=>rfl
 |nil=>cases b9<;>rfl
theorem uD {keep:Option (List Nat)} {st:St}:(iD keep st).b9=st.b9:=by
 cases keep with
 |none=>rfl
 |some keep=>exact xL
theorem AM {st:St} {a:Act} (h:cK E g st a w) (keep:List Nat) : ∃g',cK E g' (forget keep st) a w∧dc g st.mem w g' (forget keep st).mem w∧bM g g' st.fix∧(forget keep st).fix=st.fix∧(∀ds,Mk g st.cw ds→Mk g' (forget keep st).cw ds) ∧ ∀b,eJ g st.b9 b→eJ g' (forget keep st).b9 b:=by
 obtain⟨tm,nt,mem,fix,cw,b9⟩:=st
 have stay:forget keep ⟨tm,nt,mem,fix,cw,b9⟩=⟨tm,nt,mem,fix,cw,b9⟩→_:=fun this=>(show ∃g',cK E g' (forget keep ⟨tm,nt,mem,fix,cw,b9⟩) a w∧dc g mem w g' (forget keep ⟨tm,nt,mem,fix,cw,b9⟩).mem w∧bM g g' fix∧(forget keep ⟨tm,nt,mem,fix,cw,b9⟩).fix=fix∧(∀ds,Mk g cw ds→Mk g' (forget keep ⟨tm,nt,mem,fix,cw,b9⟩).cw ds) ∧ ∀b,eJ g b9 b→eJ g' (forget keep ⟨tm,nt,mem,fix,cw,b9⟩).b9 b from by
  rw[this]
  exact⟨g,h,dc.refl _ _ _,bM.refl _ _,rfl,fun _ q=>q,fun _ q=>q⟩)
 cases cw with
 |cons i cw=>exact stay rfl
 |nil=>
  cases b9 with
  |round i=>exact stay rfl
  |late=>exact stay rfl
  |call=>
   obtain⟨hnd,nJ⟩:=eU mem fix (keep.map (look tm))
   obtain⟨h1,h2⟩:=h.rel.pack hnd
   have hlen:fix≤(close mem fix (keep.map (look tm))).length:=by
    rcases pn fix with e | e
    · omega
    · have:=bF (nJ (fix-1) (by omega));omega
   refine⟨g.pack (close mem fix (keep.map (look tm))),⟨D4 keep tm fun k=>(h.tm k).jk (dA.pack g _),h.nt,h1,?_,h.cQ.mono fun _ _ p=>⟨p,rfl⟩⟩,?_,?_,rfl,?_,fun _ q=>q⟩
   · show fix≤(Am.pack mem _).length
     simpa[Am.pack] using hlen
   · exact⟨bj _,fun _ _ _=>rfl,fun _ _ p=>⟨p,rfl⟩,fun _ _ p=> .inl p,fun c ho=> .inl (h2 c ho),rfl,rfl,rfl⟩
   · intro k c hk hc
     have:=nJ k hk
     simp[Gh.pack,this,hc]
   · intro ds hd
     cases ds with
     |nil=>exact trivial
     |cons _ _=>exact hd.elim
theorem xM {st:St} {a:Act} (h:cK E g st a w) (keep:Option (List Nat)) : ∃g',cK E g' (iD keep st) a w∧dc g st.mem w g' (iD keep st).mem w∧bM g g' st.fix∧(iD keep st).fix=st.fix∧(∀ds,Mk g st.cw ds→Mk g' (iD keep st).cw ds) ∧ ∀b,eJ g st.b9 b→eJ g' (iD keep st).b9 b:=by
 cases keep with
 |none=>exact⟨g,h,dc.refl _ _ _,bM.refl _ _,rfl,fun _ q=>q,fun _ q=>q⟩
 |some keep=>exact AM h keep
theorem nK (keep:Option (List Nat)) (k:List It):dU (eS keep k)=dU k:=by cases keep<;>rfl
theorem nL {keep:Option (List Nat)} {k:List It} (h : ∀x∈k,It.pl x) : ∀x∈eS keep k,It.pl x:=by
 cases keep with
 |none=>exact h
 |some keep=>
  intro x hx
  cases hx with
  |head=>exact trivial
  |tail _ hx=>exact h x hx
theorem xN {st:St} {a:Act} {i l:Nat} {f:FuncId} {ps:Array Tmp} {as bd:Code} {s s':LoopState} {pd Iq:Option Code} {vals:List AV}
  (h:cK E g st a w) (hl:g.bS i=some l) (hb:st.mem.getD i .dead = .ob (.loop f ps as bd s pd) vals) :
  ∃r:Loop,w.heap[l]? = some (.loop r)∧r.state=s ∧
   Rel g (st.mem.set i (.ob (.loop f ps as bd s' Iq) vals)) (w.putObj l (.loop {r with state:=s',pending:=Iq})) ∧
   Ext g w g (w.putObj l (.loop {r with state:=s',pending:=Iq})) ∧
   dc g st.mem w g (st.mem.set i (.ob (.loop f ps as bd s' Iq) vals)) (w.putObj l (.loop {r with state:=s',pending:=Iq})) ∧
   fD g st.mem l:=by
 have hib:=getD_some hb (by simp)
 obtain⟨c,ob,vs,k1,k2,k3,k4,_⟩:=h.rel.obs i _ _ hib
 rw[hl] at k1;cases k1
 obtain⟨D,rfl⟩:=k4
 obtain⟨e1,e2,e3⟩:=cW w (o':= .loop {state:=s',pending:=Iq,fn:=f,tmps:=vs.toArray,params:=ps,assign:=as,body:=bd,defers:=D}) k2
 obtain⟨r1,r2,r3⟩:=h.rel.gz (FM:= .loop f ps as bd s' Iq) (l':=vals) (vs':=vs) hib hl e1 e2 rfl rfl rfl e3 ⟨D,rfl⟩ k3
 exact⟨_,k2,rfl,r1,r2,r3,i,_,hib,rfl,hl⟩
theorem nM {c:cm} {b:Frame} {a:Act} {i l:Nat} {jump:Option Code} {todo:List Item} (hs:cK E g c.st a w) (hrn:c.st.b9 = .round i) (hl:g.bS i=some l) (vO:b.fn=c.f)
  (hst : ∀(v:Value) (w':World),(Instr.endRound l jump).run P w = .ok v w' → ∀(d:Frame) (cs:List Frame),_root_.Go.step P (lone (b.atR a todo) (d::cs) w) = .next (lone (d.finish v) cs w')) :
  Cm P E g c (b.atR a todo) w (m8 c i jump):=by
 unfold m8
 split
 · rename_i f ps as bd s pd vals hb
   dsimp only
   cases hlt:ar i c.st.fix with
   |false=>trivial
   |true=>
   rw[Nat.blt_eq] at hlt
   intro cs
   obtain⟨r,q1,_,q2,q3,q4,q5⟩:=xN (s':=fC jump) (Iq:=jump) hs hl hb
   have hrun:=run_endRound (P:=P) jump q1
   have WX:(if jump.isNone then LoopState.ready else .done)=(fC jump):=by cases jump<;>rfl
   rw[WX] at hrun
   generalize hm:c.st.mem.set i (.ob (.loop f ps as bd (fC jump) jump) vals)=m at *
   obtain⟨hnd,nJ⟩:=eU m c.st.fix []
   generalize Na:close m c.st.fix []=ord at *
   obtain⟨p1,p2⟩:=q2.pack hnd
   have hlen:c.st.fix≤ord.length:=by
    rcases pn c.st.fix with e | e
    · omega
    · have:=bF (nJ (c.st.fix-1) (by omega));omega
   have own : ∀c',fD (g.pack ord) (Am.pack m ord) c'→fD g c.st.mem c':=fun c' ho=>(q4.owned c' (p2 c' ho)).elim id fun hh=>by
    have h1:=q2.kX (p2 c' ho)
    rw[World.putObj_size] at h1
    omega
   refine⟨g.pack ord,_,w,aaN _ _,⟨vO,.bool jump.isNone,_,?_,.p _ _ (.sc _),p1,?_,?_⟩,?_,?_,rfl,rfl,rfl⟩
   · show M0 P c.st.b9 _ w _ _
     rw[hrn]
     exact fun d cs=> .one (hst _ _ hrun d cs)
   · have hol:fD (g.pack ord) (Am.pack m ord) l:=by
      have hi:=nJ i hlt
      have him:m[i]? = some (.ob (.loop f ps as bd (fC jump) jump) vals):=by
       rw[←hm,ln (bF (getD_some hb (by simp)))]
      refine⟨i,gd (idx ord) (.ob (.loop f ps as bd (fC jump) jump) vals),?_,rfl,by simp[Gh.pack,hi,hl]⟩
      unfold Am.pack
      rw[dC,hi]
      simp[cb,him]
     exact⟨by simp,fun c' _ hno=>World.putObj_heap_other fun e=>hno (e▸hol),fun c' o p=>⟨p,(q4.pure c' o p).2⟩,fun _ _ p=> .inl p,fun _ ho=> .inl ho,rfl,rfl,rfl⟩
   · show c.st.fix≤(Am.pack m ord).length
     simpa[Am.pack] using hlen
   · exact⟨bj _,fun _ _ _=>rfl,fun _ _ p=>⟨p,rfl⟩,fun _ _ p=> .inl p,fun c' ho=> .inl (own c' ho),rfl,rfl,rfl⟩
   · intro k c' hk fm
     have:=nJ k hk
     simp[Gh.pack,this,fm]
 · trivial
theorem gV {c:cm} {fr:Frame} (h:dN P E g c fr w):Cm P E g c fr w (Am.step P E c):=by
 obtain⟨f,todo,st⟩:=c
 cases todo with
 |nil=>
  obtain⟨b,a,rfl,h1,h2,h3,h4,_⟩:=h
  simp only[Am.step]
  split
  · rename_i i hr
    rw[hr] at h2
    obtain⟨hk,l,hl,hro⟩:=h2
    exact nM (c:=⟨f,[],st⟩) h4 hr hl h1 fun v w' hrun d cs=>stepR_round_end hro hk hrun
  · rename_i xw
    have xw : ∀i,st.b9 ≠ .round i:=fun i e=>xw i e
    exact AL (c:=⟨f,[],st⟩) (b:=b) (a:=a) (todo:=[]) h4 h2 xw h1 h3 fun cs=> .one (stepR_end (h2.Ck xw))
 |cons x k=>
  by_cases nE:It.pl x
  case neg=>
   cases x with
   |fin=>
    obtain⟨h1,cv,w2,h2,h3,h4,h6,h5⟩:=h
    exact⟨h1,rfl,cv,w2,h2,h3,h4,h6,h5⟩
   |zz u=>
    obtain⟨h1,cv,h2,h3,h4,h5⟩:=h
    exact⟨h1,rfl,cv,h2,h3,h4,h5⟩
   |gQ u=>
    obtain⟨b,a,todo,cv,rfl,h1,h2,h3,h4,h5⟩:=h
    exact Kr (c:=⟨f,.gQ u::k,st⟩) h4 h2 h1 h3 h5
   |leave=>
    obtain⟨b,a,todo,rfl,h1,h2,h3,_,h5,h6⟩:=h
    exact xK (c:=⟨f,.leave::k,st⟩) (b:=b) (a:=a) (todo:=todo) h6 h2 h3 h1 h5 fun cs=>aaN _ _
   |_=>exact absurd trivial nE
  have h' : ∃(b:Frame) (a:Act),fr=b.atR a (er x++dU k)∧b.fn=f∧eJ g st.b9 b∧Mk g st.cw a.defers∧cK E g st a w ∧ ∀y∈x::k,It.pl y:=by
   cases x<;>first
    |exact absurd nE id
    |exact h
  obtain⟨b,a,rfl,h1,h2,h3,h4,hxk⟩:=h'
  have hk : ∀y∈k,It.pl y:=fun y hy=>hxk y (.tail _ hy)
  clear h
  cases x with
  |fin=>exact absurd nE id
  |zz u=>exact absurd nE id
  |gQ u=>exact absurd nE id
  |leave=>exact absurd nE id
  |begin=>
   simp only[Am.step]
   split
   · rename_i i hr
     unfold wB
     split
     · rename_i f' ps as bd pd vals hb
       intro cs
       have h2':=h2
       rw[hr] at h2'
       obtain⟨_,l,hl,hro⟩:=h2'
       obtain⟨r,q1,q0,q2,q3,q4,_⟩:=xN (s':= .busy) (Iq:=pd) h4 hl hb
       have hp:r.pending=pd:=by
        have hib:=getD_some hb (by simp)
        obtain⟨c,ob,vs,k1,k2,k3,k4,_⟩:=h4.rel.obs i _ _ hib
        rw[hl] at k1;cases k1
        obtain⟨D,rfl⟩:=k4
        rw[q1] at k2;cases k2
        rfl
       have hrun:=run_beginRound (P:=P) q1 q0
       rw[show({r with state:= .busy}:Loop)={r with state:= .busy,pending:=pd} by rw[←hp]] at hrun
       refine⟨g,_,_,.one (stepR_beginRound hro hrun),dN.mk (a:=a) (c:=⟨f,k,{st with mem:=st.mem.set i (.ob (.loop f' ps as bd .busy pd) vals)}⟩) hk h1 h2 h3 ⟨fun j=>(h4.tm j).mono q3,h4.nt,q2,by simpa using h4.fix,h4.cQ.mono q3.pure⟩,q4,bM.refl _ _,rfl,rfl,rfl⟩
     · trivial
   · trivial
  |inScope bd=>exact eN.quiet (fun cs=> .one (step_lone_go (by simp[stepG,stepG.exec,yn,er]))) hk h1 rfl h2 h3 h4 rfl rfl
  |inBlock id=>exact eN.quiet (fun cs=> .one stepR_inBlock) hk h1 rfl h2 h3 h4 rfl rfl
  |forget keep=>
   intro cs
   obtain⟨g',q1,q2,q3,q4,q5,q6⟩:=AM h4 keep
   exact⟨g',_,w,aaN _ _,dN.mk (c:=⟨f,k,forget keep st⟩) hk h1 (q6 _ h2) (q5 _ h3) q1,q2,q3,rfl,q4,xL⟩
  |inLoop i body=>
   intro cs
   obtain⟨g',q1,q2,q3,q4,q5,q6⟩:=xM h4 (E.keep f (2*i))
   exact⟨g',_,w,.one stepR_inLoop,dN.mk (c:=⟨f,.code (i+1) body :: .inLoop i body::k,iD (E.keep f (2*i)) st⟩) (nf trivial (nf trivial hk)) h1 (q6 _ h2) (q5 _ h3) q1,q2,q3,rfl,q4,uD⟩
  |ops bZ ops i sure=>
   simp only[Am.step]
   cases ho:ops[i]? with
   |none=>
    have hi:ops.size-i=0:=by
     have:ops.size≤i:=by
      rcases fb i ops.size with q | q
      · rw[fl q] at ho;cases ho
      · exact q
     omega
    refine eN.quiet (c':=⟨f,k,st⟩) (fun cs=> .one ?_) hk h1 rfl h2 h3 h4 rfl rfl
    simp only[er,hi,List.range'_zero,aaQ,M2]
    exact stepR_region_end
   |some o=>
    obtain⟨w1,w2,w3⟩:=oz h4 (ops:=ops) (o:=o)
    have hi:i<ops.size:=by
     rcases fb i ops.size with q | q
     · exact q
     · rw[yv q] at ho;cases ho
    have skip:Region.wanted o (yielded ops a.tmps)=false→fits st o.dst=true→eN P E g ⟨f,.ops bZ ops i sure::k,st⟩ (b.atR a (er (.ops bZ ops i sure)++dU k)) w ⟨f,.ops bZ ops (i+1) false::k,put st o.dst (.aA [])⟩:=by
     intro hw hf cs
     have hst:=stepR_op_skip (P:=P) (b:=b) (a:=a) (k:=dU k) (cs:=cs) (w:=w) (ops:=ops) (i:=i) (rest:=wx (i+1) (ops.size-(i+1))) (by simp[ho,hw])
     simp only[ho,Option.bind_some] at hst
     rw[←nD hi] at hst
     have hp:=h4.put (v:= .aA []) (cv:=undef) hf (VA.mR.2 trivial) (Ext.refl g w) h4.rel h4.fix
     refine⟨g,_,w,.one hst,dN.mk (a:=a.put o.dst undef) (c:=⟨f,.ops bZ ops (i+1) false::k,put st o.dst (.aA [])⟩) (nf trivial hk) h1 (h2.put (Ext.refl g w) rfl) (h3.put (Ext.refl g w) rfl) hp,?_,bM.refl _ _,rfl,?_,iG⟩
     · have:(put st o.dst (.aA [])).mem=st.mem:=by unfold Am.put;cases o.dst<;>rfl
       show dc g st.mem w g (put st o.dst (.aA [])).mem w
       rw[this];exact dc.refl _ _ _
     · show(put st o.dst (.aA [])).fix=st.fix
       unfold Am.put;cases o.dst<;>rfl
    dsimp only
    cases Gc:ep ops st.tm o with
    |yes=>exact Ij (c:=⟨f,.ops bZ ops i sure::k,st⟩) h4 h1 h2 h3 ho (w1 Gc) hk
    |no=>
     dsimp only
     cases hf:fits st o.dst with
     |false=>trivial
     |true=>exact skip (w2 Gc) hf
    |lost=>trivial
    |ask d bb want=>
     obtain⟨q1,q2⟩:=w3 d bb want Gc
     dsimp only
     cases sure with
     |false=>
      have known : ∀b':Bool,bb=b'→eN P E g ⟨f,.ops bZ ops i false::k,st⟩ (b.atR a (er (.ops bZ ops i false)++dU k)) w ⟨f,.ops bZ ops i true::k,put st (some d) (sB b')⟩:=by
       intro b' e
       subst e
       refine eN.quiet (c':=⟨f,.ops bZ ops i true::k,put st (some d) (sB bb)⟩) (fun cs=>aaN _ _) (nf trivial hk) h1 rfl h2 h3 (h4.known ?_) rfl rfl
       rw[q2];exact .p _ _ (.sc _)
      exact⟨known true,known false⟩
     |true=>
      dsimp only
      cases hb:bb==want with
      |true=>exact Ij (c:=⟨f,.ops bZ ops i true::k,st⟩) h4 h1 h2 h3 ho (q1.trans hb) hk
      |false=>
       dsimp only
       cases hf:fits st o.dst with
       |false=>trivial
       |true=>exact skip (q1.trans hb) hf
  |code i code=>
   cases code with
   |skip=>exact eN.quiet (c':=⟨f,k,st⟩) (fun cs=> .one stepR_skip) hk h1 rfl h2 h3 h4 rfl rfl
   |region id ops draw=>
    cases draw with
    |true=>
     simp only[Am.step]
     split
     · rename_i st' ok hq
       intro hok cs
       subst hok
       obtain⟨g',a',w',r1,r2,r3,r4,r5,r6,r7⟩:=SN (b:=b) (k:=dU k) h4 hq
       refine⟨g',_,w',r1 cs,dN.mk (a:=a') (c:=⟨f,k,{st' with cw:=st.cw,b9:=st.b9}⟩) hk h1 (h2.ext r7) (by rw[r2];exact h3.ext r7) ⟨r3.tm,r3.nt,r3.rel,r3.fix,r3.cQ⟩,r4,r5,rfl,r6,rfl⟩
     · split
       · rename_i sts hq
         obtain⟨st',hm,g',a',w',r1,r2,r3,r4,r5,r6,r7⟩:=SU (b:=b) (k:=dU k) (bZ:=id) h4 hq
         intro cs
         exact⟨_,ed.2 ⟨st',hm,rfl⟩,g',_,w',r1 cs,dN.mk (a:=a') (c:=⟨f,k,{st' with cw:=st.cw,b9:=st.b9}⟩) hk h1 (h2.ext r7) (by rw[r2];exact h3.ext r7) ⟨r3.tm,r3.nt,r3.rel,r3.fix,r3.cQ⟩,r4,r5,rfl,r6,rfl⟩
       intro O st' hO hq cs
       obtain⟨g',a',w',r1,r2,r3,r4,r5,r6,r7⟩:=WV (b:=b) (k:=k) hO h4 hq cs
       have hk' : ∀y∈iq id ops k,It.pl y:=by
        unfold iq
        cases sF ops with
        |false=>exact hk
        |true=>exact nf trivial hk
       exact⟨g',_,w',r1,dN.mk (a:=a') (c:=⟨f,iq id ops k,{st' with cw:=st.cw,b9:=st.b9}⟩) hk' h1 (h2.ext r7) (by rw[r2];exact h3.ext r7) ⟨r3.tm,r3.nt,r3.rel,r3.fix,r3.cQ⟩,r4,r5,rfl,r6,rfl⟩
    |false=>
     refine eN.quiet (c':=⟨f,.ops id ops 0 false::k,st⟩) (fun cs=> .one ?_) (nf trivial hk) h1 rfl h2 h3 h4 rfl rfl
     have:=stepR_region (P:=P) (b:=b) (a:=a) (k:=dU k) (cs:=cs) (w:=w) (ops:=ops) (id:=id)
     simpa[dU,er,aaP] using this
   |seq x y=>exact eN.quiet (c':=⟨f,.code i x :: .code (i+nodes x) y::k,st⟩) (fun cs=> .one stepR_seq) (nf trivial (nf trivial hk)) h1 rfl h2 h3 h4 rfl rfl
   |cond x y z=>
    simp only[Am.step]
    split
    · rename_i t hx
      have hv:=gk h4 x
      rw[hx,VA.pv] at hv
      generalize hz:a.eval x=cv at hv
      cases hv
      refine⟨fun e=> ?_,fun e=> ?_⟩<;>subst e
      · refine eN.quiet (c':=⟨f,.code (i+1) y::eS (E.keep f (2*i)) k,st⟩) (fun cs=> .one ?_) (nf trivial (nL hk)) h1 rfl h2 h3 h4 rfl rfl
        simp only[dU,nK];exact stepR_cond hz
      · refine eN.quiet (c':=⟨f,.code (i+1+nodes y) z::eS (E.keep f (2*i)) k,st⟩) (fun cs=> .one ?_) (nf trivial (nL hk)) h1 rfl h2 h3 h4 rfl rfl
        simp only[dU,nK];exact stepR_cond hz
    · trivial
   |block id body=>exact eN.quiet (c':=⟨f,.code i body :: .inBlock id::k,st⟩) (fun cs=> .one stepR_block) (nf trivial (nf trivial hk)) h1 rfl h2 h3 h4 rfl rfl
   |loop body=>
    intro cs
    obtain⟨g',q1,q2,q3,q4,q5,q6⟩:=xM h4 (E.keep f (2*i))
    refine⟨g',b.atR a (dU (.code (i+1) body :: .inLoop i body::eS (E.keep f (2*i+1)) k)),w,.one ?_,dN.mk (c:=⟨f,.code (i+1) body :: .inLoop i body::eS (E.keep f (2*i+1)) k,iD (E.keep f (2*i)) st⟩) (nf trivial (nf trivial (nL hk))) h1 (q6 _ h2) (q5 _ h3) q1,q2,q3,rfl,q4,uD⟩
    simp only[dU,nK];exact stepR_loop
   |exit id=>
    simp only[Am.step]
    split
    · rename_i k' hk'
      exact eN.quiet (c':=⟨f,k',st⟩) (fun cs=> .one (stepR_exit (dO hk'))) (pZ hk hk') h1 rfl h2 h3 h4 rfl rfl
    · rename_i hx
      split
      · rename_i j hr
        rw[hr] at h2
        obtain⟨hk,l,hl,hro⟩:=h2
        exact nM (c:=⟨f,.code i (.exit id)::k,st⟩) h4 hr hl h1 fun v w' hrun d cs=>stepR_round_exit hro hk (dh hx) hrun
      · trivial
   |scope bd=>exact eN.quiet (c':=⟨f,.code i bd :: .inScope bd::k,st⟩) (fun cs=> .one (step_lone_go (by simp[stepG,stepG.exec,yn,dU,er]))) (nf trivial (nf trivial hk)) h1 rfl h2 h3 h4 rfl rfl
   |label l=>exact eN.quiet (c':=⟨f,k,st⟩) (fun cs=> .one stepR_label) hk h1 rfl h2 h3 h4 rfl rfl
   |goto l=>
    simp only[Am.step]
    split
    · rename_i k' hk'
      exact eN.quiet (c':=⟨f,k',st⟩) (fun cs=> .one (stepR_goto (dP hk'))) (pY hk hk') h1 rfl h2 h3 h4 rfl rfl
    · trivial
   |rangeFunc x ps as bd=>
    simp only[Am.step]
    split
    · rename_i hr
      have h2':=h2
      rw[hr] at h2'
      unfold HW
      split
      · rename_i gf first captured hx
        dsimp only
        cases hlt:iM (close (dQ st f ps as bd) 0 (first++[.vy (st.mem.length+1)]++captured)) (dQ st f ps as bd).length with
        |false=>trivial
        |true=>
         subst h1
         intro v m1 hd m2 pd hend cs
         obtain⟨g',a',w',s1,s2,s3,s4,s5,s6⟩:=Ng (P:=P) (k:=dU k) h4 h2'.2 h3 hx hlt hd hend cs
         have e:(pd.map Item.code).toList++dU k=dU (behind ⟨b.fn,k,{st with mem:=dQ st b.fn ps as bd,cw:= .range st.mem.length::st.cw}⟩ m2 pd).todo:=by
          cases pd<;>rfl
         rw[e] at s1
         refine⟨g',_,w',s1,dN.mk (a:=a') (c:=behind ⟨b.fn,k,{st with mem:=dQ st b.fn ps as bd,cw:= .range st.mem.length::st.cw}⟩ m2 pd) ?_ rfl (h2.ext s6) s2 s3,s4,s5,rfl,rfl,rfl⟩
         cases pd with
         |none=>exact hk
         |some code=>exact nf trivial hk
      · trivial
    · trivial
   |ret=>
    simp only[Am.step]
    split
    · rename_i j hr
      rw[hr] at h2
      obtain⟨hk,l,hl,hro⟩:=h2
      exact nM (c:=⟨f,.code i .ret::k,st⟩) h4 hr hl h1 fun v w' hrun d cs=>stepR_round_ret hro hk hrun
    · rename_i xw
      have xw : ∀i,st.b9 ≠ .round i:=fun i e=>xw i e
      exact AL (c:=⟨f,.code i .ret::k,st⟩) (b:=b) (a:=a) (todo:= .code .ret::dU k) h4 h2 xw h1 h3 fun cs=> .one (stepR_ret (h2.Ck xw))
   |_=>trivial
end
def fq (P:Program):Prop:= ∀(f:FuncId) (fn:Func),P.funcs[f]? = some fn→(fn.name == "runtime.NumGoroutine")=false
def bR (P:Program) (E:Env) (c:cm) (o:Out):Prop:=
 ∀(g:Gh) (fr:Frame) (w:World) (cs:List Frame),dN P E g c fr w→match o with
  |.ret v m'=> ∃g' fr' w' cv w2,Steps P (lone fr cs w) (lone fr' cs w')∧M0 P c.st.b9 fr' w' cv w2∧fr'.fn=c.f∧VA g' w2 v cv∧Rel g' m' w2∧dc g c.st.mem w g' m' w2∧bM g g' c.st.fix∧c.st.fix≤m'.length
  |.zw v m'=> ∃g' fr' w' cv,Steps P (lone fr cs w) (lone fr' cs w')∧fr'.leaving P w' (.panicked [{v:=cv,recovered:=false}])∧fr'.fn=c.f∧VA g' w' v cv∧Rel g' m' w'∧dc g c.st.mem w g' m' w'∧bM g g' c.st.fix∧c.st.fix≤m'.length
section
variable {P:Program} {E:Env}
theorem bR.bz {c c':cm} {o:Out} (hg : ∀g fr w,dN P E g c fr w→eN P E g c fr w c') (h:bR P E c' o):bR P E c o:=by
 intro g fr w cs hc
 obtain⟨g',fr',w',q1,q2,q3,q4,q5,q6,q7⟩:=hg g fr w hc cs
 cases o with
 |ret v m'=>
  obtain⟨g2,SV,w2,cv,w3,r1,r2,r3,r4,r5,r6,r7,r8⟩:=h g' fr' w' cs q2
  refine⟨g2,SV,w2,cv,w3,q1.trans r1,by rw[←q7];exact r2,r3.trans q5,r4,r5,q3.trans r6,q4.trans ?_,by rw[←q6];exact r8⟩
  rw[←q6];exact r7
 |zw v m'=>
  obtain⟨g2,SV,w2,cv,r1,r2,r3,r4,r5,r6,r7,r8⟩:=h g' fr' w' cs q2
  refine⟨g2,SV,w2,cv,q1.trans r1,r2,r3.trans q5,r4,r5,q3.trans r6,q4.trans ?_,by rw[←q6];exact r8⟩
  rw[←q6];exact r7
theorem p9 : ∀n,upTo n=List.range n
 |0=>rfl
 |n+1=>by rw[upTo,p9 n,List.range_succ]
theorem qa : ∀(l:List AV) (s k:Nat),look ((wx s l.length).zip l) k=if s≤k then l.getD (k-s) .aj else .aj
 |[],s,k=>by simp[look]
 |v::l,s,k=>by
  simp only[List.length_cons,List.range'_succ,aaR,jy]
  by_cases e:s=k
  · subst e;simp
  · simp only[e,if_false]
    rw[qa l (s+1) k]
    by_cases h:s+1≤k
    · have h1:s≤k:=by omega
      have h2:k-s=(k-(s+1))+1:=by omega
      simp[h,h1,h2]
    · have h1 : ¬s≤k:=by omega
      simp[h,h1]
def Gm:Bool→VK
 |false=> .call
 |true=> .late
def kindOf:Bool→CallKind
 |false=> .normal
 |true=> .deferred
theorem dN.Nh {g:Gh} {w:World} {f:FuncId} {args:List AV} {m:Mem} {c:cm} {cJ:Array Value} (z:Bool) (hi:init P f args m=some c) (hr:Rel g m w) (ha:cA g w args cJ.toList) (hg:fY E g w) :
  dN P E g {c with st:={c.st with b9:=Gm z}} (xc P f cJ (kindOf z)) w:=by
 unfold init at hi
 split at hi
 · rename_i fn hf
   split at hi
   · rename_i body hb
     simp only[cp] at hi;subst hi
     have hlen:=ha.len
     simp only[ft] at hlen
     let b:Frame:={(default:Frame) with fn:=f,kind:=kindOf z,roundOf:=none}
     have hen:xc P f cJ (kindOf z)=b.atR {tmps:=cJ++Array.replicate (fn.ntmps-cJ.size) undef,defers:=[]} [.code body]:=by
      simp[xc,yn,hf,hb,b]
     rw[hen]
     refine dN.mk (c:=⟨f,[.code 0 body],⟨(upTo args.length).zip args,max fn.ntmps args.length,m,m.length,[],Gm z⟩⟩) (nf trivial (fun _ h=>by cases h)) rfl (by cases z<;>exact⟨rfl,rfl⟩) trivial ⟨?_,?_,hr,bj _,hg⟩
     · intro k
       rw[p9,aaP,qa]
       simp only[QQ,if_true,aaW]
       rcases fb k args.length with hk | hk
       · rw[cb,bm hk]
         have hk':k<cJ.toList.length:=by simp;omega
         have hk2:k<cJ.size:=by omega
         have:=ha.get k hk hk'
         simp only[hX,xb]
         rw[Array.getElem?_append_left hk2,fl hk2]
         simpa using this
       · rw[cb,dp hk]
         exact .aj _
     · simp;omega
   · cases hi
 · cases hi
theorem ru {f:FuncId} {args:List AV} {m:Mem} {c:cm} (hi:init P f args m=some c):c.st.mem=m∧c.st.fix=m.length∧c.f=f∧c.st.b9 = .call:=by
 unfold init at hi
 split at hi
 · split at hi
   · simp only[cp] at hi;subst hi;exact⟨rfl,rfl,rfl,rfl⟩
   · cases hi
 · cases hi
theorem dN.enter {g:Gh} {w:World} {f:FuncId} {args:List AV} {m:Mem} {c:cm} {cJ:Array Value} (hi:init P f args m=some c) (hr:Rel g m w) (ha:cA g w args cJ.toList) (hg:fY E g w) :
  dN P E g c (xc P f cJ .normal) w:=by
 have h:=dN.Nh (P:=P) false hi hr ha hg
 have e:({c with st:={c.st with b9:=Gm false}}:cm)=c:=by
  obtain⟨_,_,_,h4⟩:=ru hi
  obtain⟨f,t,tm,nt,mem,fix,cw,b9⟩:=c
  simp only at h4
  subst h4
  rfl
 rw[e] at h
 exact h
theorem sX (hN:fq P) {f:FuncId} {args:List AV} {m:Mem} {c:cm} (hi:init P f args m=some c) : ∃fn,P.funcs[f]? = some fn∧fn.body.isSome=true∧(fn.name == "runtime.NumGoroutine")=false:=by
 unfold init at hi
 split at hi
 · rename_i fn hf
   split at hi
   · rename_i body hb
     exact⟨fn,hf,by simp[hb],hN f fn hf⟩
   · cases hi
 · cases hi
theorem oZ (hN:fq P) {f:FuncId} {args:List AV} {m:Mem} {c:cm} {v:AV} {m':Mem} (hi:init P f args m=some c) (h:bR P E c (.zw v m')):M1 P E f args m v m':=by
 refine⟨sX hN hi,fun g w cJ cs hr ha hg=> ?_⟩
 obtain⟨g',fr',w',cv,q1,q2,q3,q4,q5,q6,q7,q8⟩:=h g _ w cs (dN.enter hi hr ha hg)
 obtain⟨e1,e2,e3,e4⟩:=ru hi
 rw[e1] at q6;rw[e2] at q7 q8;rw[e3] at q3
 exact⟨_,g',cv,fr',q1,q2,q3,q4,q5,q6,q7,q8⟩
theorem eC (hN:fq P) {f:FuncId} {args:List AV} {m:Mem} {c:cm} {v:AV} {m':Mem} (hi:init P f args m=some c) (h:bR P E c (.ret v m')):an P E f args m v m':=by
 refine⟨sX hN hi,fun g w cJ cs hr ha hg=> ?_⟩
 obtain⟨g',fr',w',cv,w2,q1,q2,q3,q4,q5,q6,q7,q8⟩:=h g _ w cs (dN.enter hi hr ha hg)
 obtain⟨e1,e2,e3,e4⟩:=ru hi
 rw[e1] at q6;rw[e2] at q7 q8;rw[e3] at q3;rw[e4] at q2
 obtain⟨q2,rfl⟩:=q2
 exact⟨_,g',cv,fr',q1,q2,q3,q4,q5,q6,q7,q8⟩
theorem rz {g:Gh} {w:World} : ∀(ds:List Nat) (vs:List AV) (rm:List Value) (tm:sA) (t:Array Value),cA g w vs rm→ds.length=vs.length→(∀d∈ds,d<t.size)→(∀k,VA g w (look tm k) (t.getD k undef)) →
  (∀k,VA g w (look (FY tm ds vs) k) (((ds.zip rm).foldl (fun t (q:Nat×Value)=>t.setIfInBounds q.1 q.2) t).getD k undef))∧((ds.zip rm).foldl (fun t (q:Nat×Value)=>t.setIfInBounds q.1 q.2) t).size=t.size
 |[],[],[],tm,t,_,_,_,h=>⟨h,rfl⟩
 |d::ds,v::vs,cv::rm,tm,t,hv,hl,hd,h=>by
  have hdt:=hd d (.head _)
  obtain⟨q1,q2⟩:=rz ds vs rm ((d,v)::tm) (t.setIfInBounds d cv) hv.2 (by simpa using hl) (fun d' hd'=>by simpa using hd d' (.tail _ hd')) fun k=>by
   simp only[jy]
   by_cases hk:d=k
   · subst hk
     simp only[if_true,xb,Array.getElem?_setIfInBounds_self_of_lt hdt,hX]
     exact hv.1
   · simp only[hk,if_false,xb]
     rw[Array.getElem?_setIfInBounds_ne hk,←xb]
     exact h k
  exact⟨q1,q2.trans (by simp)⟩
 |[],_::_,_,_,_,_,hl,_,_=>by simp at hl
 |_::_,[],_,_,_,_,hl,_,_=>by simp at hl
 |[],[],_::_,_,_,h,_,_,_=>h.elim
 |_::_,_::_,[],_,_,h,_,_,_=>h.elim
theorem o9 {args:List AV} {m:Mem} {c:cm} {v:AV} {m':Mem} (hi:Dr args m=some c) (h:bR P E c (.ret v m')):Ii P E args m v m':=by
 intro g w i l xs SF d cs hargs hr hl hx hg
 subst hargs
 unfold Dr at hi
 dsimp only at hi
 split at hi
 · rename_i f ps as bd s pd vals hb
   cases hc:(ae xs.length ps.toList.length&&iM ps.toList vals.length) with
   |false=>rw[hc] at hi;cases hi
   |true=>
    rw[hc] at hi
    simp only[cond_true,cp] at hi
    simp only[ch] at hc
    have hlen:=ag hc.1
    have hlt:=fJ hc.2
    have hib:=getD_some hb (by simp)
    obtain⟨c0,ob,vs,k1,k2,k3,k4,_⟩:=hr.obs i _ _ hib
    rw[hl] at k1;cases k1
    obtain⟨D,rfl⟩:=k4
    have hxl:=hx.len
    simp only[ft] at hxl
    have hvl:=k3.len
    have Gn:=run_yield (P:=P) (args:=SF) k2 (by show SF.size=ps.size;simp at hlen;omega)
    dsimp only at Gn
    have H7:(ps.zip SF).foldl (fun tmps (t,a)=>tmps.setIfInBounds t a) vs.toArray=(ps.toList.zip SF.toList).foldl (fun t (q:Nat×Value)=>t.setIfInBounds q.1 q.2) vs.toArray:=by
     rw[←Array.foldl_toList,Array.toList_zip]
    rw[H7] at Gn
    obtain⟨t1,t2⟩:=rz ps.toList xs SF.toList ((upTo vals.length).zip vals) vs.toArray hx hlen.symm (fun d hd=>by have:=hlt d hd;simp;omega) fun k=>by
     rw[p9,aaP,qa]
     simp only[QQ,if_true,aaW]
     rcases fb k vals.length with hk | hk
     · rw[cb,bm hk]
       have hk':k<vs.length:=by omega
       have:=k3.get k hk hk'
       simp only[hX,xb]
       simpa[hk'] using this
     · rw[cb,dp hk]
       exact .aj _
    generalize (ps.toList.zip SF.toList).foldl (fun t (q:Nat×Value)=>t.setIfInBounds q.1 q.2) vs.toArray=T at *
    let b:Frame:={(default:Frame) with fn:=f,kind:= .normal,roundOf:=some l}
    have hen:aaY l f T as bd .normal=b.atR {tmps:=T,defers:=[]} (dU c.todo):=by
     rw[←hi]
     simp[aaY,yn,dU,er,b]
    have Gp:dN P E g c (aaY l f T as bd .normal) w:=by
     rw[hen]
     subst hi
     exact dN.mk (nf trivial (nf trivial (nf trivial fun _ h=>by cases h))) rfl ⟨rfl,l,hl,rfl⟩ trivial ⟨t1,by rw[t2];simp;omega,hr,bj _,hg⟩
    have hm:c.st.mem=m∧c.st.fix=m.length∧c.st.b9 = .round i:=by subst hi;exact⟨rfl,rfl,rfl⟩
    obtain⟨e1,e2,e3⟩:=hm
    obtain⟨g',fr',w',cv,w2,q1,q2,q3,q4,q5,q6,q7,q8⟩:=h g _ w (d::cs) Gp
    rw[e1] at q6;rw[e2] at q7 q8;rw[e3] at q2
    exact⟨f,T,as,bd,w2,g',cv,Gn,q1.trans (q2 d cs),q4,q5,q6,q7,q8⟩
 · cases hi
theorem AN {c:cm} {o:Out} (h:Am.step P E c = .done o):bR P E c o:=by
 intro g fr w cs hc
 have hs:=gV hc
 rw[h] at hs
 cases o with
 |ret v m'=>
  obtain⟨h1,rfl,cv,w2,h2,h3,h4,h6,h5⟩:=hs
  exact⟨g,fr,w,cv,w2,aaN _ _,h2,h1,h3,h4,h6,bM.refl _ _,h5⟩
 |zw v m'=>
  obtain⟨h1,rfl,cv,h2,h3,h4,h5⟩:=hs
  exact⟨g,fr,w,cv,aaN _ _,h2,h1,h3,h4,dc.refl _ _ _,bM.refl _ _,h5⟩
theorem oB {c c':cm} (h:Am.step P E c = .next c') : ∀g fr w,dN P E g c fr w→eN P E g c fr w c':=by
 intro g fr w hc
 have hs:=gV hc
 rw[h] at hs;exact hs
theorem sY {c c':cm} (h:Am.step P E c = .must true c') : ∀g fr w,dN P E g c fr w→eN P E g c fr w c':=by
 intro g fr w hc
 have hs:=gV hc
 rw[h] at hs;exact hs rfl
theorem AO {c y z:cm} {b:Bool} (h:Am.step P E c = .test b y z) : ∀g fr w,dN P E g c fr w→eN P E g c fr w (match b with | true=>y | false=>z):=by
 intro g fr w hc
 have hs:=gV hc
 rw[h] at hs
 cases b with
 |true=>exact hs.1 rfl
 |false=>exact hs.2 rfl
theorem lA {c c':cm} {f:FuncId} {args:List AV} {m:Mem} {ord:List Nat} {dst:Option Tmp} {v:AV} {m1:Mem} (h:Am.step P E c = .call f args m ord dst c') (hd:an P E f args m v m1) :
  ∀g fr w,dN P E g c fr w→eN P E g c fr w {c' with st:=back ord dst c'.st v m1}:=by
 intro g fr w hc
 have hs:=gV hc
 rw[h] at hs
 exact hs.1 v m1 hd
theorem uE {c c':cm} {f:FuncId} {args:List AV} {m:Mem} {ord:List Nat} {dst:Option Tmp} {v:AV} {m1:Mem} (h:Am.step P E c = .call f args m ord dst c') (hd:M1 P E f args m v m1) :
  ∀g fr w,dN P E g c fr w→eN P E g c fr w (m9 ord c' v m1):=by
 intro g fr w hc
 have hs:=gV hc
 rw[h] at hs
 exact hs.2 v m1 hd
theorem AP {c c':cm} {f:FuncId} {args:List AV} {m:Mem} {ord:List Nat} {pv:Option AV} {m1:Mem} (h:Am.step P E c = .late f args m ord pv c') (hd:M4 P E f args m pv m1) :
  ∀g fr w,dN P E g c fr w→eN P E g c fr w {c' with st:=back ord none c'.st (.aA []) m1}:=by
 intro g fr w hc
 have hs:=gV hc
 rw[h] at hs
 exact hs m1 hd
theorem jU {b:Frame} {a:Act} {cs:List Frame} {w:World} : ∀(n:Nat) (t t':List It),wF n t=some t'→(∀x∈t,It.pl x)→Steps P (lone (b.atR a (dU t)) cs w) (lone (b.atR a (dU t')) cs w) ∧ ∀x∈t',It.pl x
 |0,_,_,h,_=>by cases h
 |n+1,t,t',h,hp=>by
  unfold wF at h
  split at h
  · simp only[cp] at h;subst h
    exact⟨aaN _ _,hp⟩
  · obtain⟨h1,h2⟩:=jU n _ t' h (nf trivial (nf trivial fun y hy=>hp y (.tail _ hy)))
    exact⟨.head stepR_seq h1,h2⟩
  · rename_i id ops k
    obtain⟨h1,h2⟩:=jU n _ t' h (nf trivial fun y hy=>hp y (.tail _ hy))
    refine⟨.head ?_ h1,h2⟩
    have:=stepR_region (P:=P) (b:=b) (a:=a) (k:=dU k) (cs:=cs) (w:=w) (ops:=ops) (id:=id)
    simpa[dU,er,aaP] using this
  · obtain⟨h1,h2⟩:=jU n _ t' h (nf trivial (nf trivial fun y hy=>hp y (.tail _ hy)))
    exact⟨.head (step_lone_go (by simp[stepG,stepG.exec,yn,dU,er])) h1,h2⟩
  · obtain⟨h1,h2⟩:=jU n _ t' h (nf trivial (nf trivial fun y hy=>hp y (.tail _ hy)))
    exact⟨.head stepR_block h1,h2⟩
  · cases h
theorem Ct {b:Frame} {a:Act} {k:List Item} {c0:Frame} {cs:List Frame} {w:World} {ops:Array Oper} {i:Nat} {rest:List Nat} {o:Oper} {qW:Option Value} (hk:b.kind = .deferred) (hb:b.roundOf=none) (ho:ops[i]? = some o) (hr:isRec o=true)
  (h0:c0.mode=cX qW false) :
  _root_.Go.step P (lone (b.atR a (.inRegion ops (i::rest)::k)) (c0::cs) w) = .next (lone (b.atR (a.put o.dst (qW.getD .nilIface)) (.inRegion ops rest::k)) ({c0 with mode:=cX qW true}::cs) w):=by
 unfold isRec at hr
 split at hr
 · rename_i c hop hgd
   split at hr
   · rename_i zT afR
     have j9:c.args = #[]:=by have:=congrArg List.toArray afR;simpa using this
     have hw:Region.wanted o (yielded ops a.tmps)=true:=by unfold Region.wanted;rw[hgd]
     have hg:=stepGR_op (P:=P) (b:=b) (k:=k) (cs:=c0::cs) (w:=w) (rest:=rest) ho hw
     have hrun:(o.semAt b.roundOf a.eval).run P w = .ok .recover w:=by
      rw[hb]
      simp only[Oper.semAt,execOp,hop,resolve,zT,j9,il,im,iu,invoke,builtin]
     have nE : ∀v,(b.atR a (.inRegion ops (i::rest)::k)).finish v=b.atR (a.put o.dst v) (.inRegion ops rest::k):=fun v=>by rw[Frame.finish_atR,ho];rfl
     have hkk:(b.atR a (.inRegion ops (i::rest)::k)).kind = .deferred:=hk
     have VY:=tryRecover_deferred hkk (c0::cs)
     have hro:(b.atR a (.inRegion ops (i::rest)::k)).roundOf=none:=hb
     refine step_lone_go ?_
     rw[hg]
     cases qW with
     |none=>
      have e:recoverD (c0::cs)=none:=by unfold recoverD;simp only[h0,cX]
      rw[e] at VY
      have h00:({c0 with mode:=cX none true}:Frame)=c0:=by rw[show cX none true=c0.mode from h0.symm]
      rw[h00]
      simp only[stepG.apply,aaU,hrun,hro,VY,GStep.bare_after,GStep.bare_go,nE,Option.getD_none,if_true]
     |some v=>
      have e:recoverD (c0::cs)=some (v,{c0 with mode:=cX (some v) true}::cs):=by unfold recoverD;simp only[h0,cX]
      rw[e] at VY
      simp only[stepG.apply,aaU,hrun,hro,VY,GStep.bare_after,GStep.bare_go,nE,hX,if_true]
   · cases hr
 · cases hr
theorem pe (hN:fq P) {f:FuncId} {args:List AV} {m:Mem} {pv:Option AV} {c:cm} {v:AV} {m':Mem} (hi:Dt P f args m pv=some c) (h:bR P E c (.ret v m')):M4 P E f args m pv m':=by
 unfold Dt at hi
 split at hi
 · rename_i c0 j7
   split at hi
   · rename_i t1 hi1
     refine⟨sX hN j7,fun g w cJ qW fr0 cs h0 Ke hr ha hg=> ?_⟩
     obtain⟨e1,e2,e3,_⟩:=ru j7
     have hen:=dN.Nh (P:=P) true j7 hr ha hg
     have abB : ∃body,c0.todo=[.code 0 body]:=by
      unfold init at j7
      split at j7
      · split at j7
        · simp only[cp] at j7;subst j7;exact⟨_,rfl⟩
        · cases j7
      · cases j7
     obtain⟨body,hbody⟩:=abB
     obtain⟨f0,t0,gA⟩:=c0
     simp only at hbody e1 e2 e3 hi1 hi
     subst hbody
     obtain⟨b,a,hfr,h1,h2,h3,h4,hk⟩:=hen
     simp only at h1 h2 h3 h4 hk
     obtain⟨WY,Mh⟩:=jU (P:=P) (b:=b) (a:=a) (cs:=fr0::cs) (w:=w) 20 _ _ hi1 hk
     have afS:xc P f cJ .deferred=b.atR a (dU [It.code 0 body]):=hfr
     rw[afS]
     unfold VM at hi
     simp only at hi
     split at hi
     · rename_i bZ ops i sure k
       split at hi
       · rename_i o ho
         have hlt:i<ops.size:=by
          rcases fb i ops.size with q | q
          · exact q
          · rw[yv q] at ho;cases ho
         have hk' : ∀y∈k,It.pl y:=fun y hy=>Mh y (.tail _ hy)
         cases hb:(isRec o&&fits {gA with b9:= .late} o.dst) with
         |false=>rw[hb] at hi;cases hi
         |true=>
          rw[hb] at hi
          simp only[cond_true,cp] at hi
          simp only[ch] at hb
          have hstep:=Ct (P:=P) (a:=a) (k:=dU k) (cs:=cs) (w:=w) (rest:=wx (i+1) (ops.size-(i+1))) (qW:=qW) h2.1 h2.2 ho hb.1 h0
          have zK:VA g w (pv.getD (.p (.sc .nilIface))) (qW.getD .nilIface):=by
           cases pv with
           |none=>cases qW with
            |none=>exact .p _ _ (.sc _)
            |some _=>exact Ke.elim
           |some u=>cases qW with
            |none=>exact Ke.elim
            |some cv=>exact Ke
          have hput:=h4.put (m':=gA.mem) hb.2 zK (Ext.refl g w) h4.rel h4.fix
          have hcr:dN P E g c (b.atR (a.put o.dst (qW.getD .nilIface)) (.inRegion ops (wx (i+1) (ops.size-(i+1)))::dU k)) w:=by
           subst hi
           exact dN.mk (c:=⟨f0,.ops bZ ops (i+1) false::k,put {gA with b9:= .late} o.dst (pv.getD (.p (.sc .nilIface)))⟩) (nf trivial hk') h1 (by rw[iG];exact h2) (h3.put (st:={gA with b9:= .late}) (st':={gA with b9:= .late}) (Ext.refl g w) rfl) hput
          obtain⟨g2,SV,w2,cv,w3,r1,r2,r3,r4,r5,r6,r7,r8⟩:=h g _ w ({fr0 with mode:=cX qW true}::cs) hcr
          have hc:c.st.mem=m∧c.st.fix=m.length∧c.st.b9 = .late:=by
           subst hi
           refine⟨?_,?_,?_⟩
           · rw[←e1]
             show(put {gA with b9:= .late} o.dst _).mem=gA.mem
             unfold Am.put;cases o.dst<;>rfl
           · rw[←e2]
             show(put {gA with b9:= .late} o.dst _).fix=gA.fix
             unfold Am.put;cases o.dst<;>rfl
           · show(put {gA with b9:= .late} o.dst _).b9 = .late
             rw[iG]
          obtain⟨c1,c2,c3⟩:=hc
          rw[c3] at r2
          obtain⟨⟨r2,r2'⟩,rfl⟩:=r2
          rw[c1] at r6
          rw[c2] at r7 r8
          refine⟨_,g2,cv,SV,WY.trans (.head ?_ r1),r2,r2',r5,r6,r7,r8⟩
          have he:dU (.ops bZ ops i sure::k) = .inRegion ops (i::wx (i+1) (ops.size-(i+1)))::dU k:=by
           simp only[dU,er,nD hlt,aaQ,M2]
          rw[he]
          exact hstep
       · cases hi
     · cases hi
   · cases hi
 · cases hi
theorem xO {c c':cm} {args:List AV} {m:Mem} {ord:List Nat} {dst:Option Tmp} {v:AV} {m1:Mem} (h:Am.step P E c = .round args m ord dst c') (hd:Ii P E args m v m1) :
  ∀g fr w,dN P E g c fr w→eN P E g c fr w {c' with st:=back ord dst c'.st v m1}:=by
 intro g fr w hc
 have hs:=gV hc
 rw[h] at hs
 exact hs v m1 hd
theorem qb {c c':cm} {f:FuncId} {args:List AV} {m:Mem} {ord:List Nat} {L:Nat} {v:AV} {m1 m2:Mem} {pd:Option Code} (h:Am.step P E c = .range f args m ord L c') (hd:an P E f args m v m1)
  (he:gh (back ord none c'.st v m1).mem L=some (m2,pd)) : ∀g fr w,dN P E g c fr w→eN P E g c fr w (behind c' m2 pd):=by
 intro g fr w hc
 have hs:=gV hc
 rw[h] at hs
 exact hs v m1 hd m2 pd he
theorem bR.Ni {c:cm} {l:List cm} {o:Out} (hg : ∀g fr w,dN P E g c fr w→Cl P E g c fr w l) (h : ∀c'∈l,bR P E c' o):bR P E c o:=by
 intro g fr w cs hc
 obtain⟨c',hm,g',fr',w',q1,q2,q3,q4,q5,q6,q7⟩:=hg g fr w hc cs
 cases o with
 |ret v m'=>
  obtain⟨g2,SV,w2,cv,w3,r1,r2,r3,r4,r5,r6,r7,r8⟩:=h c' hm g' fr' w' cs q2
  refine⟨g2,SV,w2,cv,w3,q1.trans r1,by rw[←q7];exact r2,r3.trans q5,r4,r5,q3.trans r6,q4.trans ?_,by rw[←q6];exact r8⟩
  rw[←q6];exact r7
 |zw v m'=>
  obtain⟨g2,SV,w2,cv,r1,r2,r3,r4,r5,r6,r7,r8⟩:=h c' hm g' fr' w' cs q2
  refine⟨g2,SV,w2,cv,q1.trans r1,r2,r3.trans q5,r4,r5,q3.trans r6,q4.trans ?_,by rw[←q6];exact r8⟩
  rw[←q6];exact r7
theorem AQ {c:cm} {l:List cm} (h:Am.step P E c = .fork l) : ∀g fr w,dN P E g c fr w→Cl P E g c fr w l:=by
 intro g fr w hc
 have hs:=gV hc
 rw[h] at hs;exact hs
theorem sZ {c c':cm} {bZ:Nat} {ops:Array Oper} {O:FuncId→List AV→Mem→Option (AV×Mem)} {st':St} (h:Am.step P E c = .draw bZ ops c') (hO : ∀g args m v m1,O g args m=some (v,m1)→an P E g args m v m1)
  (hq:jK P E c'.f bZ O ops c'.st=some (st',true)) : ∀g fr w,dN P E g c fr w→eN P E g c fr w {c' with st:={st' with cw:=c'.st.cw,b9:=c'.st.b9}}:=by
 intro g fr w hc
 have hs:=gV hc
 rw[h] at hs
 exact hs O st' hO hq
def cR (P:Program) (E:Env) (l:List bE):Prop:= ∀q∈l,an P E q.g q.args q.m q.v q.m'
theorem rA {K:List bE} (hK:cR P E K) {g:FuncId} {args:List AV} {m:Mem} {r:AV×Mem} (h:lU K g args m=some r):an P E g args m r.1 r.2:=by
 induction K with
 |nil=>cases h
 |cons q K ih=>
  simp only[lU] at h
  cases hb:(ae q.g g&&(jG args q.args&&qB m q.m)) with
  |true=>
   rw[hb] at h
   simp only[cond_true,cp] at h
   subst h
   simp only[ch] at hb
   obtain⟨h1,h2,h3⟩:=hb
   have h1:=ag h1
   have h2:=fE h2
   have h3:=kY h3
   subst h1;subst h2;subst h3
   exact hK q (.head _)
  |false=>
   rw[hb] at h
   exact ih (fun x hx=>hK x (.tail _ hx)) h
theorem Nj {o p:Out} (h:Ds o p=true):o=p:=by
 cases o with
 |ret v m=>cases p with
  |ret u n=>
   simp only[Ds,ch] at h
   rw[kB h.1,kY h.2]
  |zw u n=>cases h
 |zw v m=>cases p with
  |ret u n=>cases h
  |zw u n=>
   simp only[Ds,ch] at h
   rw[kB h.1,kY h.2]
theorem AR : ∀{l:List (Option Out)} {o:Out},agree l=some o → ∀x∈l,x=some o
 |[],_,h,_,_=>by cases h
 |[x],o,h,y,hy=>by
  cases hy with
  |head=>exact h
  |tail _ hy=>cases hy
 |x::y::r,o,h,z,hz=>by
  simp only[agree] at h
  split at h
  · rename_i o1 p1 h1
    cases hb:Ds o1 p1 with
    |false=>rw[hb] at h;cases h
    |true=>
     rw[hb] at h
     simp only[cond_true,cp] at h
     subst h
     cases hz with
     |head=>rw[Nj hb]
     |tail _ hz=>exact AR h1 z hz
  · cases h
theorem bY (hN:fq P) {K:List bE} (hK:cR P E K) : ∀(n:Nat) (c:cm) (o:Out),exec P E K n c=some o→bR P E c o
 |0,_,_,h=>by cases h
 |n+1,c,o,h=>by
  unfold exec at h
  split at h
  · rename_i c' hs;exact bR.bz (oB hs) (bY hN hK n c' o h)
  · rename_i b c' hs
    cases b with
    |false=>cases h
    |true=>exact bR.bz (sY hs) (bY hN hK n c' o h)
  · rename_i b y z hs
    have:=AO hs
    cases b with
    |true=>exact bR.bz this (bY hN hK n y o h)
    |false=>exact bR.bz this (bY hN hK n z o h)
  · rename_i g args m ord dst c' hs
    split at h
    · rename_i v m1 hk
      exact bR.bz (lA hs (rA hK hk)) (bY hN hK n _ o h)
    · split at h
      · rename_i ci hi
        split at h
        · rename_i v m1 he
          have hd:=eC hN hi (bY hN hK n ci _ he)
          exact bR.bz (lA hs hd) (bY hN hK n _ o h)
        · rename_i u m1 he
          have hd:=oZ hN hi (bY hN hK n ci _ he)
          exact bR.bz (uE hs hd) (bY hN hK n _ o h)
        · cases h
      · cases h
  · rename_i g args m ord pv c' hs
    split at h
    · rename_i ci hi
      split at h
      · rename_i v m1 he
        have hd:=pe hN hi (bY hN hK n ci _ he)
        exact bR.bz (AP hs hd) (bY hN hK n _ o h)
      · cases h
    · cases h
  · rename_i args m ord dst c' hs
    split at h
    · rename_i ci hi
      split at h
      · rename_i v m1 he
        have hd:=o9 hi (bY hN hK n ci _ he)
        exact bR.bz (xO hs hd) (bY hN hK n _ o h)
      · cases h
    · cases h
  · rename_i g args m ord L c' hs
    split at h
    · rename_i ci hi
      split at h
      · rename_i v m1 he
        split at h
        · rename_i m2 pd hend
          have hd:=eC hN hi (bY hN hK n ci _ he)
          exact bR.bz (qb hs hd hend) (bY hN hK n _ o h)
        · cases h
      · cases h
    · cases h
  · rename_i bZ ops c' hs
    split at h
    · rename_i st' ok hq
      cases ok with
      |false=>cases h
      |true=>
       refine bR.bz (sZ hs (fun g args m v m1 hO=> ?_) hq) (bY hN hK n _ o h)
       split at hO
       · rename_i r hk
         simp only[cp] at hO
         subst hO
         exact rA hK hk
       · split at hO
         · rename_i ci hi
           split at hO
           · rename_i v' Kk he
             simp only[cp,ie] at hO
             obtain⟨rfl,rfl⟩:=hO
             exact eC hN hi (bY hN hK n ci _ he)
           · cases hO
         · cases hO
    · cases h
  · rename_i l hs
    exact bR.Ni (AQ hs) fun c' fm=>bY hN hK n c' o (AR h _ (ed.2 ⟨c',fm,rfl⟩))
  · rename_i o' hs
    simp only[cp] at h;subst h
    exact AN hs
  · cases h
theorem pg (hN:fq P) {K:List bE} (hK:cR P E K) {n:Nat} {f:FuncId} {args:List AV} {m m':Mem} {v:AV} (h:Du P E K n f args m=some (.ret v m')):an P E f args m v m':=by
 unfold Du at h
 split at h
 · rename_i c hi;exact eC hN hi (bY hN hK n c _ h)
 · cases h
theorem fK (hN:fq P) {n:Nat} {f:FuncId} {args:List AV} {m m':Mem} {v:AV} (h:Du P E [] n f args m=some (.ret v m')):an P E f args m v m':=
 pg hN (fun _ hq=>by cases hq) h
theorem eZ:cR P E []:=fun _ hq=>by cases hq
theorem bP {q:bE} {K:List bE} (h:an P E q.g q.args q.m q.v q.m') (hK:cR P E K):cR P E (q::K):=by
 intro x hx
 cases hx with
 |head=>exact h
 |tail _ hx=>exact hK x hx
def Nk (P:Program) (E:Env) (c:cm):Fin→Prop
 |.out o=>bR P E c o
 |.at c'=> ∀o,bR P E c' o→bR P E c o
theorem Nk.bz {c c':cm} {r:Fin} (hg : ∀g fr w,dN P E g c fr w→eN P E g c fr w c') (h:Nk P E c' r):Nk P E c r:=by
 cases r with
 |out o=>exact bR.bz hg h
 | «at» c2=>exact fun o ho=>bR.bz hg (h o ho)
end
end Go.Am
end
section
namespace Go.Am
noncomputable section
abbrev OpT:=Program→(Nat→aU)→Bool→Nat→(Operand→AV)→Oper→j8
def abC (P:Program) (rd:Nat→aU) (wr:Bool) (br:Nat) (ρ:Operand→AV) (o:Oper):j8:=uc P rd wr br ρ o
def VZ (x:Operand) (_:Program) (_:Nat→aU) (_:Bool) (_:Nat) (ρ:Operand→AV) (_:Oper):j8:=some (ρ x,[],true)
def abD (t:TypeId) (a:Operand) (P:Program) (rd:Nat→aU) (_:Bool) (_:Nat) (ρ:Operand→AV) (_:Oper):j8:=gP (kL P rd t (ρ a))
def WZ (t:TypeId) (a v:Operand) (P:Program) (rd:Nat→aU) (_:Bool) (_:Nat) (ρ:Operand→AV) (_:Oper):j8:=qz P rd t (ρ a) (ρ v)
def afT (x:Operand) (P:Program) (_:Nat→aU) (_:Bool) (_:Nat) (ρ:Operand→AV) (o:Oper):j8:=jj (jF P ρ o (ρ x))
def Gq (t:TypeId) (x:Operand) (f:Nat) (P:Program) (_:Nat→aU) (_:Bool) (_:Nat) (ρ:Operand→AV) (_:Oper):j8:=jj (kj P t (ρ x) f)
def W0 (t:TypeId) (x:Operand) (f:Nat) (P:Program) (_:Nat→aU) (_:Bool) (_:Nat) (ρ:Operand→AV) (_:Oper):j8:=gP (vw P t (ρ x) f)
def Gr (t:TypeId) (x i:Operand) (P:Program) (_:Nat→aU) (_:Bool) (_:Nat) (ρ:Operand→AV) (_:Oper):j8:=gP (ko P t (ρ x) (ρ i))
def W1 (t:TypeId) (x i:Operand) (P:Program) (_:Nat→aU) (_:Bool) (_:Nat) (ρ:Operand→AV) (_:Oper):j8:=gP (vA P t (ρ x) (ρ i))
def Nl (s d:TypeId) (x:Operand) (P:Program) (rd:Nat→aU) (_:Bool) (br:Nat) (ρ:Operand→AV) (o:Oper):j8:=convertOp P rd br ρ o s d (ρ x)
def afU (op:BinOp) (t:TypeId) (x y:Operand) (P:Program) (_:Nat→aU) (_:Bool) (_:Nat) (ρ:Operand→AV) (o:Oper):j8:=match sE y with
    |true=>vD P op t (ρ x)
    |false=>match HS (ρ x) (ρ y) with
     |true=>HT P op t (ρ x) (ρ y)
     |false=>match BW (ρ x) (ρ y) with
      |true=>om P op t
      |false=>gP (qA P ρ o op (ρ x) (ρ y))
def oUn (op:UnOp) (x:Operand) (P:Program) (_:Nat→aU) (_:Bool) (_:Nat) (ρ:Operand→AV) (o:Oper):j8:=gP (wm P ρ o op (ρ x))
def W2 (t:TypeId) (x:Operand) (lo hi mx:Option Operand) (P:Program) (_:Nat→aU) (_:Bool) (_:Nat) (ρ:Operand→AV) (_:Oper):j8:=gP (og P ρ t (ρ x) lo hi mx)
def Nn (x:Operand) (i:Nat) (_:Program) (_:Nat→aU) (_:Bool) (_:Nat) (ρ:Operand→AV) (_:Oper):j8:=match ρ x with
    |.aA vs=>jj vs[i]?
    |_=>none
def W3 (t:TypeId) (parts:Array (Nat×Operand)) (P:Program) (_:Nat→aU) (_:Bool) (_:Nat) (ρ:Operand→AV) (_:Oper):j8:=gP (vv P t (parts.toList.map fun q=>(q.1,ρ q.2)))
def abE (c a b:Operand) (_:Program) (_:Nat→aU) (_:Bool) (_:Nat) (ρ:Operand→AV) (_:Oper):j8:=match ρ c with
    |.p (.sc (.bool t))=>some (cond t (ρ a) (ρ b),[],true)
    |_=>none
def afV:Op→OpT
 |.binOp op t x y _=>afU op t x y
 |.unOp op _ x=>oUn op x
 |.slice t x lo hi mx=>W2 t x lo hi mx
 |.extract x i=>Nn x i
 |.build t parts=>W3 t parts
 |.pick c a b=>abE c a b
 |.move x=>VZ x
 |.assign x=>VZ x
 |.load t a=>abD t a
 |.store t a v=>WZ t a v
 |.nilCheck x=>afT x
 |.fieldAddr t x f=>Gq t x f
 |.field t x f=>W0 t x f
 |.indexAddr t x i=>Gr t x i
 |.index t x i=>W1 t x i
 |.convert s d x=>Nl s d x
 |_=>abC
def opF (P:Program) (rd:Nat→aU) (wr:Bool) (br:Nat) (ρ:Operand→AV) (o:Oper):j8:=afV o.op P rd wr br ρ o
theorem W4 (P:Program) (rd:Nat→aU) (wr:Bool) (br:Nat) (ρ:Operand→AV) (o:Oper):opF P rd wr br ρ o=uc P rd wr br ρ o:=by
 obtain⟨dst,op,type,pos,after,guard⟩:=o
 cases op<;>rfl
def No (tm:sA) (i:Nat):AV:=aaT (motive:=fun _=>AV) .aj (fun p _ ih=>aaV (motive:=fun _=>AV) ih p.2 (ae p.1 i)) tm
theorem D5 : ∀(tm:sA) (i:Nat),No tm i=look tm i
 |[],_=>rfl
 |(k,v)::r,i=>by
  show aaV (motive:=fun _=>AV) (No r i) v (ae k i)=cond (ae k i) v (look r i)
  rw[D5 r i]
  cases ae k i<;>rfl
def abF (t:Nat) (_:Env) (tm:sA):AV:=No tm t
def W5 (x:Operand) (E:Env) (tm:sA):AV:=ev E tm x
def afX:Operand→Env→sA→AV
 |.tmp t=>abF t
 |.const v=>fun _ _=>Se v
 |x=>W5 x
def evF (E:Env) (tm:sA) (x:Operand):AV:=afX x E tm
theorem Np (E:Env) (tm:sA):evF E tm=ev E tm:=by
 funext x
 cases x with
 |tmp t=>exact D5 tm t
 |const v=>rfl
 |global g=>rfl
 |func f=>rfl
def Gs:Op→Bool
 |.call _ | .defer _ | .panic _=>true
 |_=>false
def Cu:Op→Bool
 |.alloc _ | .box .. | .buildSlice .. | .makeSlice .. | .convert .. | .makeMap .. | .range .. =>true
 |.call c=>makes ⟨none,.call c,0,"",#[],none⟩
 |_=>false
def SW (ops:Array Oper) (i:Nat):Option Oper:=aaT (motive:=fun _=>Nat→Option Oper) (fun _=>none) (fun a _ ih i=>aaX (motive:=fun _=>Option Oper) (some a) (fun j _=>ih j) i) ops.toList i
theorem SX (ops:Array Oper) (i:Nat):SW ops i=ops[i]? :=by
 have : ∀(l:List Oper) (i:Nat),aaT (motive:=fun _=>Nat→Option Oper) (fun _=>none) (fun a _ ih i=>aaX (motive:=fun _=>Option Oper) (some a) (fun j _=>ih j) i) l i=l[i]? :=by
  intro l
  induction l with
  |nil=>intro i;rfl
  |cons a l ih=>
   intro i
   cases i with
   |zero=>rfl
   |succ i=>exact(ih i).trans (by simp)
 rw[SW,this]
 simp
def Ir:j8→Ev→Option Tmp→FuncId→List It→sA→Nat→Mem→Nat→List Mark→VK→Ev
 |none=>fun e _ _ _ _ _ _ _ _ _=>e
 |some (v,[],ok)=>fun _ dst f k tm nt mem fix cw b9=>aaZ (motive:=fun _=>Ev) (.must (ok&&true) ⟨f,k,⟨tm,nt,mem,fix,cw,b9⟩⟩) (fun d=> .must (ok&&ar d nt) ⟨f,k,⟨(d,v)::tm,nt,mem,fix,cw,b9⟩⟩) dst
 |some (v,us,ok)=>fun _ dst f k tm nt mem fix cw b9=>aaZ (motive:=fun _=>Ev) (.must (ok&&true) ⟨f,k,⟨tm,nt,apply mem us,fix,cw,b9⟩⟩) (fun d=> .must (ok&&ar d nt) ⟨f,k,⟨(d,v)::tm,nt,apply mem us,fix,cw,b9⟩⟩) dst
abbrev FP (α:Type):=Program→Env→FuncId→sA→Nat→Mem→Nat→List Mark→VK→α
def xP (todo:List It):FP Ev:=fun P E f tm nt mem fix cw b9=>step P E ⟨f,todo,⟨tm,nt,mem,fix,cw,b9⟩⟩
def SY (o:Oper) (bZ:Nat) (ops:Array Oper) (i:Nat) (sure:Bool) (k:List It):FP Ev:=fun P E f tm nt mem fix cw b9=>
 Ir (opF P (fun i=>mem.getD i .dead) (E.wr f (o.dst.getD 0)) mem.length (evF E tm) o) (step P E ⟨f,.ops bZ ops i sure::k,⟨tm,nt,mem,fix,cw,b9⟩⟩) o.dst f (.ops bZ ops (i+1) false::k) tm nt mem fix cw b9
def W6 (_:Oper) (bZ:Nat) (ops:Array Oper) (i:Nat) (sure:Bool) (k:List It):FP Ev:=xP (.ops bZ ops i sure::k)
abbrev DoT:=Oper→Nat→Array Oper→Nat→Bool→List It→FP Ev
def V0:Bool→Bool→Option (Nat×Bool)→DoT
 |false,false,none=>SY
 |_,_,_=>W6
def Nq:Option Oper→Nat→Array Oper→Nat→Bool→List It→FP Ev
 |none=>fun _ _ _ _ k _ _ f tm nt mem fix cw b9=> .next ⟨f,k,⟨tm,nt,mem,fix,cw,b9⟩⟩
 |some o=>V0 (Gs o.op) (Cu o.op) o.guard o
def W7 (i:Nat) (c:Code) (k:List It):FP Ev:=xP (.code i c::k)
def W8 (_:Nat) (k:List It):FP Ev:=fun _ _ f tm nt mem fix cw b9=> .next ⟨f,k,⟨tm,nt,mem,fix,cw,b9⟩⟩
def abH (id:Nat) (ops:Array Oper) (_:Nat) (k:List It):FP Ev:=fun _ _ f tm nt mem fix cw b9=> .next ⟨f,.ops id ops 0 false::k,⟨tm,nt,mem,fix,cw,b9⟩⟩
def abI (a b:Code) (i:Nat) (k:List It):FP Ev:=fun _ _ f tm nt mem fix cw b9=> .next ⟨f,.code i a :: .code (i+nodes a) b::k,⟨tm,nt,mem,fix,cw,b9⟩⟩
def SZ (id:Nat) (b:Code) (i:Nat) (k:List It):FP Ev:=fun _ _ f tm nt mem fix cw b9=> .next ⟨f,.code i b :: .inBlock id::k,⟨tm,nt,mem,fix,cw,b9⟩⟩
def Nr:AV→cm→cm→Ev
 |.p (.sc (.bool t))=>fun y z=> .test t y z
 |_=>fun _ _=> .fail
def W9 (x:Operand) (a b:Code) (i:Nat) (k:List It):FP Ev:=fun _ E f tm nt mem fix cw b9=>
 Nr (evF E tm x) ⟨f,.code (i+1) a::eS (E.keep f (2*i)) k,⟨tm,nt,mem,fix,cw,b9⟩⟩ ⟨f,.code (i+1+nodes a) b::eS (E.keep f (2*i)) k,⟨tm,nt,mem,fix,cw,b9⟩⟩
def Xa (id:Nat) (i:Nat) (k:List It):FP Ev:=fun P E f tm nt mem fix cw b9=>aaZ (motive:=fun _=>Ev) (xP (.code i (.exit id)::k) P E f tm nt mem fix cw b9) (fun k'=> .next ⟨f,k',⟨tm,nt,mem,fix,cw,b9⟩⟩) (cg id k)
def Xb:Code→Nat→List It→FP Ev
 |.block id b=>SZ id b
 |.cond x a b=>W9 x a b
 |.exit id=>Xa id
 |.skip=>W8
 |.seq a b=>abI a b
 |.region id ops false=>abH id ops
 |c=>fun i k=>W7 i c k
def Ns (k:List It):FP Ev:=fun _ _ f tm nt mem fix cw b9=> .next ⟨f,k,⟨tm,nt,mem,fix,cw,b9⟩⟩
def afY:It→List It→FP Ev
 |.inBlock _=>Ns
 |.inScope _=>Ns
 |.ops bZ ops i sure=>fun k=>Nq (SW ops i) bZ ops i sure k
 |.code i c=>fun k=>Xb c i k
 |x=>fun k=>xP (x::k)
def Xc:List It→FP Ev
 |[]=>xP []
 |x::k=>afY x k
def Nt (P:Program) (E:Env) (c:cm):Ev:=cm.rec (motive:=fun _=>Ev) (fun f todo st=>St.rec (motive:=fun _=>Ev) (fun tm nt mem fix cw b9=>Xc todo P E f tm nt mem fix cw b9) st) c
theorem Kt (o:Oper):Cu o.op=makes o:=by
 obtain⟨dst,op,type,pos,after,guard⟩:=o
 cases op<;>rfl
theorem Nu (P:Program) (E:Env) (c:cm):Nt P E c=step P E c:=by
 obtain⟨f,todo,tm,nt,mem,fix,cw,b9⟩:=c
 cases todo with
 |nil=>rfl
 |cons x k=>
  cases x with
  |code i c=>
   cases c with
   |region id ops b=>cases b<;>rfl
   |cond x a b=>
    show Nr (evF E tm x) _ _=_
    rw[Np]
    simp only[step]
    split
    · rename_i t ht;rw[ht];rfl
    · rename_i hne
      generalize ev E tm x=v at hne
      cases v with
      |p v=>cases v with
       |sc v=>cases v with
        |bool t=>exact absurd rfl (hne t)
        |_=>rfl
       |_=>rfl
      |_=>rfl
   |exit id=>
    show aaZ (motive:=fun _=>Ev) _ _ (cg id k)=_
    cases he:cg id k with
    |none=>rfl
    |some k'=>simp only[step,he]
   |_=>rfl
  |ops bZ ops i sure=>
   show Nq (SW ops i) bZ ops i sure k P E f tm nt mem fix cw b9=_
   rw[SX]
   cases ho:ops[i]? with
   |none=>simp only[Nq,step,ho]
   |some o=>
    show V0 (Gs o.op) (Cu o.op) o.guard o bZ ops i sure k P E f tm nt mem fix cw b9=_
    cases h1:Gs o.op with
    |true=>rfl
    |false=>
     cases h2:Cu o.op with
     |true=>rfl
     |false=>
      cases h3:o.guard with
      |some q=>rfl
      |none=>
       rw[Kt] at h2
       have ht:target (ev E tm) o=none:=by
        obtain⟨dst,op,type,pos,after,guard⟩:=o
        cases op<;>first | rfl | cases h1
       have hy:vE (ev E tm) o=none:=by
        obtain⟨dst,op,type,pos,after,guard⟩:=o
        cases op<;>first | rfl | cases h1
       show Ir (opF P (fun i=>mem.getD i .dead) (E.wr f (o.dst.getD 0)) mem.length (evF E tm) o) (step P E ⟨f,.ops bZ ops i sure::k,⟨tm,nt,mem,fix,cw,b9⟩⟩) o.dst f (.ops bZ ops (i+1) false::k) tm nt mem fix cw b9=_
       rw[W4,Np]
       have hr:reserve o mem=mem:=by simp[reserve,h2]
       cases hop:uc P (fun i=>mem.getD i .dead) (E.wr f (o.dst.getD 0)) mem.length (ev E tm) o with
       |none=>rfl
       |some r=>
        simp only[step,ho,ep,h3,My,ht,hy,hr,hop]
        obtain⟨v,us,ok⟩:=r
        cases us with
        |nil=>cases hd:o.dst<;>simp[Ir,fits,put,apply]
        |cons u us=>cases hd:o.dst<;>simp[Ir,fits,put]
  |_=>rfl
abbrev RunT:=Program→Env→List bE→(cm→Option Out)→Option Out
def abJ (c:cm):RunT:=fun _ _ _ ih=>ih c
def abK (b:Bool) (c:cm):RunT:=fun _ _ _ ih=>aaV (motive:=fun _=>Option Out) none (ih c) b
def abL (b:Bool) (y z:cm):RunT:=fun _ _ _ ih=>aaV (motive:=fun _=>Option Out) (ih z) (ih y) b
def abM (g:FuncId) (args:List AV) (m:Mem) (ord:List Nat) (dst:Option Tmp) (c:cm):RunT:=fun P _ K ih=>match lU K g args m with
     |some (v,m1)=>ih {c with st:=back ord dst c.st v m1}
     |none=>match init P g args m with
      |some ci=>match ih ci with
       |some (.ret v m1)=>ih {c with st:=back ord dst c.st v m1}
       |some (.zw u m1)=>ih (m9 ord c u m1)
       |none=>none
      |none=>none
def abN (g:FuncId) (args:List AV) (m:Mem) (ord:List Nat) (pv:Option AV) (c:cm):RunT:=fun P _ _ ih=>match Dt P g args m pv with
     |some ci=>match ih ci with
      |some (.ret _ m1)=>ih {c with st:=back ord none c.st (.aA []) m1}
      |_=>none
     |none=>none
def Xd (args:List AV) (m:Mem) (ord:List Nat) (dst:Option Tmp) (c:cm):RunT:=fun _ _ _ ih=>match Dr args m with
     |some ci=>match ih ci with
      |some (.ret v m1)=>ih {c with st:=back ord dst c.st v m1}
      |_=>none
     |none=>none
def Xe (g:FuncId) (args:List AV) (m:Mem) (ord:List Nat) (L:Nat) (c:cm):RunT:=fun P _ _ ih=>match init P g args m with
     |some ci=>match ih ci with
      |some (.ret v m1)=>match gh (back ord none c.st v m1).mem L with
       |some (m2,pd)=>ih (behind c m2 pd)
       |none=>none
      |_=>none
     |none=>none
def abO (bZ:Nat) (ops:Array Oper) (c:cm):RunT:=fun P E K ih=>match jK P E c.f bZ (fun g args m=>match lU K g args m with
        |some r=>some r
        |none=>match init P g args m with
         |some ci=>match ih ci with
          |some (.ret v m1)=>some (v,m1)
          |_=>none
         |none=>none) ops c.st with
     |some (st,ok)=>cond ok (ih {c with st:={st with cw:=c.st.cw,b9:=c.st.b9}}) none
     |none=>none
def abP (l:List cm):RunT:=fun _ _ _ ih=>agree (l.map ih)
def abQ (o:Out):RunT:=fun _ _ _ _=>some o
def abR:RunT:=fun _ _ _ _=>none
def V1:Ev→RunT
 |.next c=>abJ c
 |.must b c=>abK b c
 |.test b y z=>abL b y z
 |.call g args m ord dst c=>abM g args m ord dst c
 |.round args m ord dst c=>Xd args m ord dst c
 |.range g args m ord L c=>Xe g args m ord L c
 |.draw bZ ops c=>abO bZ ops c
 |.fork l=>abP l
 |.late g args m ord pv c=>abN g args m ord pv c
 |.done o=>abQ o
 |.fail=>abR
def Nv (P:Program) (E:Env) (K:List bE) (n:Nat):cm→Option Out:=
 aaX (motive:=fun _=>cm→Option Out) (fun _=>none) (fun _ ih c=>V1 (Nt P E c) P E K ih) n
theorem D6 (P:Program) (E:Env) (K:List bE) : ∀n,Nv P E K n=exec P E K n
 |0=>by funext c;rfl
 |n+1=>by
  funext c
  show V1 (Nt P E c) P E K (Nv P E K n)=exec P E K (n+1) c
  rw[Nu,D6 P E K n]
  unfold exec
  cases step P E c with
  |must b c=>cases b<;>rfl
  |test b y z=>cases b<;>rfl
  |_=>rfl
def Cv (P:Program) (E:Env) (K:List bE) (n:Nat) (g:FuncId) (args:List AV) (m:Mem):Option Out:=
 match init P g args m with
 |some c=>Nv P E K n c
 |none=>none
theorem Ku (P:Program) (E:Env) (K:List bE) (n:Nat) (g:FuncId) (args:List AV) (m:Mem):Cv P E K n g args m=Du P E K n g args m:=by
 unfold Cv Du
 rw[D6]
 cases init P g args m<;>rfl
theorem bG {P:Program} {E:Env} (hN:fq P) {K:List bE} (hK:cR P E K) {n:Nat} {f:FuncId} {args:List AV} {m m':Mem} {v:AV} (h:Cv P E K n f args m=some (.ret v m')):an P E f args m v m':=
 pg hN hK (n:=n) (by rw[←Ku];exact h)
end
open Go.RowKit
inductive aC where
 |out (o:Out)
 |at(c:cm)
 |must (b:Bool) (t:aC)
 |need (p:Prop) (t:aC)
 |test (b:Bool) (y z:aC)
 |call (q:bE) (t:aC)
 |stuck
structure bD where
 call:FuncId→List AV→Mem→Option (AV×Mem)
 vP:FuncId→List AV→Mem→Option (AV×Mem):=fun _ _ _=>none
 cut:FuncId→Nat→Bool
 fork:FuncId→Nat→Nat→Bool
 hard:FuncId→Nat→Nat→Bool
 shape:FuncId→Nat→Nat→Option (AV→AV)
def place (c:cm):Nat×Nat:=match c.todo with
 |.code i _::_=>(0,i)
 |.ops bZ _ k _::_=>(bZ+1,k)
 |_=>(0,0)
def cutAt (O:bD) (c:cm):Bool:=match c.todo with
 |.inLoop i _::_=>O.cut c.f i
 |.code i (.loop _)::_=>O.cut c.f i
 |_=>false
def Gt (c:cm):Option Tmp:=match c.todo with
 |.ops _ ops k _::_=>match ops[k]? with
  |some o=>o.dst
  |none=>none
 |_=>none
def V2 (c:cm):Bool:=match c.todo with
 |.ops .. :: _=>true
 |_=>false
def reshape (sh:AV→AV) (d:Tmp) (c:cm):cm:={c with st:=put c.st (some d) (sh (look c.st.tm d))}
def shaped (sh:Option (AV→AV)) (d:Option Tmp) (c:cm) (k:cm→aC):aC:=
 match sh,d,V2 c with
 |some sh,some d,true=> .need (look c.st.tm d=sh (look c.st.tm d)) (k (reshape sh d c))
 |_,_,_=>k c
def xQ (m:Mem) (i:Nat):List AV:=match m.getD i .dead with
 |.ob _ l=>l
 |_=>[]
def Cw (i:Nat) (l:List AV) (m:Mem):Mem:=match m.getD i .dead with
 |.ob k _=>m.set i (.ob k l)
 |_=>m
def xC (sh:Option (AV→AV)) (c:cm) (k:cm→aC):aC:=match sh with
 |none=>k c
 |some sh=>match sh .aj with
  |.fn (.func i) _ l=> .need (xQ c.st.mem i=l) (k {c with st:={c.st with mem:=Cw i l c.st.mem}})
  |_=>k c
def Cx (h b:Bool) (t:aC):aC:=
 match h with
 |true=> .must b t
 |false=>match b with
  |true=>t
  |false=> .stuck
inductive Sc where
 |fork (y z:Sc)
 |yes (s:Sc)
 |no (s:Sc)
 |lit (s:Sc)
 |ans (g:FuncId) (v:AV) (m:Mem) (s:Sc)
 |vP (f bZ:Nat) (L:FuncId→List AV→Mem→Option (AV×Mem)) (s:Sc)
 |fin
def S0 (g:FuncId):Sc→Option (AV×Mem×Sc)
 |.ans h v m s=>cond (ae h g) (some (v,m,s)) none
 |_=>none
def S1 (f bZ:Nat):Sc→Option ((FuncId→List AV→Mem→Option (AV×Mem))×Sc)
 |.vP f' afZ L s=>cond (ae f f'&&ae bZ afZ) (some (L,s)) none
 |_=>none
def nN (E:Env) (O:FuncId→List AV→Mem→Option (AV×Mem)) (o:Oper) (st:St):List bE:=
 match target (ev E st.tm) o with
 |some (g,args)=>match O g (eR (idx (close st.mem 0 args)) args) (pack st.mem (close st.mem 0 args)) with
  |some (v,m1)=>[⟨g,eR (idx (close st.mem 0 args)) args,pack st.mem (close st.mem 0 args),v,m1⟩]
  |none=>[]
 |none=>[]
def pz (P:Program) (E:Env) (f bZ:Nat) (O:FuncId→List AV→Mem→Option (AV×Mem)) (ops:Array Oper):List Oper→Nat→St→List bE
 |[],_,_=>[]
 |o::r,nx,st=>
  let skip:=pz P E f bZ O ops r nx (put st o.dst (.aA []))
  let qE:=nN E O o st++match iX P E f bZ O nx o st with
   |some (d,jJ,_)=>pz P E f bZ O ops r jJ (put {st with mem:=apply st.mem d.us} o.dst d.v)
   |none=>[]
  match ep ops st.tm o with
  |.yes=>qE
  |.no=>skip
  |.ask _ b want=>match b==want with
   |true=>qE
   |false=>skip
  |.lost=>[]
def asked (P:Program) (E:Env) (f bZ:Nat) (O:FuncId→List AV→Mem→Option (AV×Mem)) (ops:Array Oper) (st:St):List bE:=
 pz P E f bZ O ops (ops.toList.take (gy ops)) st.mem.length {st with mem:=st.mem++cV (60+ops.size)}
def Cy:List bE→aC→aC
 |[],t=>t
 |q::r,t=> .call q (Cy r t)
def grow (P:Program) (E:Env) (O:bD):Nat→Bool→cm→Sc→(Out→Sc→aC)→aC
 |0,_,_,_,_=> .stuck
 |n+1,top,c,s,K=>match cutAt O c with
  |true=>match top,step P E c with
   |true,.next c'=> .at c'
   |_,_=> .stuck
  |false=>match step P E c with
   |.next c'=>grow P E O n top c' s K
   |.must b c'=>
    Cx (O.hard c.f (place c).1 (place c).2) b (shaped (O.shape c.f (place c).1 (place c).2) (Gt c) c' fun c1=>xC (O.shape c.f ((place c).1+1000) (place c).2) c1 fun c2=>grow P E O n top c2 s K)
   |.test b y z=>match O.fork c.f (place c).1 (place c).2 with
    |true=>match s with
     |.fork s s'=> .test b (grow P E O n top y s K) (grow P E O n top z s' K)
     |.yes s=> .must b (grow P E O n top y s K)
     |.no s=> .must (!b) (grow P E O n top z s K)
     |.lit s=>match b with
      |true=>grow P E O n top y s K
      |false=>grow P E O n top z s K
     |s=> .test b (grow P E O n top y s K) (grow P E O n top z s K)
    |false=>match b with
     |true=>grow P E O n top y s K
     |false=>grow P E O n top z s K
   |.call g args m ord dst c'=>match S0 g s with
    |some (v,m1,s)=> .call ⟨g,args,m,v,m1⟩ (shaped (O.shape c.f (place c).1 (place c).2) (Gt c) {c' with st:=back ord dst c'.st v m1} fun c=>grow P E O n top c s K)
    |none=>match O.call g args m with
     |some (v,m1)=> .call ⟨g,args,m,v,m1⟩ (shaped (O.shape c.f (place c).1 (place c).2) (Gt c) {c' with st:=back ord dst c'.st v m1} fun c=>grow P E O n top c s K)
     |none=>match init P g args m with
      |some ci=>grow P E O n false ci s fun o s=>match o with
       |.ret v m1=>grow P E O n top {c' with st:=back ord dst c'.st v m1} s K
       |.zw u m1=>grow P E O n top (m9 ord c' u m1) s K
      |none=> .stuck
   |.late g args m ord pv c'=>match Dt P g args m pv with
    |some ci=>grow P E O n false ci s fun o s=>match o with
     |.ret _ m1=>grow P E O n top {c' with st:=back ord none c'.st (.aA []) m1} s K
     |.zw .. => .stuck
    |none=> .stuck
   |.round args m ord dst c'=>match Dr args m with
    |some ci=>grow P E O n false ci s fun o s=>match o with
     |.ret v m1=>grow P E O n top {c' with st:=back ord dst c'.st v m1} s K
     |.zw .. => .stuck
    |none=> .stuck
   |.range g args m ord L c'=>match O.call g args m with
    |some (v,m1)=>match gh (back ord none c'.st v m1).mem L with
      |some (m2,pd)=> .call ⟨g,args,m,v,m1⟩ (grow P E O n top (behind c' m2 pd) s K)
      |none=> .stuck
    |none=>match init P g args m with
     |some ci=>grow P E O n false ci s fun o s=>match o with
      |.ret v m1=>match gh (back ord none c'.st v m1).mem L with
       |some (m2,pd)=>grow P E O n top (behind c' m2 pd) s K
       |none=> .stuck
      |.zw .. => .stuck
     |none=> .stuck
   |.draw bZ ops c'=>match S1 c'.f bZ s with
    |some (L,s)=>match jK P E c'.f bZ L ops c'.st with
     |some (st,ok)=>Cy (asked P E c'.f bZ L ops c'.st) (Cx (O.hard c.f (place c).1 (place c).2) ok (xC (O.shape c.f ((place c).1+1000) (place c).2) {c' with st:={st with cw:=c'.st.cw,b9:=c'.st.b9}} fun c2=>grow P E O n top c2 s K))
     |none=> .stuck
    |none=>match jK P E c'.f bZ O.vP ops c'.st with
     |some (st,ok)=>Cy (asked P E c'.f bZ O.vP ops c'.st) (Cx (O.hard c.f (place c).1 (place c).2) ok (xC (O.shape c.f ((place c).1+1000) (place c).2) {c' with st:={st with cw:=c'.st.cw,b9:=c'.st.b9}} fun c2=>grow P E O n top c2 s K))
     |none=> .stuck
   |.done o=>K o s
   |_=> .stuck
def aC.ok (P:Program) (E:Env) (o:Out):aC→Prop
 |.out o'=>o'=o
 |.at c=>bR P E c o
 |.must b t=>b=true∧t.ok P E o
 |.need p t=>p∧t.ok P E o
 |.test b y z=>(b=true→y.ok P E o)∧(b=false→z.ok P E o)
 |.call q t=>an P E q.g q.args q.m q.v q.m'∧t.ok P E o
 |.stuck=>False
section
variable {P:Program} {E:Env}
theorem xR {sh:AV→AV} {d:Tmp} {c:cm} {o:Out} (hin:V2 c=true) (h:look c.st.tm d=sh (look c.st.tm d)) (hg:bR P E (reshape sh d c) o):bR P E c o:=by
 intro g fr w cs hc
 have fm:dN P E g (reshape sh d c) fr w:=by
  obtain⟨f,todo,st⟩:=c
  cases todo with
  |nil=>cases hin
  |cons x k=>
   cases x with
   |ops bZ ops i sure=>
    obtain⟨b,a,q1,q2,q3,q4,q5,q6⟩:=hc
    exact⟨b,a,q1,q2,q3,q4,q5.known (h▸q5.tm d),q6⟩
   |_=>cases hin
 exact hg g fr w cs fm
theorem td {h b:Bool} {t:aC} {o:Out} (k:(Cx h b t).ok P E o):b=true∧t.ok P E o:=by
 cases h with
 |true=>exact k
 |false=>cases b with
  |true=>exact⟨rfl,k⟩
  |false=>exact k.elim
def ej (P:Program) (E:Env) (top:Bool) (c:cm) (K:Out→Sc→aC) (o:Out):Prop:=(∃o1 s1,bR P E c o1∧(K o1 s1).ok P E o)∨(top=true∧bR P E c o)
theorem ej.bz {top:Bool} {c c':cm} {K:Out→Sc→aC} {o:Out} (hg : ∀g fr w,dN P E g c fr w→eN P E g c fr w c') (h:ej P E top c' K o):ej P E top c K o:=by
 rcases h with⟨o1,s1,h1,h2⟩ | ⟨h1,h2⟩
 · exact .inl ⟨o1,s1,bR.bz hg h1,h2⟩
 · exact .inr ⟨h1,bR.bz hg h2⟩
theorem mj {top:Bool} {sh:Option (AV→AV)} {d:Option Tmp} {c:cm} {k:cm→aC} {K:Out→Sc→aC} {o:Out} (hk : ∀c,(k c).ok P E o→ej P E top c K o) (h:(shaped sh d c k).ok P E o):ej P E top c K o:=by
 unfold shaped at h
 split at h
 · rename_i hin
   rcases hk _ h.2 with⟨o1,s1,h1,h2⟩ | ⟨h1,h2⟩
   · exact .inl ⟨o1,s1,xR hin h.1 h1,h2⟩
   · exact .inr ⟨h1,xR hin h.1 h2⟩
 · exact hk c h
theorem Cz {i:Nat} {l:List AV} {m:Mem} (h:xQ m i=l):Cw i l m=m:=by
 subst h
 unfold Cw xQ
 split
 · rename_i k l' hk
   refine List.ext_getElem? fun j=> ?_
   by_cases hj:i=j
   · subst hj
     rw[cb] at hk
     cases hm:m[i]? with
     |none=>rw[hm] at hk;cases hk
     |some x=>
      rw[hm] at hk
      have hk:x = .ob k l':=hk
      subst hk
      have hlt:i<m.length:=(List.getElem?_eq_some_iff.1 hm).1
      rw[ln hlt]
   · rw[lr hj]
 · rfl
theorem nO {top:Bool} {sh:Option (AV→AV)} {c:cm} {k:cm→aC} {K:Out→Sc→aC} {o:Out} (hk : ∀c,(k c).ok P E o→ej P E top c K o) (h:(xC sh c k).ok P E o):ej P E top c K o:=by
 unfold xC at h
 split at h
 · exact hk c h
 · split at h
   · obtain⟨h1,h2⟩:=h
     rw[Cz h1] at h2
     exact hk c h2
   · exact hk c h
def abS (P:Program) (E:Env) (call:FuncId→List AV→Mem→Option (AV×Mem)):Prop:= ∀g args m v m1,call g args m=some (v,m1)→an P E g args m v m1
theorem oC {t:aC} {o:Out} : ∀{l:List bE},(Cy l t).ok P E o→cR P E l∧t.ok P E o
 |[],h=>⟨fun _ hq=>(by cases hq),h⟩
 |q::l,h=>⟨fun q' hq=>by
   cases hq with
   |head=>exact h.1
   |tail _ hq=>exact(oC (l:=l) h.2).1 q' hq,(oC (l:=l) h.2).2⟩
open Classical in
def only(O:FuncId→List AV→Mem→Option (AV×Mem)) (l:List bE) (g:FuncId) (args:List AV) (m:Mem):Option (AV×Mem):=
 if ∃q∈l,q.g=g∧q.args=args∧q.m=m then O g args m else none
theorem S2 {O:FuncId→List AV→Mem→Option (AV×Mem)} {l:List bE} {g:FuncId} {args:List AV} {m:Mem} (h : ∃q∈l,q.g=g∧q.args=args∧q.m=m):only O l g args m=O g args m:=by
 unfold only;rw[if_pos h]
theorem CA {f bZ:Nat} {O O':FuncId→List AV→Mem→Option (AV×Mem)} {nx:Nat} {o:Oper} {st:St} (h : ∀q∈nN E O o st,O' q.g q.args q.m=O q.g q.args q.m) {r:gF×Nat×Bool} (hr:oq P E f bZ O nx o st=some r):oq P E f bZ O' nx o st=some r:=by
 unfold oq at hr ⊢
 unfold nN at h
 cases ht:target (ev E st.tm) o with
 |none=>simp only[ht] at hr ⊢;exact hr
 |some ga=>
  obtain⟨g,args⟩:=ga
  simp only[ht] at hr h ⊢
  cases hO:O g (eR (idx (close st.mem 0 args)) args) (pack st.mem (close st.mem 0 args)) with
  |none=>simp only[hO] at hr;cases hr
  |some vm=>
   obtain⟨v,m1⟩:=vm
   simp only[hO] at h hr
   have:=h _ (.head _)
   simp only at this
   rw[this,hO]
   exact hr
theorem D7 {f bZ:Nat} {O O':FuncId→List AV→Mem→Option (AV×Mem)} {nx:Nat} {o:Oper} {st:St} (h : ∀q∈nN E O o st,O' q.g q.args q.m=O q.g q.args q.m) {r:gF×Nat×Bool} (hr:iX P E f bZ O nx o st=some r):iX P E f bZ O' nx o st=some r:=by
 unfold iX at hr ⊢
 cases hl:oq P E f bZ O nx o st with
 |none=>
  rw[hl] at hr
  unfold HY at hr
  split at hr<;>cases hr
 |some x=>
  rw[CA h hl]
  rw[hl] at hr
  exact hr
theorem qc {f bZ:Nat} {O O':FuncId→List AV→Mem→Option (AV×Mem)} {ops:Array Oper} : ∀(l:List Oper) (nx:Nat) (st:St) (r:St×Nat×List gF×Bool),(∀q∈pz P E f bZ O ops l nx st,O' q.g q.args q.m=O q.g q.args q.m)→hU P E f bZ O ops l nx st=some r→hU P E f bZ O' ops l nx st=some r
 |[],_,_,_,_,h=>h
 |o::l,nx,st,r,ha,h=>by
  unfold hU at h ⊢
  unfold pz at ha
  have V3 : ∀r,(∀q∈pz P E f bZ O ops l nx (put st o.dst (.aA [])),O' q.g q.args q.m=O q.g q.args q.m) →
    (match hU P E f bZ O ops l nx (put st o.dst (.aA [])) with
      |some (st',oQ,ds,ok)=>some (st',oQ,(⟨.aA [],[],[],fun _ _=>false⟩:gF)::ds,fits st o.dst&&ok)
      |none=>none)=some r →
    (match hU P E f bZ O' ops l nx (put st o.dst (.aA [])) with
      |some (st',oQ,ds,ok)=>some (st',oQ,(⟨.aA [],[],[],fun _ _=>false⟩:gF)::ds,fits st o.dst&&ok)
      |none=>none)=some r:=by
   intro r hq hr
   cases hg:hU P E f bZ O ops l nx (put st o.dst (.aA [])) with
   |none=>rw[hg] at hr;cases hr
   |some x=>rw[qc l nx _ x hq hg];rw[hg] at hr;exact hr
  have WQ : ∀r,(∀q∈nN E O o st++(match iX P E f bZ O nx o st with
        |some (d,jJ,_)=>pz P E f bZ O ops l jJ (put {st with mem:=apply st.mem d.us} o.dst d.v)
        |none=>[]),O' q.g q.args q.m=O q.g q.args q.m) →
    (match iX P E f bZ O nx o st with
      |some (d,jJ,ok)=>match hU P E f bZ O ops l jJ (put {st with mem:=apply st.mem d.us} o.dst d.v) with
       |some (st',oQ,ds,ok')=>some (st',oQ,d::ds,ok&&(fits st o.dst&&ok'))
       |none=>none
      |none=>none)=some r →
    (match iX P E f bZ O' nx o st with
      |some (d,jJ,ok)=>match hU P E f bZ O' ops l jJ (put {st with mem:=apply st.mem d.us} o.dst d.v) with
       |some (st',oQ,ds,ok')=>some (st',oQ,d::ds,ok&&(fits st o.dst&&ok'))
       |none=>none
      |none=>none)=some r:=by
   intro r hq hr
   cases h1:iX P E f bZ O nx o st with
   |none=>rw[h1] at hr;cases hr
   |some x=>
    obtain⟨d,jJ,ok⟩:=x
    rw[D7 (fun q hm=>hq q (mi.2 (.inl hm))) h1]
    rw[h1] at hr hq
    dsimp only at hr hq ⊢
    cases hg:hU P E f bZ O ops l jJ (put {st with mem:=apply st.mem d.us} o.dst d.v) with
    |none=>rw[hg] at hr;cases hr
    |some y=>rw[qc l jJ _ y (fun q hm=>hq q (mi.2 (.inr hm))) hg];rw[hg] at hr;exact hr
  dsimp only at h ha ⊢
  cases hw:ep ops st.tm o with
  |yes=>simp only[hw] at h ha ⊢;exact WQ r ha h
  |no=>simp only[hw] at h ha ⊢;exact V3 r ha h
  |lost=>simp only[hw] at h;cases h
  |ask d b want=>
   simp only[hw] at h ha ⊢
   cases hb:b==want with
   |true=>simp only[hb] at h ha ⊢;exact WQ r ha h
   |false=>simp only[hb] at h ha ⊢;exact V3 r ha h
theorem AS {f bZ:Nat} {O:FuncId→List AV→Mem→Option (AV×Mem)} {ops:Array Oper} {st:St} {r:St×Bool} (h:jK P E f bZ O ops st=some r):jK P E f bZ (only O (asked P E f bZ O ops st)) ops st=some r:=by
 unfold jK at h ⊢
 cases hg:hU P E f bZ O ops (ops.toList.take (gy ops)) st.mem.length {st with mem:=st.mem++cV (60+ops.size)} with
 |none=>rw[hg] at h;cases h
 |some x=>
  rw[qc (O':=only O (asked P E f bZ O ops st)) _ _ _ x (fun q hq=>S2 ⟨q,hq,rfl,rfl,rfl⟩) hg]
  rw[hg] at h;exact h
theorem Kv {O:FuncId→List AV→Mem→Option (AV×Mem)} {o:Oper} {st:St} {q:bE} (h:q∈nN E O o st):O q.g q.args q.m=some (q.v,q.m'):=by
 unfold nN at h
 split at h
 · split at h
   · rename_i hO
     cases h with
     |head=>exact hO
     |tail _ h=>cases h
   · cases h
 · cases h
theorem rB {f bZ:Nat} {O:FuncId→List AV→Mem→Option (AV×Mem)} {ops:Array Oper} : ∀(l:List Oper) (nx:Nat) (st:St) (q:bE),q∈pz P E f bZ O ops l nx st→O q.g q.args q.m=some (q.v,q.m')
 |[],_,_,_,h=>by cases h
 |o::l,nx,st,q,h=>by
  unfold pz at h
  have WQ:q∈nN E O o st++(match iX P E f bZ O nx o st with
        |some (d,jJ,_)=>pz P E f bZ O ops l jJ (put {st with mem:=apply st.mem d.us} o.dst d.v)
        |none=>[])→O q.g q.args q.m=some (q.v,q.m'):=by
   intro h
   rcases mi.1 h with h | h
   · exact Kv h
   · split at h
     · exact rB l _ _ q h
     · cases h
  dsimp only at h
  split at h
  · exact WQ h
  · exact rB l _ _ q h
  · split at h
    · exact WQ h
    · exact rB l _ _ q h
  · cases h
theorem xS {f bZ:Nat} {O:FuncId→List AV→Mem→Option (AV×Mem)} {ops:Array Oper} {st:St} (h:cR P E (asked P E f bZ O ops st)):abS P E (only O (asked P E f bZ O ops st)):=by
 intro g args m v m1 hO
 unfold only at hO
 split at hO
 · rename_i hq
   obtain⟨q,hm,rfl,rfl,rfl⟩:=hq
   have:=rB _ _ _ q hm
   rw[this] at hO
   obtain⟨rfl,rfl⟩:q.v=v∧q.m'=m1:=by simpa using hO
   exact h q hm
 · cases hO
theorem bA (hN:fq P) {O:bD} {o:Out} : ∀(n:Nat) (top:Bool) (c:cm) (s:Sc) (K:Out→Sc→aC),(grow P E O n top c s K).ok P E o→ej P E top c K o
 |0,_,_,_,_,h=>h.elim
 |n+1,top,c,s,K,h=>by
  unfold grow at h
  split at h
  · split at h
    · rename_i c' hs;exact .inr ⟨rfl,bR.bz (oB hs) h⟩
    · exact h.elim
  · split at h
    · rename_i c' hs;exact ej.bz (oB hs) (bA hN n top c' s K h)
    · rename_i b c' hs
      obtain⟨rfl,hb⟩:=td h
      exact ej.bz (sY hs) (mj (fun c=>nO fun c=>bA hN n top c s K) hb)
    · rename_i b y z hs
      have gt:=AO hs
      split at h
      · split at h
        · cases b with
          |true=>exact ej.bz gt (bA hN n top y _ K (h.1 rfl))
          |false=>exact ej.bz gt (bA hN n top z _ K (h.2 rfl))
        · obtain⟨rfl,h⟩:=h
          exact ej.bz gt (bA hN n top y _ K h)
        · obtain⟨hb,h⟩:=h
          cases b with
          |true=>cases hb
          |false=>exact ej.bz gt (bA hN n top z _ K h)
        · cases b with
          |true=>exact ej.bz gt (bA hN n top y _ K h)
          |false=>exact ej.bz gt (bA hN n top z _ K h)
        · cases b with
          |true=>exact ej.bz gt (bA hN n top y _ K (h.1 rfl))
          |false=>exact ej.bz gt (bA hN n top z _ K (h.2 rfl))
      · cases b with
        |true=>exact ej.bz gt (bA hN n top y _ K h)
        |false=>exact ej.bz gt (bA hN n top z _ K h)
    · rename_i f args m ord dst c' hs
      split at h
      · rename_i v m1 s' _
        exact ej.bz (lA hs h.1) (mj (fun c=>bA hN n top c s' K) h.2)
      split at h
      · exact ej.bz (lA hs h.1) (mj (fun c=>bA hN n top c s K) h.2)
      · split at h
        · rename_i ci hi
          rcases bA hN n false ci s _ h with⟨o1,s1,h1,h2⟩ | ⟨h1,_⟩
          · cases o1 with
            |ret v m1=>exact ej.bz (lA hs (eC hN hi h1)) (bA hN n top _ s1 K h2)
            |zw v m1=>exact ej.bz (uE hs (oZ hN hi h1)) (bA hN n top _ s1 K h2)
          · cases h1
        · exact h.elim
    · rename_i g args m ord pv c' hs
      split at h
      · rename_i ci hi
        rcases bA hN n false ci s _ h with⟨o1,s1,h1,h2⟩ | ⟨h1,_⟩
        · cases o1 with
          |ret v m1=>exact ej.bz (AP hs (pe hN hi h1)) (bA hN n top _ s1 K h2)
          |zw v m1=>exact h2.elim
        · cases h1
      · exact h.elim
    · rename_i args m ord dst c' hs
      split at h
      · rename_i ci hi
        rcases bA hN n false ci s _ h with⟨o1,s1,h1,h2⟩ | ⟨h1,_⟩
        · cases o1 with
          |ret v m1=>exact ej.bz (xO hs (o9 hi h1)) (bA hN n top _ s1 K h2)
          |zw v m1=>exact h2.elim
        · cases h1
      · exact h.elim
    · rename_i g args m ord L c' hs
      split at h
      · split at h
        · rename_i m2 pd hend
          exact ej.bz (qb hs h.1 hend) (bA hN n top _ s K h.2)
        · exact h.elim
      split at h
      · rename_i ci hi
        rcases bA hN n false ci s _ h with⟨o1,s1,h1,h2⟩ | ⟨h1,_⟩
        · cases o1 with
          |ret v m1=>
           dsimp only at h2
           split at h2
           · rename_i m2 pd hend
             exact ej.bz (qb hs (eC hN hi h1) hend) (bA hN n top _ s1 K h2)
           · exact h2.elim
          |zw v m1=>exact h2.elim
        · cases h1
      · exact h.elim
    · rename_i bZ ops c' hs
      split at h
      · rename_i L s' _
        split at h
        · rename_i st ok hq
          obtain⟨hcs,h⟩:=oC h
          obtain⟨rfl,hb⟩:=td h
          exact ej.bz (sZ hs (xS hcs) (AS hq)) (nO (fun c=>bA hN n top c s' K) hb)
        · exact h.elim
      split at h
      · rename_i st ok hq
        obtain⟨hcs,h⟩:=oC h
        obtain⟨rfl,hb⟩:=td h
        exact ej.bz (sZ hs (xS hcs) (AS hq)) (nO (fun c=>bA hN n top c s K) hb)
      · exact h.elim
    · rename_i o' hs
      exact .inl ⟨o',s,AN hs,h⟩
    · exact h.elim
def atEnd (o:Out) (_:Sc):aC:= .out o
theorem ah (hN:fq P) {O:bD} {n:Nat} {c:cm} {s:Sc} {t:aC} {o:Out} (ht:grow P E O n true c s atEnd=t) (h:t.ok P E o):bR P E c o:=by
 subst ht
 rcases bA hN n true c s atEnd h with⟨o1,s1,h1,h2⟩ | ⟨_,h1⟩
 · have:o1=o:=h2
   exact this▸h1
 · exact h1
def aH (P:Program) (E:Env) (O:bD) (n:Nat) (f:FuncId) (args:List AV) (m:Mem) (s:Sc):aC:=
 match init P f args m with
 |some c=>grow P E O n true c s atEnd
 |none=> .stuck
theorem af (hN:fq P) {O:bD} {n:Nat} {f:FuncId} {args:List AV} {m m':Mem} {s:Sc} {v:AV} {t:aC} (ht:aH P E O n f args m s=t) (h:t.ok P E (.ret v m')):an P E f args m v m':=by
 subst ht
 unfold aH at h
 split at h
 · rename_i c hi;exact eC hN hi (ah hN rfl h)
 · exact h.elim
theorem Gu {P:Program} (h:(P.funcs.toList.all fun fn=> !(fn.name == "runtime.NumGoroutine"))=true):fq P:=by
 intro f fn hf
 rw[List.all_eq_true] at h
 have:=h fn (by rw[←Array.getElem?_toList] at hf;exact mc hf)
 simpa using this
def iS (E:Env) (f t:Nat):Code→Nat→List It→Option (Code×List It)
 |.loop b,i,k=>match ae i t with
  |true=>some (b,k)
  |false=>iS E f t b (i+1) (.inLoop i b::eS (E.keep f (2*i+1)) k)
 |.seq a b,i,k=>match iS E f t a i (.code (i+nodes a) b::k) with
  |some r=>some r
  |none=>iS E f t b (i+nodes a) k
 |.cond _ a b,i,k=>match iS E f t a (i+1) (eS (E.keep f (2*i)) k) with
  |some r=>some r
  |none=>iS E f t b (i+1+nodes a) (eS (E.keep f (2*i)) k)
 |.block id b,i,k=>iS E f t b i (.inBlock id::k)
 |.scope b,i,k=>iS E f t b i (.inScope b::k)
 |_,_,_=>none
def ak (P:Program) (E:Env) (f t:Nat) (vs:List AV) (m:Mem) (fix nt:Nat):cm:=
 match P.funcs[f]? with
 |some fn=>match fn.body with
  |some c=>match iS E f t c 0 [] with
   |some (b,k)=>⟨f,.code (t+1) b :: .inLoop t b::eS (E.keep f (2*t+1)) k,⟨((E.keep f (2*t)).getD []).zip vs,nt,m,fix,[],.call⟩⟩
   |none=>⟨f,[],⟨[],0,[],0,[],.call⟩⟩
  |none=>⟨f,[],⟨[],0,[],0,[],.call⟩⟩
 |none=>⟨f,[],⟨[],0,[],0,[],.call⟩⟩
def Gv (l:List (Nat×Nat×Nat)) (f a b:Nat):Bool:=match l with
 |[]=>false
 |(f',a',b')::r=>cond (ae f f') (cond (ae a a') (cond (ae b b') true (Gv r f a b)) (Gv r f a b)) (Gv r f a b)
def Is (l:List (Nat×Nat)) (f a:Nat):Bool:=match l with
 |[]=>false
 |(f',a')::r=>cond (ae f f') (cond (ae a a') true (Is r f a)) (Is r f a)
def xT (rows:List (Nat×Nat×List Nat)) (f j:Nat):Option (List Nat):=match rows with
 |[]=>none
 |(f',j',l)::r=>cond (ae f f'&&ae j j') (some l) (xT r f j)
def av (_:FuncId) (_:List AV) (_:Mem):Option (AV×Mem):=none
def aQ (call vP:FuncId→List AV→Mem→Option (AV×Mem)) (Xf:List (Nat×Nat)) (Nw Nx:List (Nat×Nat×Nat)):bD where
 call:=call
 vP:=vP
 cut:=Is Xf
 fork:=Gv Nw
 hard:=Gv Nx
 shape _ _ _:=none
def cL (l:List (Nat×Nat×Nat×AV)) (f a b:Nat):Option (AV→AV):=match l with
 |[]=>none
 |(f',a',b',v)::r=>cond (ae f f'&&(ae a a'&&ae b b')) (some fun _=>v) (cL r f a b)
def fy (call vP:FuncId→List AV→Mem→Option (AV×Mem)) (Xf:List (Nat×Nat)) (Nw Nx:List (Nat×Nat×Nat)) (shape:FuncId→Nat→Nat→Option (AV→AV)):bD where
 call:=call
 vP:=vP
 cut:=Is Xf
 fork:=Gv Nw
 hard:=Gv Nx
 shape:=shape
def gI (t:Nat):Code→Nat→Option (Array Tmp×Code×Code)
 |.rangeFunc _ ps as bd,i=>cond (ae i t) (some (ps,as,bd)) none
 |.seq a b,i=>match gI t a i with
  |some r=>some r
  |none=>gI t b (i+nodes a)
 |.cond _ a b,i=>match gI t a (i+1) with
  |some r=>some r
  |none=>gI t b (i+1+nodes a)
 |.block _ b,i=>gI t b i
 |.scope b,i=>gI t b i
 |.loop b,i=>gI t b (i+1)
 |_,_=>none
def jV (P:Program) (f t:Nat) (st:LoopState) (pd:Option Code):aG:=
 match P.funcs[f]? with
 |some fn=>match fn.body with
  |some c=>match gI t c 0 with
   |some (ps,as,bd)=> .loop f ps as bd st pd
   |none=> .opq
  |none=> .opq
 |none=> .opq
end
end Go.Am
end
