import Derived.Test.YtncncijedmfpjaaGreatDoorME
import Derived.RangeFuncLeaves
import Derived.RangeFuncIn
import Derived.RangeFuncRecord
open Option.some renaming injEq→dq,inj→dt
open Prod.mk renaming injEq→kc
open List renaming getD_eq_getElem?_getD→di,range_eq_range'→aao,cons_append→aaq,getElem?_eq_getElem→de,mem_append→oE,nil_append→Ps,range'→xb,getElem?_set_self→nb,getElem?_eq_none→ei,getElem?_set_ne→nc,mem_of_getElem?→oi,zip_cons_cons→aas,getElem?_map→fe,mapM_cons→aax,mem_map→fi,rec→aaz
open Go.Sem renaming run_bind→kh,run_pure→kl,runT_eq→aaC
open Go.Result renaming andThen_ok→km
open Bool renaming and_eq_true→dp,false_eq_true→pn,rec→aaF
open Nat renaming beq→bj,eq_zero_or_pos→qs,le_refl→dd,eq_of_beq_eq_true→bx,lt_or_ge→gg,le_of_ble_eq_true→ft,beq_refl→tp,zero_le→aai,sub_zero→aaL,blt→cf,rec→aaR
open Array renaming getD_eq_getD_getElem?→xi,getElem?_eq_getElem→hZ,length_toList→ib,getElem?_eq_none→zr,toList_append→zt
open Go.Steps renaming refl→aan
open Go.Frame renaming enter→xn,atR→yr,round→aaT
open Option renaming getD_some→jb,rec→aaY
noncomputable section
section
namespace Go.Am
open Go.RowKit
section
variable {P:Program} {E:Env} {g:Gh} {w:World}
def HM (a:Act):ResultVar→Sem Value
 |.tmp t=>pure (a.tmps.getD t undef)
 |.cell x t=>do loadVar t (←asAddr (a.tmps.getD x undef))
theorem iW {st:St} {a:Act} (h:cA E g st a w) : ∀{rs:List ResultVar} {vs:List AV},hU P st rs=some (vs,true) →
  ∃qi:List Value,(rs.mapM (HM a)).run P w = .ok qi w∧cY g w vs qi
 |[],vs,he=>by
  simp only[hU,dq,kc,and_true] at he;subst he
  exact⟨[],rfl,trivial⟩
 |.tmp t::rs,vs,he=>by
  simp only[hU,Option.map_eq_some_iff,kc] at he
  obtain⟨⟨us,ok⟩,h1,rfl,rfl⟩:=he
  obtain⟨qi,k1,k2⟩:=iW h h1
  refine⟨_::qi,?_,h.tm t,k2⟩
  simp only[aax,kh,HM,kl,km,k1]
 |.cell x t::rs,vs,he=>by
  simp only[hU] at he
  split at he
  · rename_i v ok us oks h1 h2
    simp only[dq,kc,dp] at he
    obtain⟨rfl,rfl,rfl⟩:=he
    obtain⟨c,o,cv,k1,k2,k3⟩:=pQ h.rel (h.tm x) h1
    obtain⟨qi,k4,k5⟩:=iW h h2
    refine⟨cv::qi,?_,k3,k5⟩
    have ha:(asAddr (.pointer (some ⟨c,o,none⟩))).run P w = .ok ⟨c,o,none⟩ w:=rfl
    have hone:(HM a (.cell x t)).run P w = .ok cv w:=by simp only[HM,k1,kh,ha,km,k2]
    simp only[aax,kh,hone,kl,km,k4]
  · cases he
theorem yW {vs:List AV} {qi:List Value} (h:cY g w vs qi) : ∃cv,(if h:qi.toArray.size=1 then qi.toArray[0] else .tuple qi.toArray)=cv∧VA g w (one vs) cv:=by
 refine⟨_,rfl,?_⟩
 match vs,qi,h with
 |[v],[cv],h=>exact h.1
 |[],[],_=>exact VA.mA.2 trivial
 |v::v'::vs,cv::ZT::qi,h=>
  rw[dif_neg (by simp)]
  exact VA.mA.2 h
theorem Cz {fn:Func} {a:Act} {qi:List Value} {cv:Value} (h:(fn.results.toList.mapM (HM a)).run P w = .ok qi w)
  (hc:(if h:qi.toArray.size=1 then qi.toArray[0] else .tuple qi.toArray)=cv):(results fn a.tmps).run P w = .ok cv w:=by
 have e:results fn a.tmps=(do let vs ←fn.results.mapM (HM a);pure (if h:vs.size=1 then vs[0] else .tuple vs)):=rfl
 rw[e,Array.mapM_eq_mapM_toList]
 simp only[kh,Sem.run_map,h,km,kl,hc]
theorem Rel.yX {m:Mem} (h:Rel g m w) : ∀(F:List Nat),(∀b∈F,∃l,m[b]? = some (.pc l)) →
  ∃g' m',Rel g' m' w∧Ext g w g' w∧dm g m w g' m' w∧g'.bL=g.bL∧g'.lo=g.lo∧g'.hi=g.hi∧m'.length=m.length∧(∀i,i∉F→m'[i]? = m[i]?) ∧
   ∀b∈F,∀l c,m[b]? = some (.pc l)→g.bL b=some c → ∀o,o<l.length→g'.pure c o
 |[],_=>⟨g,m,h,Ext.refl _ _,dm.refl _ _ _,rfl,rfl,rfl,rfl,fun _ _=>rfl,fun _ hb=>by cases hb⟩
 |b::F,hF=>by
  obtain⟨g',m',k1,k2,k3,k4,k5,k6,k7,k8,k9⟩:=Rel.yX h F fun b hb=>hF b (.tail _ hb)
  by_cases hb:b∈F
  · refine⟨g',m',k1,k2,k3,k4,k5,k6,k7,fun i hi=>k8 i fun q=>hi (.tail _ q),fun b' hb'=> ?_⟩
    cases hb' with
    |head=>exact k9 b hb
    |tail _ hb'=>exact k9 b' hb'
  · obtain⟨l,hl⟩:=hF b (.head _)
    have hl':m'[b]? = some (.pc l):=(k8 b hb).trans hl
    obtain⟨c,cs,e,n,q1,_⟩:=h.cells b _ _ hl rfl
    obtain⟨r1,r2,r3⟩:=k1.F2 hl' (by rw[k4];exact q1)
    refine⟨_,_,r1,k2.trans r2,k3.trans r3,k4,k5,k6,by simp[k7],fun i hi=> ?_,fun b' hb' l' c' So eB o ho=> ?_⟩
    · have hne:b≠i:=fun e=>hi (e ▸ .head _)
      rw[nc hne]
      exact k8 i fun q=>hi (.tail _ q)
    · cases hb' with
      |head=>
       rw[hl] at So;cases So
       rw[q1] at eB;cases eB
       exact .inr ⟨rfl,aai _,ho⟩
      |tail _ hb'=>exact .inl (k9 b' hb' l' c' So eB o ho)
theorem HN {m:Mem} {kept:List Nat} {v:AV} : ∀b∈(freeze m kept v).2.2,∃l,m[b]? = some (.pc l):=by
 intro b hb
 unfold freeze at hb
 split at hb
 · rename_i b' off len sz cap
   cases hk:(has kept b'||bj len 0) with
   |true=>simp[hk] at hb
   |false=>
    simp only[hk,cond_false] at hb
    split at hb
    · rename_i l hl
      simp only[List.mem_singleton] at hb
      subst hb
      exact⟨l,getD_some hl (by simp)⟩
    · simp at hb
 · simp at hb
theorem vu {m:Mem} {kept:List Nat} : ∀{vs:List AV},∀b∈(fZ m kept vs).2.2,∃l,m[b]? = some (.pc l)
 |[],b,hb=>by simp[fZ] at hb
 |v::vs,b,hb=>by
  simp only[fZ,oE] at hb
  rcases hb with hb | hb
  · exact HN b hb
  · exact vu b hb
theorem AO {m:Mem} (h:Rel g m w) {g':Gh} (he:Ext g w g' w) {kept:List Nat} {v:AV} {cv:Value} (hv:VA g w v cv) (hok:(freeze m kept v).2.1=true)
  (hp : ∀b∈(freeze m kept v).2.2,∀l c,m[b]? = some (.pc l)→g.bL b=some c → ∀o,o<l.length→g'.pure c o):VA g' w (freeze m kept v).1 cv:=by
 unfold freeze at hok hp ⊢
 split at hok
 · rename_i b off len sz cap
   cases hk:(has kept b||bj len 0) with
   |true=>simp only[cond_true];exact hv.mono he
   |false=>
    simp only[hk,cond_false] at hok hp ⊢
    split at hok
    · rename_i l hl
      simp only[hl] at hp ⊢
      have hl:=getD_some hl (by simp)
      obtain⟨hok,hz⟩:=(dp _ _).mp hok
      have hle:=ft hok
      have hz:=ft hz
      cases hv with
      |ms _ _ _ _ cap c hc hcap=>
      obtain⟨c',cs,e,n,k1,k2,k3,k4,k5⟩:=h.cells b _ _ hl rfl
      rw[hc] at k1;cases k1
      have hlen:=k4.1.len
      simp only[List.length_map,ib] at hlen
      have hpure:=hp b (by simp) l c hl hc
      have Z9:F0 g w l cs.toList:=bI.dz (by simpa using k4.1.len) fun i a b=>by
       have:=k4.1.get i (by simpa using a) b
       rw[List.getElem_map,VA.pv] at this
       exact this
      refine .p _ _ (VP.mk (us:=(cs.toList.drop off).take (len*sz)) (bI.mono (fun _ _ q=>VP.mono he.pure q) ((Z9.drop off).take (len*sz))) (by simp;omega) hcap hz fun k v hk=> ?_)
      rw[List.getElem?_take] at hk
      split at hk
      · rename_i hlt
        rw[List.getElem?_drop] at hk
        have hk':=bG hk
        refine⟨by rw[aS k2];simpa using hk,hpure (off+k) (by omega),k4.2 v (oi hk)⟩
      · cases hk
    · exact hv.mono he
 · exact hv.mono he
theorem ow {m:Mem} (h:Rel g m w) {g':Gh} (he:Ext g w g' w) {kept:List Nat} : ∀{vs:List AV} {qi:List Value},cY g w vs qi→(fZ m kept vs).2.1=true →
  (∀b∈(fZ m kept vs).2.2,∀l c,m[b]? = some (.pc l)→g.bL b=some c → ∀o,o<l.length→g'.pure c o)→cY g' w (fZ m kept vs).1 qi
 |[],[],_,_,_=>trivial
 |v::vs,cv::qi,hv,hok,hp=>by
  simp only[fZ,dp,oE] at hok hp ⊢
  exact⟨AO h he hv.1 hok.1 fun b hb=>hp b (.inl hb),ow h he hv.2 hok.2 fun b hb=>hp b (.inr hb)⟩
 |[],_::_,h,_,_=>h.elim
 |_::_,[],h,_,_=>h.elim
theorem vv : ∀{l ord:List Nat},Ak l ord=true → ∀i∈l,i∉ord
 |[],_,_,_,h=>by cases h
 |j::l,ord,h,i,hi=>by
  simp only[Ak,dp,Bool.not_eq_true'] at h
  cases hi with
  |head=>exact fun q=>by rw[F6.2 q] at h;cases h.1
  |tail _ hi=>exact vv h.2 i hi
theorem vw {c:cg} {b:Frame} {a:Act} {todo:List Item} (hs:cA E g c.st a w) (hrb:eA g c.st.bZ b) (vg : ∀i,c.st.bZ ≠ .round i) (vf:b.fn=c.f) (hd:a.defers=[]) {fr:Frame}
  (hst : ∀cs,Steps P (lone fr cs w) (lone {b.atR a todo with mode:= .returning} cs w)):AJ P E g c fr w (lE P c):=by
 unfold lE
 split
 · rename_i fn hfn
   split
   · rename_i vs ok hres
     intro hok cs
     simp only[dp] at hok
     obtain⟨⟨rfl,hfz⟩,hni⟩:=hok
     obtain⟨qi,k1,k2⟩:=iW hs hres
     obtain⟨g',m',r1,r2,r3,r4,r5,r6,r7,r8,r9⟩:=hs.rel.yX _ (vu (m:=c.st.mem) (kept:=close c.st.mem c.st.fix []) (vs:=vs))
     have k3:=ow hs.rel r2 k2 hfz r9
     obtain⟨cv,hcv,_⟩:=yW k2
     obtain⟨ZT,aaD,k4⟩:=yW k3
     have:ZT=cv:=aaD.symm.trans hcv
     subst this
     have hrun:=Cz (P:=P) k1 hcv
     generalize adJ:fZ c.st.mem (close c.st.mem c.st.fix []) vs=fz at *
     obtain⟨hnd,m9⟩:=eR c.st.mem c.st.fix [one fz.1]
     generalize KB:close c.st.mem c.st.fix [one fz.1]=ord at *
     have hpk:Am.pack c.st.mem ord=Am.pack m' ord:=by
      unfold Am.pack
      refine List.map_congr_left fun i hi=> ?_
      rw[di,di,r8 i fun q=>vv hni i q hi]
     obtain⟨p1,p2⟩:=r1.pack hnd
     have hlen:c.st.fix≤ord.length:=by
      rcases qs c.st.fix with e | e
      · omega
      · have:=bG (m9 (c.st.fix-1) (by omega));omega
     refine⟨g'.pack ord,_,w,hst cs,?_,?_,?_,rfl,rfl,rfl⟩
     · refine⟨vf,ZT,w,?_,?_,?_,dm.refl _ _ _,?_⟩
       · show Ks P c.st.bZ {b.atR a todo with mode:= .returning} w ZT w
         have W8:P.funcs[b.fn]? = some fn:=by rw[vf];exact hfn
         generalize c.st.bZ=r at hrb vg
         cases r with
         |call=>exact⟨⟨rfl,hd,hrb.1,fn,W8,hrun⟩,rfl⟩
         |late=>exact⟨⟨⟨rfl,hd,fn,W8,hrun⟩,hrb.1⟩,rfl⟩
         |round i=>exact absurd rfl (vg i)
       · simp only[look,tp,cond_true]
         exact k4.iI (dn.pack g' ord)
       · show Rel (g'.pack ord) (Am.pack c.st.mem ord) w
         rw[hpk];exact p1
       · show c.st.fix≤(Am.pack c.st.mem ord).length
         simpa[Am.pack] using hlen
     · refine r3.trans ⟨dd _,fun _ _ _=>rfl,fun _ _ p=>⟨p,rfl⟩,fun _ _ p=> .inl p,fun c' ho=> .inl (p2 c' ?_),rfl,rfl,rfl⟩
       have ho:fP (g'.pack ord) (Am.pack c.st.mem ord) c':=ho
       rw[hpk] at ho;exact ho
     · intro k c' hk eB
       have:=m9 k hk
       simp[Gh.pack,this,r4,r5,r6,eB]
   · trivial
 · trivial
theorem qj {r:Nat} {w:World} (h:w.heap[r]? = some (.deferred (some []))):(Instr.takeDeferred r).run P w = .ok [] {w with heap:=w.heap.setIfInBounds r (.deferred none)}:=by
 simp[Instr.takeDeferred,kh,getObj,setObj,Sem.run,h,Result.andThen]
theorem Gb {b:Frame} {a:Act} {todo:List Item} : ∀{mk:List Mark} {ds:List Deferred} {st:St} {m:Mem} {w:World},lF mk st.mem=some m→Mk g mk ds→cA E g st a w →
  ∃w',(∀cs,Steps P (lone {b.atR {a with defers:=ds} todo with mode:= .returning} cs w) (lone {b.atR {a with defers:=[]} todo with mode:= .returning} cs w')) ∧
   cA E g {st with mem:=m,cJ:=[]} {a with defers:=[]} w'∧dm g st.mem w g m w'
 |[],[],st,m,w,h,_,hs=>by
  simp only[lF,dq] at h
  subst h
  exact⟨w,fun cs=>aan _ _,⟨hs.tm,hs.nt,hs.rel,hs.fix,hs.dS⟩,dm.refl _ _ _⟩
 |.late .. :: mk,_,st,m,w,h,hm,hs=>by
  simp only[lF] at h
  cases h
 |.range i::mk,d::ds,st,m,w,h,hm,hs=>by
  simp only[lF] at h
  split at h
  · rename_i hb
    obtain⟨⟨D,hD,rfl⟩,hm⟩:=hm
    have hib:=getD_some hb (by simp)
    obtain⟨c,ob,vs,k1,k2,k3,k4,_⟩:=hs.rel.obs i _ _ hib
    rw[hD] at k1;cases k1
    obtain⟨rfl,_⟩:=k4
    obtain⟨e1,e2,e3⟩:=fC w (o':= .deferred none) k2
    obtain⟨r1,r2,r3⟩:=hs.rel.j8 (JB:= .shut) (l':=[]) (vs':=[]) hib hD e1 e2 rfl rfl rfl e3 ⟨rfl,rfl⟩ trivial
    have hs':cA E g {st with mem:=st.mem.set i (.ob .shut [])} a {w with heap:=w.heap.setIfInBounds D (.deferred none)}:=
     ⟨fun k=>(hs.tm k).mono r2,hs.nt,r1,by simpa using hs.fix,hs.dS.mono r2.pure⟩
    obtain⟨w',q1,q2,q3⟩:=Gb (st:={st with mem:=st.mem.set i (.ob .shut [])}) h hm hs'
    refine⟨w',fun cs=> .head ?_ (q1 cs),q2,r3.trans q3⟩
    exact step_collected (fr:={b.atR {a with defers:={target:= .collected D,args:= #[]}::ds} todo with mode:= .returning}) (fun e=>by cases e) rfl rfl (qj k2)
  · cases h
 |[],_::_,_,_,_,_,hm,_=>hm.elim
 |.range _::_,[],_,_,_,_,hm,_=>hm.elim
theorem KF {f:FuncId} {fa ca:Array Value} {fn:Func} (hf:P.funcs[f]? = some fn) (hb:fn.body.isSome=true) (hn:(fn.name == "runtime.NumGoroutine")=false) :
  (invoke (.fn (.func f) ca) fa).run P w = .ok (.enter f (fa++ca)) w:=by
 have WW:fn.body.isNone=false:=by cases hq:fn.body<;>simp_all
 simp only[invoke,callFunc,kh,run_program,km,hf,hn,pn,if_false,WW,kl]
theorem rI : ∀{l:List (Nat×Nat)} {cs:List Value},ZO g l cs→cY g w (mps l) cs
 |[],[],_=>trivial
 |(b,off)::l,_::cs,h=>by
  obtain⟨⟨c,h1,h2⟩,h3⟩:=h
  exact⟨by rw[h2];exact .mp b off c h1,rI h3⟩
 |[],_::_,h=>h.elim
 |_::_,[],h=>h.elim
theorem CA (cv:Option Value):settle (cU cv true) = .returning:=by cases cv<;>rfl
theorem Gc {c:cg} {b:Frame} {a:Act} {todo:List Item} {gf:FuncId} {first caps:List (Nat×Nat)} {pv:Option AV} {qb:Option Value} {d:Deferred}
  (hs:cA E g c.st a w) (hrb:eA g c.st.bZ b) (vg : ∀i,c.st.bZ ≠ .round i) (vf:b.fn=c.f) (hd:a.defers=[d]) (hm:Mark.Ok g (.late gf first caps) d) (ED:Ku g w pv qb) {fr:Frame}
  (hst : ∀cs,Steps P (lone fr cs w) (lone {b.atR a todo with mode:=cU qb false} cs w)):AJ P E g c fr w (Al c pv gf first caps):=by
 unfold Al
 obtain⟨fa,ca,h1,h2,rfl⟩:=hm
 have hargs:cY g w (mps first++mps caps) (fa++ca).toList:=by
  rw[zt]
  exact(rI h1).append (rI h2)
 dsimp only
 generalize mps first++mps caps=args at *
 obtain⟨hnd,_⟩:=eR c.st.mem 0 (pv.toList++args)
 generalize close c.st.mem 0 (pv.toList++args)=ord at *
 cases hlt:iJ ord c.st.mem.length with
 |false=>trivial
 |true=>
  intro m1 fj cs
  obtain⟨⟨fn,Oh,Oi,Oj⟩,fj⟩:=fj
  obtain⟨Kq,Kr⟩:=hs.rel.pack hnd
  have lQ:=dn.pack g ord
  have aaE:Ku (g.pack ord) w (pv.map (iI (idx ord))) qb:=by
   cases pv with
   |none=>cases qb with
    |none=>exact trivial
    |some v=>exact ED.elim
   |some u=>cases qb with
    |none=>exact ED.elim
    |some v=>exact VA.iI lQ ED
  obtain⟨w',g',cv,fr',q1,q2,q3,q5,q6,q7,q8⟩:=fj (g.pack ord) w (fa++ca) qb {b.atR {a with defers:=[]} todo with mode:=cU qb false} cs rfl aaE Kq (cY.iI lQ hargs) (hs.dS.mono fun _ _ p=>⟨p,rfl⟩)
  have hlen:(Am.pack c.st.mem ord).length=ord.length:=by simp[Am.pack]
  rw[hlen] at q7 q8
  obtain⟨r1,r2,r3,r4⟩:=hs.rel.back hnd (fL hlt) q5 q6 q7 q8
  have EU:=step_defer (P:=P) (fr:={b.atR a todo with mode:=cU qb false}) (cs:=cs) (w:=w) (ds:=[]) (by cases qb<;>exact fun e=>by cases e) hd rfl (KF Oh Oi Oj)
  have hleave:=step_going_returned (P:=P) (c:={b.atR {a with defers:=[]} todo with mode:=cU qb true}) (cs:=cs) q3 q2
  have m5:c.st.fix≤(dj (bC ord c.st.mem.length) ord m1 c.st.mem).length:=by
   rw[dW _ _ _ _ q8];have:=hs.fix;omega
  refine⟨_,{b.atR {a with defers:=[]} todo with mode:= .returning},w',(hst cs).trans (.head EU (q1.trans (.one ?_))),⟨b,{a with defers:=[]},todo,rfl,vf,hrb.ext fun i c q=>(r2.bL i c q).1,vg,rfl,rfl,⟨fun k=>(hs.tm k).mono r2,hs.nt,r1,m5,hs.dS.mono r2.pure⟩⟩,r3,bO.qa r2 _,rfl,rfl,rfl⟩
  rw[hleave]
  simp only[CA]
theorem HO {c:cg} {b:Frame} {a:Act} {todo:List Item} {u:AV} {cv:Value} (hs:cA E g c.st a w) (hrb:eA g c.st.bZ b) (vf:b.fn=c.f) (hd:Mk g c.st.cJ a.defers) (hu:VA g w u cv) :
  AJ P E g c {b.atR a todo with mode:=cU (some cv) false} w (ux P c u):=by
 unfold ux
 split
 · trivial
 · rename_i vg
   have vg : ∀i,c.st.bZ ≠ .round i:=fun i e=>vg i e
   split
   · rename_i hmk
     split
     · rename_i fn hfn
       intro cs
       have hds:a.defers=[]:=by
        rw[hmk] at hd
        cases hq:a.defers with
        |nil=>rfl
        |cons _ _=>rw[hq] at hd;exact hd.elim
       obtain⟨hnd,m9⟩:=eR c.st.mem c.st.fix [u]
       generalize close c.st.mem c.st.fix [u]=ord at *
       obtain⟨p1,p2⟩:=hs.rel.pack hnd
       have hlen:c.st.fix≤ord.length:=by
        rcases qs c.st.fix with e | e
        · omega
        · have:=bG (m9 (c.st.fix-1) (by omega));omega
       refine⟨g.pack ord,_,w,aan _ _,⟨vf,cv,⟨rfl,hds,fn,?_⟩,hu.iI (dn.pack g ord),p1,?_⟩,?_,?_,rfl,rfl,rfl⟩
       · show P.funcs[b.fn]? = some fn
         rw[vf];exact hfn
       · show c.st.fix≤(Am.pack c.st.mem ord).length
         simpa[Am.pack] using hlen
       · exact⟨dd _,fun _ _ _=>rfl,fun _ _ p=>⟨p,rfl⟩,fun _ _ p=> .inl p,fun c' ho=> .inl (p2 c' ho),rfl,rfl,rfl⟩
       · intro k c' hk eB
         have:=m9 k hk
         simp[Gh.pack,this,eB]
     · trivial
   · rename_i gf first caps hmk
     rw[hmk] at hd
     cases hq:a.defers with
     |nil=>rw[hq] at hd;exact hd.elim
     |cons d ds=>
      rw[hq] at hd
      obtain⟨hd1,hd2⟩:=hd
      cases ds with
      |nil=>exact Gc (pv:=some u) (qb:=some cv) hs hrb vg vf hq hd1 hu fun cs=>aan _ _
      |cons _ _=>exact hd2.elim
   · trivial
theorem yY {c:cg} {b:Frame} {a:Act} {todo:List Item} (hs:cA E g c.st a w) (hrb:eA g c.st.bZ b) (vg : ∀i,c.st.bZ ≠ .round i) (vf:b.fn=c.f) (hd:Mk g c.st.cJ a.defers) {fr:Frame}
  (hst : ∀cs,Steps P (lone fr cs w) (lone {b.atR a todo with mode:= .returning} cs w)):AJ P E g c fr w (ending P c):=by
 have key : ∀m,lF c.st.cJ c.st.mem=some m→AJ P E g c fr w (lE P {c with st:={c.st with mem:=m,cJ:=[]}}):=by
  intro m hm
  obtain⟨w',q1,q2,q3⟩:=Gb (P:=P) (b:=b) (todo:=todo) hm hd hs
  have h1:=vw (P:=P) (E:=E) (c:={c with st:={c.st with mem:=m,cJ:=[]}}) (b:=b) (a:={a with defers:=[]}) (todo:=todo) q2 hrb vg vf rfl (fr:={b.atR {a with defers:=[]} todo with mode:= .returning}) fun cs=>aan _ _
  unfold lE at h1 ⊢
  split
  · rename_i fn hfn
    rw[hfn] at h1
    simp only at h1
    split
    · rename_i vs ok hres
      simp only[hres] at h1
      intro hok cs
      obtain⟨g',fr',w2,s1,s2,s3,s4,s5,s6,s7⟩:=h1 hok cs
      exact⟨g',fr',w2,((hst cs).trans (q1 cs)).trans s1,s2,q3.trans s3,s4,s5,s6,s7⟩
    · trivial
  · trivial
 unfold ending
 split
 · rename_i hmk
   have h:=key c.st.mem (by rw[hmk];rfl)
   have e:({c with st:={c.st with mem:=c.st.mem,cJ:=[]}}:cg)=c:=by
    obtain⟨f,t,st⟩:=c
    obtain⟨tm,nt,mem,fix,cJ,bZ⟩:=st
    simp only at hmk
    subst hmk
    rfl
   rw[e] at h
   exact h
 · rename_i gf first caps hmk
   rw[hmk] at hd
   cases hq:a.defers with
   |nil=>rw[hq] at hd;exact hd.elim
   |cons d ds=>
    rw[hq] at hd
    obtain⟨hd1,hd2⟩:=hd
    cases ds with
    |nil=>exact Gc (pv:=none) (qb:=none) hs hrb vg vf hq hd1 trivial hst
    |cons _ _=>exact hd2.elim
 · split
   · rename_i m hm
     exact key m hm
   · trivial
end
end Go.Am
end
section
namespace Go.Am
open Go.RowKit
section
variable {P:Program} {E:Env} {g:Gh} {w:World}
theorem Gd (m:Mem) (b b':aN):(m++[b]).set m.length b'=m++[b']:=by
 rw[List.set_append_right _ _ (dd _)];simp
theorem EV {st:St} {a:Act} (h:cA E g st a w):cY g w ((upTo st.nt).map (look st.tm)) a.tmps.toList:=by
 refine bI.dz (by simp[h.nt,iO]) fun i hi hi'=> ?_
 have hu:(upTo st.nt)[i]? = some i:=vc st.nt i (by simpa[iO] using hi)
 have e:((upTo st.nt).map (look st.tm))[i]=look st.tm i:=by
  have:((upTo st.nt).map (look st.tm))[i]? = some (look st.tm i):=by rw[fe,hu];rfl
  rw[de hi] at this
  exact dt this
 rw[e]
 have:=h.tm i
 rw[xi,hZ (by simpa using hi')] at this
 simpa using this
theorem HP {st:St} {a:Act} (hs:cA E g st a w) (f:FuncId) (ps:Array Tmp) (as bd:Code) :
  ∃g',Rel g' (dM st f ps as bd) ((w.alloc (.deferred (some []))).alloc (.loop {state:= .ready,pending:=none,fn:=f,tmps:=a.tmps,params:=ps,assign:=as,body:=bd,defers:=w.heap.size})) ∧
   Ext g w g' ((w.alloc (.deferred (some []))).alloc (.loop {state:= .ready,pending:=none,fn:=f,tmps:=a.tmps,params:=ps,assign:=as,body:=bd,defers:=w.heap.size})) ∧
   dm g st.mem w g' (dM st f ps as bd) ((w.alloc (.deferred (some []))).alloc (.loop {state:= .ready,pending:=none,fn:=f,tmps:=a.tmps,params:=ps,assign:=as,body:=bd,defers:=w.heap.size})) ∧
   g'.bL st.mem.length=some w.heap.size∧g'.bL (st.mem.length+1)=some (w.heap.size+1):=by
 obtain⟨r1,s1⟩:=hs.rel.reserve
 obtain⟨r2,e2,s2⟩:=r1.uc (i:=st.mem.length) (ob:= .Hx) (l:=[]) (vs:=[]) (by simp) trivial (ew w (.deferred (some []))) ⟨rfl,rfl⟩
 rw[Gd] at r2 s2
 obtain⟨r3,s3⟩:=r2.reserve
 have hv:=(EV hs).mono e2
 obtain⟨r4,e4,s4⟩:=r3.uc (i:=st.mem.length+1) (ob:= .loop f ps as bd .ready none) (l:=(upTo st.nt).map (look st.tm)) (vs:=a.tmps.toList)
  (by simp) hv (ew _ (.loop {state:= .ready,pending:=none,fn:=f,tmps:=a.tmps,params:=ps,assign:=as,body:=bd,defers:=w.heap.size})) ⟨w.heap.size,by simp⟩
 have hl:(st.mem++[aN.ob .Hx []]).length=st.mem.length+1:=by simp
 have hse:=Gd (st.mem++[aN.ob .Hx []]) .free (.ob (.loop f ps as bd .ready none) ((upTo st.nt).map (look st.tm)))
 rw[hl] at hse
 rw[hse] at r4 s4
 refine⟨_,r4,e2.trans e4,s1.trans (s2.trans (s3.trans s4)),?_,?_⟩
 · have:=(e4.bL st.mem.length w.heap.size (by simp[Gh.put])).1
   exact this
 · simp[Gh.put]
theorem xW {a:Act} {x:Operand} {f:FuncId} {fa ca:Array Value} {l:Nat} (hx:a.eval x = .func (.func f) fa ca)
  {fn:Func} (hf:P.funcs[f]? = some fn) (hb:fn.body.isSome=true) (hn:(fn.name == "runtime.NumGoroutine")=false) :
  ∃d,(resolve a.eval (rangeCall x l) 0).run P w = .ok d w∧(invoke d.target d.args).run P w = .ok (.enter f (fa ++ #[.func (.yield l) #[] #[]]++ca)) w:=by
 have WW:fn.body.isNone=false:=by cases hq:fn.body<;>simp_all
 refine⟨{target:= .fn (.func f) ca,args:=fa ++ #[.func (.yield l) #[] #[]]},?_,?_⟩
 · simp only[resolve,hx,Deferred.ofValue,kl]
   have e:Array.map a.eval #[Operand.const (Value.func (Fn.yield l) #[] #[])] = #[Value.func (Fn.yield l) #[] #[]]:=by simp[Act.eval]
   rw[e]
 · simp only[invoke,callFunc,kh,run_program,km,hf,hn,pn,if_false,WW,kl]
theorem CB {m m':Mem} {L l:Nat} {pd:Option Code} (h:Rel g m w) (hl:g.bL L=some l) (he:fS m L=some (m',pd)) :
  ∃w',(Instr.endLoop l).run P w = .ok pd w'∧Rel g m' w'∧Ext g w g w'∧dm g m w g m' w':=by
 unfold fS at he
 split at he
 · rename_i f ps as bd st Ge vals hb
   have hib:=getD_some hb (by simp)
   obtain⟨c,ob,vs,k1,k2,k3,k4,_⟩:=h.obs L _ _ hib
   rw[hl] at k1;cases k1
   obtain⟨D,rfl⟩:=k4
   have fin:st ≠ .busy→some (m.set L (.ob (.loop f ps as bd .exhausted Ge) vals),Ge)=some (m',pd) → ∃w',(Instr.endLoop l).run P w = .ok pd w'∧Rel g m' w'∧Ext g w g w'∧dm g m w g m' w':=by
    intro hst e
    simp only[dq,kc] at e
    obtain⟨rfl,rfl⟩:=e
    obtain⟨e1,e2,e3⟩:=fC w (o':= .loop {state:= .exhausted,pending:=Ge,fn:=f,tmps:=vs.toArray,params:=ps,assign:=as,body:=bd,defers:=D}) k2
    obtain⟨r1,r2,r3⟩:=h.j8 (JB:= .loop f ps as bd .exhausted Ge) (l':=vals) (vs':=vs) hib hl e1 e2 rfl rfl rfl e3 ⟨D,rfl⟩ k3
    exact⟨_,run_endLoop k2 hst,r1,r2,r3⟩
   cases st with
   |busy=>cases he
   |ready=>exact fin (fun e=>by cases e) he
   |done=>exact fin (fun e=>by cases e) he
   |exhausted=>exact fin (fun e=>by cases e) he
 · cases he
theorem KG {st:St} {a:Act} {b:Frame} {k:List Item} {x:Operand} {ps:Array Tmp} {as bd:Code} {gf:FuncId} {first captured:List AV} {v:AV} {m1 m2:Mem} {pd:Option Code}
  (hs:cA E g st a w) (hr:b.roundOf=none) (hd:Mk g st.cJ a.defers) (hx:ev E st.tm x = .fn (.func gf) first captured)
  (hlt:iJ (close (dM st b.fn ps as bd) 0 (first++[.vy (st.mem.length+1)]++captured)) (dM st b.fn ps as bd).length=true)
  (fj:au P E gf (eE (idx (close (dM st b.fn ps as bd) 0 (first++[.vy (st.mem.length+1)]++captured))) (first++[.vy (st.mem.length+1)]++captured))
    (pack (dM st b.fn ps as bd) (close (dM st b.fn ps as bd) 0 (first++[.vy (st.mem.length+1)]++captured))) v m1)
  (hend:fS (back (close (dM st b.fn ps as bd) 0 (first++[.vy (st.mem.length+1)]++captured)) none {st with mem:=dM st b.fn ps as bd} v m1).mem (st.mem.length+1)=some (m2,pd)) :
  ∀cs,∃g' a' w',Steps P (lone (b.atR a (.code (.rangeFunc x ps as bd)::k)) cs w) (lone (b.atR a' ((pd.map Item.code).toList++k)) cs w') ∧
   Mk g' (.range st.mem.length::st.cJ) a'.defers∧cA E g' {st with mem:=m2,cJ:= .range st.mem.length::st.cJ} a' w'∧dm g st.mem w g' m2 w'∧bO g g' st.fix ∧ ∀i c,g.bL i=some c→g'.bL i=some c:=by
 intro cs
 obtain⟨g1,r1,e1,s1,d1,d2⟩:=HP hs b.fn ps as bd
 generalize hM:dM st b.fn ps as bd=M at *
 generalize hW:(w.alloc (.deferred (some []))).alloc (.loop {state:= .ready,pending:=none,fn:=b.fn,tmps:=a.tmps,params:=ps,assign:=as,body:=bd,defers:=w.heap.size})=W at *
 have hlM:st.mem.length+2≤M.length:=by rw[←hM];simp[dM]
 have xN:=fV hs x
 rw[hx,VA.fns] at xN
 obtain⟨fa,ca,xN,Sb,hca⟩:=xN
 obtain⟨⟨fn,Oh,Oi,Oj⟩,fj⟩:=fj
 obtain⟨d,hres,hinv⟩:=xW (P:=P) (w:=W) (l:=w.heap.size+1) xN Oh Oi Oj
 have EU:=stepR_rangeFunc (P:=P) (b:=b) (a:=a) (k:=k) (cs:=cs) (w:=w) (g:=x) (ps:=ps) (assign:=as) (body:=bd) (w₁:=W) (by rw[hr,←hW];exact run_enterLoop_outer _ _ _ _ _) hres hinv
 have hargs:cY g1 W (first++[.vy (st.mem.length+1)]++captured) (fa ++ #[Value.func (.yield (w.heap.size+1)) #[] #[]]++ca).toList:=by
  simp only[zt]
  have hy:cY g1 W [.vy (st.mem.length+1)] [Value.func (.yield (w.heap.size+1)) #[] #[]]:=⟨.vy _ _ d2,trivial⟩
  exact((Sb.mono e1).append hy).append (hca.mono e1)
 generalize first++[.vy (st.mem.length+1)]++captured=args at *
 obtain⟨hnd,_⟩:=eR M 0 args
 generalize close M 0 args=ord at *
 obtain⟨Kq,Kr⟩:=r1.pack hnd
 have lQ:=dn.pack g1 ord
 have W9:fR E g1 W:=hs.dS.mono e1.pure
 obtain⟨w',g',cv,fr,q1,q2,q3,q4,q5,q6,q7,q8⟩:=fj (g1.pack ord) W _ (b.atR {a with defers:=[{target:= .collected w.heap.size,args:= #[]}]++a.defers} (.inRangeFunc (w.heap.size+1)::k)::cs) Kq
  (cY.iI lQ hargs) (W9.mono fun _ _ p=>⟨p,rfl⟩)
 have hlen:(Am.pack M ord).length=ord.length:=by simp[Am.pack]
 rw[hlen] at q7 q8
 obtain⟨r2,e2,s2,r4⟩:=r1.back hnd (fL hlt) q5 q6 q7 q8
 have hmem:(back ord none {st with mem:=M} v m1).mem=dj (bC ord M.length) ord m1 M:=rfl
 rw[hmem] at hend
 have hL:(g1.back g' ord M.length).bL (st.mem.length+1)=some (w.heap.size+1):=(e2.bL _ _ d2).1
 obtain⟨w2,f1,f2,f3,f4⟩:=CB (P:=P) r2 hL hend
 have hleave:=step_leave_returned (P:=P) (c:=b.atR {a with defers:=[{target:= .collected w.heap.size,args:= #[]}]++a.defers} (.inRangeFunc (w.heap.size+1)::k)) (cs:=cs) q2
 rw[finish_atR_inRangeFunc] at hleave
 have CC:Ext g w (g1.back g' ord M.length) w2:=(e1.trans e2).trans f3
 have hm2:st.fix≤m2.length:=by
  have rq:=dW (bC ord M.length) ord m1 M q8
  have Oe:m2.length=(dj (bC ord M.length) ord m1 M).length:=by
   unfold fS at hend
   split at hend
   · split at hend
     · cases hend
     · simp only[dq,kc] at hend
       obtain⟨rfl,_⟩:=hend
       simp
   · cases hend
  have:=hs.fix
  omega
 refine⟨g1.back g' ord M.length,{a with defers:=[{target:= .collected w.heap.size,args:= #[]}]++a.defers},w2,.head EU (q1.trans (.head hleave (.one (stepR_endRangeFunc f1)))),?_,?_,s1.trans (s2.trans f4),bO.qa CC _,fun i c q=>(CC.bL i c q).1⟩
 · exact⟨⟨w.heap.size,(e2.bL _ _ d1).1,rfl⟩,hd.ext fun i c q=>(CC.bL i c q).1⟩
 · exact⟨fun j=>(hs.tm j).mono CC,hs.nt,f2,hm2,hs.dS.mono CC.pure⟩
end
end Go.Am
end
section
namespace Go.Am
open Go.RowKit
section
variable {P:Program} {E:Env} {g:Gh} {w:World}
theorem dK {id:Nat} : ∀{k k':List It},cm id k=some k'→exitTo id (dR k)=some (dR k')
 |[],_,h=>by simp[cm] at h
 |.inBlock i::k,k',h=>by
  simp only[cm] at h
  cases hb:bj i id with
  |true=>
   simp only[hb,cond_true,dq] at h;subst h
   have:=bx hb
   subst this
   simp[dR,er,exitTo]
  |false=>
   simp only[hb,cond_false] at h
   have hne:(i==id)=false:=by
    rw[beq_eq_false_iff_ne];intro e;subst e;simp[tp] at hb
   simp only[dR,er,aaq,Ps,exitTo,hne,pn,if_false]
   exact dK h
 |.code _ _::k,k',h=>by
  simp only[cm] at h
  simpa[dR,er,exitTo] using dK h
 |.ops _ _ _ _::k,k',h=>by
  simp only[cm] at h
  simpa[dR,er,exitTo] using dK h
 |.inLoop _ _::k,k',h=>by
  simp only[cm] at h
  simpa[dR,er,exitTo] using dK h
 |.forget _::k,k',h=>by
  simp only[cm] at h
  simpa[dR,er] using dK h
 |.fin::k,k',h=>by
  simp only[cm] at h
  simpa[dR,er] using dK h
 |.xB _::k,k',h=>by
  simp only[cm] at h
  simpa[dR,er] using dK h
 |.gM _::k,k',h=>by
  simp only[cm] at h
  simpa[dR,er] using dK h
 |.leave::k,k',h=>by
  simp only[cm] at h
  simpa[dR,er] using dK h
 |.begin::k,k',h=>by
  simp only[cm] at h
  simpa[dR,er,exitTo] using dK h
 |.inScope _::k,k',h=>by
  simp only[cm] at h
  simpa[dR,er,exitTo] using dK h
theorem dc {id:Nat} : ∀{k:List It},cm id k=none→exitTo id (dR k)=none
 |[],_=>rfl
 |.inBlock i::k,h=>by
  simp only[cm] at h
  cases hb:bj i id with
  |true=>simp[hb] at h
  |false=>
   simp only[hb,cond_false] at h
   have hne:(i==id)=false:=by
    rw[beq_eq_false_iff_ne];intro e;subst e;simp[tp] at hb
   simp only[dR,er,aaq,Ps,exitTo,hne,pn,if_false]
   exact dc h
 |.code _ _::k,h=>by
  simp only[cm] at h
  simpa[dR,er,exitTo] using dc h
 |.ops _ _ _ _::k,h=>by
  simp only[cm] at h
  simpa[dR,er,exitTo] using dc h
 |.inLoop _ _::k,h=>by
  simp only[cm] at h
  simpa[dR,er,exitTo] using dc h
 |.forget _::k,h=>by
  simp only[cm] at h
  simpa[dR,er] using dc h
 |.fin::k,h=>by
  simp only[cm] at h
  simpa[dR,er] using dc h
 |.xB _::k,h=>by
  simp only[cm] at h
  simpa[dR,er] using dc h
 |.gM _::k,h=>by
  simp only[cm] at h
  simpa[dR,er] using dc h
 |.leave::k,h=>by
  simp only[cm] at h
  simpa[dR,er] using dc h
 |.begin::k,h=>by
  simp only[cm] at h
  simpa[dR,er,exitTo] using dc h
 |.inScope _::k,h=>by
  simp only[cm] at h
  simpa[dR,er,exitTo] using dc h
theorem dL {l:Nat} : ∀{k k':List It},eF l k=some k'→gotoIn l (dR k)=some (dR k')
 |[],_,h=>by simp[eF] at h
 |.inScope b::k,k',h=>by
  simp only[eF] at h
  simp only[dR,er,aaq,Ps,gotoIn]
  cases hf:findLabel b l with
  |some rest=>
   simp only[hf,dq] at h;subst h
   rfl
  |none=>
   simp only[hf] at h
   exact dL h
 |.code _ _::k,k',h=>by
  simp only[eF] at h
  simpa[dR,er,gotoIn] using dL h
 |.ops _ _ _ _::k,k',h=>by
  simp only[eF] at h
  simpa[dR,er,gotoIn] using dL h
 |.inBlock _::k,k',h=>by
  simp only[eF] at h
  simpa[dR,er,gotoIn] using dL h
 |.inLoop _ _::k,k',h=>by
  simp only[eF] at h
  simpa[dR,er,gotoIn] using dL h
 |.forget _::k,k',h=>by
  simp only[eF] at h
  simpa[dR,er] using dL h
 |.fin::k,k',h=>by
  simp only[eF] at h
  simpa[dR,er] using dL h
 |.xB _::k,k',h=>by
  simp only[eF] at h
  simpa[dR,er] using dL h
 |.gM _::k,k',h=>by
  simp only[eF] at h
  simpa[dR,er] using dL h
 |.leave::k,k',h=>by
  simp only[eF] at h
  simpa[dR,er] using dL h
 |.begin::k,k',h=>by
  simp only[eF] at h
  simpa[dR,er,gotoIn] using dL h
theorem oS {l:Nat} : ∀{k k':List It},(∀x∈k,It.pl x)→eF l k=some k' → ∀x∈k',It.pl x
 |[],_,_,h=>by simp[eF] at h
 |x::k,k',hf,h=>by
  have ht : ∀y∈k,It.pl y:=fun y hy=>hf y (.tail _ hy)
  cases x with
  |inScope b=>
   simp only[eF] at h
   cases hl:findLabel b l with
   |some rest=>
    simp only[hl,dq] at h;subst h
    intro y hy
    cases hy with
    |head=>exact trivial
    |tail _ hy=>exact hf y hy
   |none=>
    simp only[hl] at h
    exact oS ht h
  |_=>simp only[eF] at h;exact oS ht h
theorem oU {id:Nat} : ∀{k k':List It},(∀x∈k,It.pl x)→cm id k=some k' → ∀x∈k',It.pl x
 |[],_,_,h=>by simp[cm] at h
 |x::k,k',hf,h=>by
  have ht : ∀y∈k,It.pl y:=fun y hy=>hf y (.tail _ hy)
  cases x with
  |inBlock i=>
   simp only[cm] at h
   cases hb:bj i id with
   |true=>simp only[hb,cond_true,dq] at h;subst h;exact ht
   |false=>simp only[hb,cond_false] at h;exact oU ht h
  |_=>simp only[cm] at h;exact oU ht h
theorem CD {g':Gh} {ρ:Nat→Option Nat} {f:Nat→Value} : ∀(keep:List Nat) (tm:qK),(∀k,VA g' w (iI ρ (look tm k)) (f k)) → ∀k,VA g' w (look (keep.zip (eE ρ (keep.map (look tm)))) k) (f k)
 |[],tm,_,k=> .aT _
 |i::keep,tm,h,k=>by
  simp only[List.map_cons,eE,aas,jt]
  by_cases e:i=k
  · subst e;simp only[if_true];exact h i
  · simp only[e,if_false];exact CD keep tm h k
theorem vA {keep:List Nat} {st:St}:(forget keep st).bZ=st.bZ:=by
 obtain⟨tm,nt,mem,fix,cJ,bZ⟩:=st
 cases cJ with
 |cons i l=>rfl
 |nil=>cases bZ<;>rfl
theorem sO {keep:Option (List Nat)} {st:St}:(iA keep st).bZ=st.bZ:=by
 cases keep with
 |none=>rfl
 |some keep=>exact vA
theorem yZ {st:St} {a:Act} (h:cA E g st a w) (keep:List Nat) : ∃g',cA E g' (forget keep st) a w∧dm g st.mem w g' (forget keep st).mem w∧bO g g' st.fix∧(forget keep st).fix=st.fix∧(∀ds,Mk g st.cJ ds→Mk g' (forget keep st).cJ ds) ∧ ∀b,eA g st.bZ b→eA g' (forget keep st).bZ b:=by
 obtain⟨tm,nt,mem,fix,cJ,bZ⟩:=st
 have stay:forget keep ⟨tm,nt,mem,fix,cJ,bZ⟩=⟨tm,nt,mem,fix,cJ,bZ⟩→_:=fun this=>(show ∃g',cA E g' (forget keep ⟨tm,nt,mem,fix,cJ,bZ⟩) a w∧dm g mem w g' (forget keep ⟨tm,nt,mem,fix,cJ,bZ⟩).mem w∧bO g g' fix∧(forget keep ⟨tm,nt,mem,fix,cJ,bZ⟩).fix=fix∧(∀ds,Mk g cJ ds→Mk g' (forget keep ⟨tm,nt,mem,fix,cJ,bZ⟩).cJ ds) ∧ ∀b,eA g bZ b→eA g' (forget keep ⟨tm,nt,mem,fix,cJ,bZ⟩).bZ b from by
  rw[this]
  exact⟨g,h,dm.refl _ _ _,bO.refl _ _,rfl,fun _ q=>q,fun _ q=>q⟩)
 cases cJ with
 |cons i cJ=>exact stay rfl
 |nil=>
  cases bZ with
  |round i=>exact stay rfl
  |late=>exact stay rfl
  |call=>
   obtain⟨hnd,m9⟩:=eR mem fix (keep.map (look tm))
   obtain⟨h1,h2⟩:=h.rel.pack hnd
   have hlen:fix≤(close mem fix (keep.map (look tm))).length:=by
    rcases qs fix with e | e
    · omega
    · have:=bG (m9 (fix-1) (by omega));omega
   refine⟨g.pack (close mem fix (keep.map (look tm))),⟨CD keep tm fun k=>(h.tm k).iI (dn.pack g _),h.nt,h1,?_,h.dS.mono fun _ _ p=>⟨p,rfl⟩⟩,?_,?_,rfl,?_,fun _ q=>q⟩
   · show fix≤(Am.pack mem _).length
     simpa[Am.pack] using hlen
   · exact⟨dd _,fun _ _ _=>rfl,fun _ _ p=>⟨p,rfl⟩,fun _ _ p=> .inl p,fun c ho=> .inl (h2 c ho),rfl,rfl,rfl⟩
   · intro k c hk hc
     have:=m9 k hk
     simp[Gh.pack,this,hc]
   · intro ds hd
     cases ds with
     |nil=>exact trivial
     |cons _ _=>exact hd.elim
theorem vB {st:St} {a:Act} (h:cA E g st a w) (keep:Option (List Nat)) : ∃g',cA E g' (iA keep st) a w∧dm g st.mem w g' (iA keep st).mem w∧bO g g' st.fix∧(iA keep st).fix=st.fix∧(∀ds,Mk g st.cJ ds→Mk g' (iA keep st).cJ ds) ∧ ∀b,eA g st.bZ b→eA g' (iA keep st).bZ b:=by
 cases keep with
 |none=>exact⟨g,h,dm.refl _ _ _,bO.refl _ _,rfl,fun _ q=>q,fun _ q=>q⟩
 |some keep=>exact yZ h keep
theorem ng (keep:Option (List Nat)) (k:List It):dR (eO keep k)=dR k:=by cases keep<;>rfl
theorem nh {keep:Option (List Nat)} {k:List It} (h : ∀x∈k,It.pl x) : ∀x∈eO keep k,It.pl x:=by
 cases keep with
 |none=>exact h
 |some keep=>
  intro x hx
  cases hx with
  |head=>exact trivial
  |tail _ hx=>exact h x hx
theorem vC {st:St} {a:Act} {i l:Nat} {f:FuncId} {ps:Array Tmp} {as bd:Code} {s s':LoopState} {pd Ge:Option Code} {vals:List AV}
  (h:cA E g st a w) (hl:g.bL i=some l) (hb:st.mem.getD i .dead = .ob (.loop f ps as bd s pd) vals) :
  ∃r:Loop,w.heap[l]? = some (.loop r)∧r.state=s ∧
   Rel g (st.mem.set i (.ob (.loop f ps as bd s' Ge) vals)) (w.putObj l (.loop {r with state:=s',pending:=Ge})) ∧
   Ext g w g (w.putObj l (.loop {r with state:=s',pending:=Ge})) ∧
   dm g st.mem w g (st.mem.set i (.ob (.loop f ps as bd s' Ge) vals)) (w.putObj l (.loop {r with state:=s',pending:=Ge})) ∧
   fP g st.mem l:=by
 have hib:=getD_some hb (by simp)
 obtain⟨c,ob,vs,k1,k2,k3,k4,_⟩:=h.rel.obs i _ _ hib
 rw[hl] at k1;cases k1
 obtain⟨D,rfl⟩:=k4
 obtain⟨e1,e2,e3⟩:=fC w (o':= .loop {state:=s',pending:=Ge,fn:=f,tmps:=vs.toArray,params:=ps,assign:=as,body:=bd,defers:=D}) k2
 obtain⟨r1,r2,r3⟩:=h.rel.j8 (JB:= .loop f ps as bd s' Ge) (l':=vals) (vs':=vs) hib hl e1 e2 rfl rfl rfl e3 ⟨D,rfl⟩ k3
 exact⟨_,k2,rfl,r1,r2,r3,i,_,hib,rfl,hl⟩
theorem ni {c:cg} {b:Frame} {a:Act} {i l:Nat} {jump:Option Code} {todo:List Item} (hs:cA E g c.st a w) (hrn:c.st.bZ = .round i) (hl:g.bL i=some l) (vf:b.fn=c.f)
  (hst : ∀(v:Value) (w':World),(Instr.endRound l jump).run P w = .ok v w' → ∀(d:Frame) (cs:List Frame),_root_.Go.step P (lone (b.atR a todo) (d::cs) w) = .next (lone (d.finish v) cs w')) :
  AJ P E g c (b.atR a todo) w (mJ c i jump):=by
 unfold mJ
 split
 · rename_i f ps as bd s pd vals hb
   dsimp only
   cases hlt:cf i c.st.fix with
   |false=>trivial
   |true=>
   rw[Nat.blt_eq] at hlt
   intro cs
   obtain⟨r,q1,_,q2,q3,q4,q5⟩:=vC (s':=fy jump) (Ge:=jump) hs hl hb
   have hrun:=run_endRound (P:=P) jump q1
   have Sp:(if jump.isNone then LoopState.ready else .done)=(fy jump):=by cases jump<;>rfl
   rw[Sp] at hrun
   generalize hm:c.st.mem.set i (.ob (.loop f ps as bd (fy jump) jump) vals)=m at *
   obtain⟨hnd,m9⟩:=eR m c.st.fix []
   generalize KB:close m c.st.fix []=ord at *
   obtain⟨p1,p2⟩:=q2.pack hnd
   have hlen:c.st.fix≤ord.length:=by
    rcases qs c.st.fix with e | e
    · omega
    · have:=bG (m9 (c.st.fix-1) (by omega));omega
   have own : ∀c',fP (g.pack ord) (Am.pack m ord) c'→fP g c.st.mem c':=fun c' ho=>(q4.owned c' (p2 c' ho)).elim id fun hh=>by
    have h1:=q2.kL (p2 c' ho)
    rw[World.putObj_size] at h1
    omega
   refine⟨g.pack ord,_,w,aan _ _,⟨vf,.bool jump.isNone,_,?_,.p _ _ (.sc _),p1,?_,?_⟩,?_,?_,rfl,rfl,rfl⟩
   · show Ks P c.st.bZ _ w _ _
     rw[hrn]
     exact fun d cs=> .one (hst _ _ hrun d cs)
   · have hol:fP (g.pack ord) (Am.pack m ord) l:=by
      have hi:=m9 i hlt
      have him:m[i]? = some (.ob (.loop f ps as bd (fy jump) jump) vals):=by
       rw[←hm,nb (bG (getD_some hb (by simp)))]
      refine⟨i,fq (idx ord) (.ob (.loop f ps as bd (fy jump) jump) vals),?_,rfl,by simp[Gh.pack,hi,hl]⟩
      unfold Am.pack
      rw[fe,hi]
      simp[di,him]
     exact⟨by simp,fun c' _ hno=>World.putObj_heap_other fun e=>hno (e▸hol),fun c' o p=>⟨p,(q4.pure c' o p).2⟩,fun _ _ p=> .inl p,fun _ ho=> .inl ho,rfl,rfl,rfl⟩
   · show c.st.fix≤(Am.pack m ord).length
     simpa[Am.pack] using hlen
   · exact⟨dd _,fun _ _ _=>rfl,fun _ _ p=>⟨p,rfl⟩,fun _ _ p=> .inl p,fun c' ho=> .inl (own c' ho),rfl,rfl,rfl⟩
   · intro k c' hk eB
     have:=m9 k hk
     simp[Gh.pack,this,eB]
 · trivial
theorem gP {c:cg} {fr:Frame} (h:dA P E g c fr w):AJ P E g c fr w (Am.step P E c):=by
 obtain⟨f,todo,st⟩:=c
 cases todo with
 |nil=>
  obtain⟨b,a,rfl,h1,h2,h3,h4,_⟩:=h
  simp only[Am.step]
  split
  · rename_i i hr
    rw[hr] at h2
    obtain⟨hk,l,hl,hro⟩:=h2
    exact ni (c:=⟨f,[],st⟩) h4 hr hl h1 fun v w' hrun d cs=>stepR_round_end hro hk hrun
  · rename_i vg
    have vg : ∀i,st.bZ ≠ .round i:=fun i e=>vg i e
    exact yY (c:=⟨f,[],st⟩) (b:=b) (a:=a) (todo:=[]) h4 h2 vg h1 h3 fun cs=> .one (stepR_end (h2.AH vg))
 |cons x k=>
  by_cases m4:It.pl x
  case neg=>
   cases x with
   |fin=>
    obtain⟨h1,cv,w2,h2,h3,h4,h6,h5⟩:=h
    exact⟨h1,rfl,cv,w2,h2,h3,h4,h6,h5⟩
   |xB u=>
    obtain⟨h1,cv,h2,h3,h4,h5⟩:=h
    exact⟨h1,rfl,cv,h2,h3,h4,h5⟩
   |gM u=>
    obtain⟨b,a,todo,cv,rfl,h1,h2,h3,h4,h5⟩:=h
    exact HO (c:=⟨f,.gM u::k,st⟩) h4 h2 h1 h3 h5
   |leave=>
    obtain⟨b,a,todo,rfl,h1,h2,h3,_,h5,h6⟩:=h
    exact vw (c:=⟨f,.leave::k,st⟩) (b:=b) (a:=a) (todo:=todo) h6 h2 h3 h1 h5 fun cs=>aan _ _
   |_=>exact absurd trivial m4
  have h' : ∃(b:Frame) (a:Act),fr=b.atR a (er x++dR k)∧b.fn=f∧eA g st.bZ b∧Mk g st.cJ a.defers∧cA E g st a w ∧ ∀y∈x::k,It.pl y:=by
   cases x<;>first
    |exact absurd m4 id
    |exact h
  obtain⟨b,a,rfl,h1,h2,h3,h4,hxk⟩:=h'
  have hk : ∀y∈k,It.pl y:=fun y hy=>hxk y (.tail _ hy)
  clear h
  cases x with
  |fin=>exact absurd m4 id
  |xB u=>exact absurd m4 id
  |gM u=>exact absurd m4 id
  |leave=>exact absurd m4 id
  |begin=>
   simp only[Am.step]
   split
   · rename_i i hr
     unfold uy
     split
     · rename_i f' ps as bd pd vals hb
       intro cs
       have h2':=h2
       rw[hr] at h2'
       obtain⟨_,l,hl,hro⟩:=h2'
       obtain⟨r,q1,q0,q2,q3,q4,_⟩:=vC (s':= .busy) (Ge:=pd) h4 hl hb
       have hp:r.pending=pd:=by
        have hib:=getD_some hb (by simp)
        obtain⟨c,ob,vs,k1,k2,k3,k4,_⟩:=h4.rel.obs i _ _ hib
        rw[hl] at k1;cases k1
        obtain⟨D,rfl⟩:=k4
        rw[q1] at k2;cases k2
        rfl
       have hrun:=run_beginRound (P:=P) q1 q0
       rw[show({r with state:= .busy}:Loop)={r with state:= .busy,pending:=pd} by rw[←hp]] at hrun
       refine⟨g,_,_,.one (stepR_beginRound hro hrun),dA.mk (a:=a) (c:=⟨f,k,{st with mem:=st.mem.set i (.ob (.loop f' ps as bd .busy pd) vals)}⟩) hk h1 h2 h3 ⟨fun j=>(h4.tm j).mono q3,h4.nt,q2,by simpa using h4.fix,h4.dS.mono q3.pure⟩,q4,bO.refl _ _,rfl,rfl,rfl⟩
     · trivial
   · trivial
  |inScope bd=>exact eG.quiet (fun cs=> .one (step_lone_go (by simp[stepG,stepG.exec,yr,er]))) hk h1 rfl h2 h3 h4 rfl rfl
  |inBlock id=>exact eG.quiet (fun cs=> .one stepR_inBlock) hk h1 rfl h2 h3 h4 rfl rfl
  |forget keep=>
   intro cs
   obtain⟨g',q1,q2,q3,q4,q5,q6⟩:=yZ h4 keep
   exact⟨g',_,w,aan _ _,dA.mk (c:=⟨f,k,forget keep st⟩) hk h1 (q6 _ h2) (q5 _ h3) q1,q2,q3,rfl,q4,vA⟩
  |inLoop i body=>
   intro cs
   obtain⟨g',q1,q2,q3,q4,q5,q6⟩:=vB h4 (E.keep f (2*i))
   exact⟨g',_,w,.one stepR_inLoop,dA.mk (c:=⟨f,.code (i+1) body :: .inLoop i body::k,iA (E.keep f (2*i)) st⟩) (nf trivial (nf trivial hk)) h1 (q6 _ h2) (q5 _ h3) q1,q2,q3,rfl,q4,sO⟩
  |ops bY ops i sure=>
   simp only[Am.step]
   cases ho:ops[i]? with
   |none=>
    have hi:ops.size-i=0:=by
     have:ops.size≤i:=by
      rcases gg i ops.size with q | q
      · rw[hZ q] at ho;cases ho
      · exact q
     omega
    refine eG.quiet (c':=⟨f,k,st⟩) (fun cs=> .one ?_) hk h1 rfl h2 h3 h4 rfl rfl
    simp only[er,hi,List.range'_zero,aaq,Ps]
    exact stepR_region_end
   |some o=>
    obtain⟨w1,w2,w3⟩:=nP h4 (ops:=ops) (o:=o)
    have hi:i<ops.size:=by
     rcases gg i ops.size with q | q
     · exact q
     · rw[zr q] at ho;cases ho
    have skip:Region.wanted o (yielded ops a.tmps)=false→fits st o.dst=true→eG P E g ⟨f,.ops bY ops i sure::k,st⟩ (b.atR a (er (.ops bY ops i sure)++dR k)) w ⟨f,.ops bY ops (i+1) false::k,put st o.dst (.aK [])⟩:=by
     intro hw hf cs
     have hst:=stepR_op_skip (P:=P) (b:=b) (a:=a) (k:=dR k) (cs:=cs) (w:=w) (ops:=ops) (i:=i) (rest:=xb (i+1) (ops.size-(i+1))) (by simp[ho,hw])
     simp only[ho,Option.bind_some] at hst
     rw[←m0 hi] at hst
     have hp:=h4.put (v:= .aK []) (cv:=undef) hf (VA.mA.2 trivial) (Ext.refl g w) h4.rel h4.fix
     refine⟨g,_,w,.one hst,dA.mk (a:=a.put o.dst undef) (c:=⟨f,.ops bY ops (i+1) false::k,put st o.dst (.aK [])⟩) (nf trivial hk) h1 (h2.put (Ext.refl g w) rfl) (h3.put (Ext.refl g w) rfl) hp,?_,bO.refl _ _,rfl,?_,jj⟩
     · have:(put st o.dst (.aK [])).mem=st.mem:=by unfold Am.put;cases o.dst<;>rfl
       show dm g st.mem w g (put st o.dst (.aK [])).mem w
       rw[this];exact dm.refl _ _ _
     · show(put st o.dst (.aK [])).fix=st.fix
       unfold Am.put;cases o.dst<;>rfl
    dsimp only
    cases Ei:ec ops st.tm o with
    |yes=>exact F9 (c:=⟨f,.ops bY ops i sure::k,st⟩) h4 h1 h2 h3 ho (w1 Ei) hk
    |no=>
     dsimp only
     cases hf:fits st o.dst with
     |false=>trivial
     |true=>exact skip (w2 Ei) hf
    |lost=>trivial
    |ask d bb want=>
     obtain⟨q1,q2⟩:=w3 d bb want Ei
     dsimp only
     cases sure with
     |false=>
      have known : ∀b':Bool,bb=b'→eG P E g ⟨f,.ops bY ops i false::k,st⟩ (b.atR a (er (.ops bY ops i false)++dR k)) w ⟨f,.ops bY ops i true::k,put st (some d) (sB b')⟩:=by
       intro b' e
       subst e
       refine eG.quiet (c':=⟨f,.ops bY ops i true::k,put st (some d) (sB bb)⟩) (fun cs=>aan _ _) (nf trivial hk) h1 rfl h2 h3 (h4.known ?_) rfl rfl
       rw[q2];exact .p _ _ (.sc _)
      exact⟨known true,known false⟩
     |true=>
      dsimp only
      cases hb:bb==want with
      |true=>exact F9 (c:=⟨f,.ops bY ops i true::k,st⟩) h4 h1 h2 h3 ho (q1.trans hb) hk
      |false=>
       dsimp only
       cases hf:fits st o.dst with
       |false=>trivial
       |true=>exact skip (q1.trans hb) hf
  |code i code=>
   cases code with
   |skip=>exact eG.quiet (c':=⟨f,k,st⟩) (fun cs=> .one stepR_skip) hk h1 rfl h2 h3 h4 rfl rfl
   |region id ops draw=>
    cases draw with
    |true=>
     simp only[Am.step]
     split
     · rename_i st' ok hq
       intro hok cs
       subst hok
       obtain⟨g',a',w',r1,r2,r3,r4,r5,r6,r7⟩:=Oq (b:=b) (k:=dR k) h4 hq
       refine⟨g',_,w',r1 cs,dA.mk (a:=a') (c:=⟨f,k,{st' with cJ:=st.cJ,bZ:=st.bZ}⟩) hk h1 (h2.ext r7) (by rw[r2];exact h3.ext r7) ⟨r3.tm,r3.nt,r3.rel,r3.fix,r3.dS⟩,r4,r5,rfl,r6,rfl⟩
     · split
       · rename_i sts hq
         obtain⟨st',hm,g',a',w',r1,r2,r3,r4,r5,r6,r7⟩:=Oy (b:=b) (k:=dR k) (bY:=id) h4 hq
         intro cs
         exact⟨_,fi.2 ⟨st',hm,rfl⟩,g',_,w',r1 cs,dA.mk (a:=a') (c:=⟨f,k,{st' with cJ:=st.cJ,bZ:=st.bZ}⟩) hk h1 (h2.ext r7) (by rw[r2];exact h3.ext r7) ⟨r3.tm,r3.nt,r3.rel,r3.fix,r3.dS⟩,r4,r5,rfl,r6,rfl⟩
       intro O st' hO hq cs
       obtain⟨g',a',w',r1,r2,r3,r4,r5,r6,r7⟩:=Sn (b:=b) (k:=k) hO h4 hq cs
       have hk' : ∀y∈ia id ops k,It.pl y:=by
        unfold ia
        cases qY ops with
        |false=>exact hk
        |true=>exact nf trivial hk
       exact⟨g',_,w',r1,dA.mk (a:=a') (c:=⟨f,ia id ops k,{st' with cJ:=st.cJ,bZ:=st.bZ}⟩) hk' h1 (h2.ext r7) (by rw[r2];exact h3.ext r7) ⟨r3.tm,r3.nt,r3.rel,r3.fix,r3.dS⟩,r4,r5,rfl,r6,rfl⟩
    |false=>
     refine eG.quiet (c':=⟨f,.ops id ops 0 false::k,st⟩) (fun cs=> .one ?_) (nf trivial hk) h1 rfl h2 h3 h4 rfl rfl
     have:=stepR_region (P:=P) (b:=b) (a:=a) (k:=dR k) (cs:=cs) (w:=w) (ops:=ops) (id:=id)
     simpa[dR,er,aao] using this
   |seq x y=>exact eG.quiet (c':=⟨f,.code i x :: .code (i+nodes x) y::k,st⟩) (fun cs=> .one stepR_seq) (nf trivial (nf trivial hk)) h1 rfl h2 h3 h4 rfl rfl
   |cond x y z=>
    simp only[Am.step]
    split
    · rename_i t hx
      have hv:=fV h4 x
      rw[hx,VA.pv] at hv
      generalize hz:a.eval x=cv at hv
      cases hv
      refine⟨fun e=> ?_,fun e=> ?_⟩<;>subst e
      · refine eG.quiet (c':=⟨f,.code (i+1) y::eO (E.keep f (2*i)) k,st⟩) (fun cs=> .one ?_) (nf trivial (nh hk)) h1 rfl h2 h3 h4 rfl rfl
        simp only[dR,ng];exact stepR_cond hz
      · refine eG.quiet (c':=⟨f,.code (i+1+nodes y) z::eO (E.keep f (2*i)) k,st⟩) (fun cs=> .one ?_) (nf trivial (nh hk)) h1 rfl h2 h3 h4 rfl rfl
        simp only[dR,ng];exact stepR_cond hz
    · trivial
   |block id body=>exact eG.quiet (c':=⟨f,.code i body :: .inBlock id::k,st⟩) (fun cs=> .one stepR_block) (nf trivial (nf trivial hk)) h1 rfl h2 h3 h4 rfl rfl
   |loop body=>
    intro cs
    obtain⟨g',q1,q2,q3,q4,q5,q6⟩:=vB h4 (E.keep f (2*i))
    refine⟨g',b.atR a (dR (.code (i+1) body :: .inLoop i body::eO (E.keep f (2*i+1)) k)),w,.one ?_,dA.mk (c:=⟨f,.code (i+1) body :: .inLoop i body::eO (E.keep f (2*i+1)) k,iA (E.keep f (2*i)) st⟩) (nf trivial (nf trivial (nh hk))) h1 (q6 _ h2) (q5 _ h3) q1,q2,q3,rfl,q4,sO⟩
    simp only[dR,ng];exact stepR_loop
   |exit id=>
    simp only[Am.step]
    split
    · rename_i k' hk'
      exact eG.quiet (c':=⟨f,k',st⟩) (fun cs=> .one (stepR_exit (dK hk'))) (oU hk hk') h1 rfl h2 h3 h4 rfl rfl
    · rename_i hx
      split
      · rename_i j hr
        rw[hr] at h2
        obtain⟨hk,l,hl,hro⟩:=h2
        exact ni (c:=⟨f,.code i (.exit id)::k,st⟩) h4 hr hl h1 fun v w' hrun d cs=>stepR_round_exit hro hk (dc hx) hrun
      · trivial
   |scope bd=>exact eG.quiet (c':=⟨f,.code i bd :: .inScope bd::k,st⟩) (fun cs=> .one (step_lone_go (by simp[stepG,stepG.exec,yr,dR,er]))) (nf trivial (nf trivial hk)) h1 rfl h2 h3 h4 rfl rfl
   |label l=>exact eG.quiet (c':=⟨f,k,st⟩) (fun cs=> .one stepR_label) hk h1 rfl h2 h3 h4 rfl rfl
   |goto l=>
    simp only[Am.step]
    split
    · rename_i k' hk'
      exact eG.quiet (c':=⟨f,k',st⟩) (fun cs=> .one (stepR_goto (dL hk'))) (oS hk hk') h1 rfl h2 h3 h4 rfl rfl
    · trivial
   |rangeFunc x ps as bd=>
    simp only[Am.step]
    split
    · rename_i hr
      have h2':=h2
      rw[hr] at h2'
      unfold FV
      split
      · rename_i gf first captured hx
        dsimp only
        cases hlt:iJ (close (dM st f ps as bd) 0 (first++[.vy (st.mem.length+1)]++captured)) (dM st f ps as bd).length with
        |false=>trivial
        |true=>
         subst h1
         intro v m1 hd m2 pd hend cs
         obtain⟨g',a',w',s1,s2,s3,s4,s5,s6⟩:=KG (P:=P) (k:=dR k) h4 h2'.2 h3 hx hlt hd hend cs
         have e:(pd.map Item.code).toList++dR k=dR (behind ⟨b.fn,k,{st with mem:=dM st b.fn ps as bd,cJ:= .range st.mem.length::st.cJ}⟩ m2 pd).todo:=by
          cases pd<;>rfl
         rw[e] at s1
         refine⟨g',_,w',s1,dA.mk (a:=a') (c:=behind ⟨b.fn,k,{st with mem:=dM st b.fn ps as bd,cJ:= .range st.mem.length::st.cJ}⟩ m2 pd) ?_ rfl (h2.ext s6) s2 s3,s4,s5,rfl,rfl,rfl⟩
         cases pd with
         |none=>exact hk
         |some code=>exact nf trivial hk
      · trivial
    · trivial
   |ret=>
    simp only[Am.step]
    split
    · rename_i j hr
      rw[hr] at h2
      obtain⟨hk,l,hl,hro⟩:=h2
      exact ni (c:=⟨f,.code i .ret::k,st⟩) h4 hr hl h1 fun v w' hrun d cs=>stepR_round_ret hro hk hrun
    · rename_i vg
      have vg : ∀i,st.bZ ≠ .round i:=fun i e=>vg i e
      exact yY (c:=⟨f,.code i .ret::k,st⟩) (b:=b) (a:=a) (todo:= .code .ret::dR k) h4 h2 vg h1 h3 fun cs=> .one (stepR_ret (h2.AH vg))
   |_=>trivial
end
end Go.Am
end
section
namespace Go.Am
open Go.RowKit
def gj (P:Program):Prop:= ∀(f:FuncId) (fn:Func),P.funcs[f]? = some fn→(fn.name == "runtime.NumGoroutine")=false
def bD (P:Program) (E:Env) (c:cg) (o:Out):Prop:=
 ∀(g:Gh) (fr:Frame) (w:World) (cs:List Frame),dA P E g c fr w→match o with
  |.ret v m'=> ∃g' fr' w' cv w2,Steps P (lone fr cs w) (lone fr' cs w')∧Ks P c.st.bZ fr' w' cv w2∧fr'.fn=c.f∧VA g' w2 v cv∧Rel g' m' w2∧dm g c.st.mem w g' m' w2∧bO g g' c.st.fix∧c.st.fix≤m'.length
  |.xp v m'=> ∃g' fr' w' cv,Steps P (lone fr cs w) (lone fr' cs w')∧fr'.leaving P w' (.panicked [{v:=cv,recovered:=false}])∧fr'.fn=c.f∧VA g' w' v cv∧Rel g' m' w'∧dm g c.st.mem w g' m' w'∧bO g g' c.st.fix∧c.st.fix≤m'.length
section
variable {P:Program} {E:Env}
theorem bD.br {c c':cg} {o:Out} (hg : ∀g fr w,dA P E g c fr w→eG P E g c fr w c') (h:bD P E c' o):bD P E c o:=by
 intro g fr w cs hc
 obtain⟨g',fr',w',q1,q2,q3,q4,q5,q6,q7⟩:=hg g fr w hc cs
 cases o with
 |ret v m'=>
  obtain⟨g2,Oz,w2,cv,w3,r1,r2,r3,r4,r5,r6,r7,r8⟩:=h g' fr' w' cs q2
  refine⟨g2,Oz,w2,cv,w3,q1.trans r1,by rw[←q7];exact r2,r3.trans q5,r4,r5,q3.trans r6,q4.trans ?_,by rw[←q6];exact r8⟩
  rw[←q6];exact r7
 |xp v m'=>
  obtain⟨g2,Oz,w2,cv,r1,r2,r3,r4,r5,r6,r7,r8⟩:=h g' fr' w' cs q2
  refine⟨g2,Oz,w2,cv,q1.trans r1,r2,r3.trans q5,r4,r5,q3.trans r6,q4.trans ?_,by rw[←q6];exact r8⟩
  rw[←q6];exact r7
theorem oV : ∀n,upTo n=List.range n
 |0=>rfl
 |n+1=>by rw[upTo,oV n,List.range_succ]
theorem oW : ∀(l:List AV) (s k:Nat),look ((xb s l.length).zip l) k=if s≤k then l.getD (k-s) .aT else .aT
 |[],s,k=>by simp[look]
 |v::l,s,k=>by
  simp only[List.length_cons,List.range'_succ,aas,jt]
  by_cases e:s=k
  · subst e;simp
  · simp only[e,if_false]
    rw[oW l (s+1) k]
    by_cases h:s+1≤k
    · have h1:s≤k:=by omega
      have h2:k-s=(k-(s+1))+1:=by omega
      simp[h,h1,h2]
    · have h1 : ¬s≤k:=by omega
      simp[h,h1]
def EW:Bool→Rk
 |false=> .call
 |true=> .late
def kindOf:Bool→CallKind
 |false=> .normal
 |true=> .deferred
theorem dA.KH {g:Gh} {w:World} {f:FuncId} {args:List AV} {m:Mem} {c:cg} {cV:Array Value} (z:Bool) (hi:init P f args m=some c) (hr:Rel g m w) (ha:cY g w args cV.toList) (hg:fR E g w) :
  dA P E g {c with st:={c.st with bZ:=EW z}} (xn P f cV (kindOf z)) w:=by
 unfold init at hi
 split at hi
 · rename_i fn hf
   split at hi
   · rename_i body hb
     simp only[dq] at hi;subst hi
     have hlen:=ha.len
     simp only[ib] at hlen
     let b:Frame:={(default:Frame) with fn:=f,kind:=kindOf z,roundOf:=none}
     have Xa:xn P f cV (kindOf z)=b.atR {tmps:=cV++Array.replicate (fn.ntmps-cV.size) undef,defers:=[]} [.code body]:=by
      simp[xn,yr,hf,hb,b]
     rw[Xa]
     refine dA.mk (c:=⟨f,[.code 0 body],⟨(upTo args.length).zip args,max fn.ntmps args.length,m,m.length,[],EW z⟩⟩) (nf trivial (fun _ h=>by cases h)) rfl (by cases z<;>exact⟨rfl,rfl⟩) trivial ⟨?_,?_,hr,dd _,hg⟩
     · intro k
       rw[oV,aao,oW]
       simp only[aai,if_true,aaL]
       rcases gg k args.length with hk | hk
       · rw[di,de hk]
         have hk':k<cV.toList.length:=by simp;omega
         have hk2:k<cV.size:=by omega
         have:=ha.get k hk hk'
         simp only[jb,xi]
         rw[Array.getElem?_append_left hk2,hZ hk2]
         simpa using this
       · rw[di,ei hk]
         exact .aT _
     · simp;omega
   · cases hi
 · cases hi
theorem qk {f:FuncId} {args:List AV} {m:Mem} {c:cg} (hi:init P f args m=some c):c.st.mem=m∧c.st.fix=m.length∧c.f=f∧c.st.bZ = .call:=by
 unfold init at hi
 split at hi
 · split at hi
   · simp only[dq] at hi;subst hi;exact⟨rfl,rfl,rfl,rfl⟩
   · cases hi
 · cases hi
theorem dA.enter {g:Gh} {w:World} {f:FuncId} {args:List AV} {m:Mem} {c:cg} {cV:Array Value} (hi:init P f args m=some c) (hr:Rel g m w) (ha:cY g w args cV.toList) (hg:fR E g w) :
  dA P E g c (xn P f cV .normal) w:=by
 have h:=dA.KH (P:=P) false hi hr ha hg
 have e:({c with st:={c.st with bZ:=EW false}}:cg)=c:=by
  obtain⟨_,_,_,h4⟩:=qk hi
  obtain⟨f,t,tm,nt,mem,fix,cJ,bZ⟩:=c
  simp only at h4
  subst h4
  rfl
 rw[e] at h
 exact h
theorem rJ (hN:gj P) {f:FuncId} {args:List AV} {m:Mem} {c:cg} (hi:init P f args m=some c) : ∃fn,P.funcs[f]? = some fn∧fn.body.isSome=true∧(fn.name == "runtime.NumGoroutine")=false:=by
 unfold init at hi
 split at hi
 · rename_i fn hf
   split at hi
   · rename_i body hb
     exact⟨fn,hf,by simp[hb],hN f fn hf⟩
   · cases hi
 · cases hi
theorem ox (hN:gj P) {f:FuncId} {args:List AV} {m:Mem} {c:cg} {v:AV} {m':Mem} (hi:init P f args m=some c) (h:bD P E c (.xp v m')):Kt P E f args m v m':=by
 refine⟨rJ hN hi,fun g w cV cs hr ha hg=> ?_⟩
 obtain⟨g',fr',w',cv,q1,q2,q3,q4,q5,q6,q7,q8⟩:=h g _ w cs (dA.enter hi hr ha hg)
 obtain⟨e1,e2,e3,e4⟩:=qk hi
 rw[e1] at q6;rw[e2] at q7 q8;rw[e3] at q3
 exact⟨_,g',cv,fr',q1,q2,q3,q4,q5,q6,q7,q8⟩
theorem eS (hN:gj P) {f:FuncId} {args:List AV} {m:Mem} {c:cg} {v:AV} {m':Mem} (hi:init P f args m=some c) (h:bD P E c (.ret v m')):au P E f args m v m':=by
 refine⟨rJ hN hi,fun g w cV cs hr ha hg=> ?_⟩
 obtain⟨g',fr',w',cv,w2,q1,q2,q3,q4,q5,q6,q7,q8⟩:=h g _ w cs (dA.enter hi hr ha hg)
 obtain⟨e1,e2,e3,e4⟩:=qk hi
 rw[e1] at q6;rw[e2] at q7 q8;rw[e3] at q3;rw[e4] at q2
 obtain⟨q2,rfl⟩:=q2
 exact⟨_,g',cv,fr',q1,q2,q3,q4,q5,q6,q7,q8⟩
theorem ql {g:Gh} {w:World} : ∀(ds:List Nat) (vs:List AV) (qi:List Value) (tm:qK) (t:Array Value),cY g w vs qi→ds.length=vs.length→(∀d∈ds,d<t.size)→(∀k,VA g w (look tm k) (t.getD k undef)) →
  (∀k,VA g w (look (Ez tm ds vs) k) (((ds.zip qi).foldl (fun t (q:Nat×Value)=>t.setIfInBounds q.1 q.2) t).getD k undef))∧((ds.zip qi).foldl (fun t (q:Nat×Value)=>t.setIfInBounds q.1 q.2) t).size=t.size
 |[],[],[],tm,t,_,_,_,h=>⟨h,rfl⟩
 |d::ds,v::vs,cv::qi,tm,t,hv,hl,hd,h=>by
  have hdt:=hd d (.head _)
  obtain⟨q1,q2⟩:=ql ds vs qi ((d,v)::tm) (t.setIfInBounds d cv) hv.2 (by simpa using hl) (fun d' hd'=>by simpa using hd d' (.tail _ hd')) fun k=>by
   simp only[jt]
   by_cases hk:d=k
   · subst hk
     simp only[if_true,xi,Array.getElem?_setIfInBounds_self_of_lt hdt,jb]
     exact hv.1
   · simp only[hk,if_false,xi]
     rw[Array.getElem?_setIfInBounds_ne hk,←xi]
     exact h k
  exact⟨q1,q2.trans (by simp)⟩
 |[],_::_,_,_,_,_,hl,_,_=>by simp at hl
 |_::_,[],_,_,_,_,hl,_,_=>by simp at hl
 |[],[],_::_,_,_,h,_,_,_=>h.elim
 |_::_,_::_,[],_,_,h,_,_,_=>h.elim
theorem oy {args:List AV} {m:Mem} {c:cg} {v:AV} {m':Mem} (hi:B0 args m=some c) (h:bD P E c (.ret v m')):F8 P E args m v m':=by
 intro g w i l xs Og d cs hargs hr hl hx hg
 subst hargs
 unfold B0 at hi
 dsimp only at hi
 split at hi
 · rename_i f ps as bd s pd vals hb
   cases hc:(bj xs.length ps.toList.length&&iJ ps.toList vals.length) with
   |false=>rw[hc] at hi;cases hi
   |true=>
    rw[hc] at hi
    simp only[cond_true,dq] at hi
    simp only[dp] at hc
    have hlen:=bx hc.1
    have hlt:=fL hc.2
    have hib:=getD_some hb (by simp)
    obtain⟨c0,ob,vs,k1,k2,k3,k4,_⟩:=hr.obs i _ _ hib
    rw[hl] at k1;cases k1
    obtain⟨D,rfl⟩:=k4
    have hxl:=hx.len
    simp only[ib] at hxl
    have hvl:=k3.len
    have EX:=run_yield (P:=P) (args:=Og) k2 (by show Og.size=ps.size;simp at hlen;omega)
    dsimp only at EX
    have F1:(ps.zip Og).foldl (fun tmps (t,a)=>tmps.setIfInBounds t a) vs.toArray=(ps.toList.zip Og.toList).foldl (fun t (q:Nat×Value)=>t.setIfInBounds q.1 q.2) vs.toArray:=by
     rw[←Array.foldl_toList,Array.toList_zip]
    rw[F1] at EX
    obtain⟨t1,t2⟩:=ql ps.toList xs Og.toList ((upTo vals.length).zip vals) vs.toArray hx hlen.symm (fun d hd=>by have:=hlt d hd;simp;omega) fun k=>by
     rw[oV,aao,oW]
     simp only[aai,if_true,aaL]
     rcases gg k vals.length with hk | hk
     · rw[di,de hk]
       have hk':k<vs.length:=by omega
       have:=k3.get k hk hk'
       simp only[jb,xi]
       simpa[hk'] using this
     · rw[di,ei hk]
       exact .aT _
    generalize (ps.toList.zip Og.toList).foldl (fun t (q:Nat×Value)=>t.setIfInBounds q.1 q.2) vs.toArray=T at *
    let b:Frame:={(default:Frame) with fn:=f,kind:= .normal,roundOf:=some l}
    have Xa:aaT l f T as bd .normal=b.atR {tmps:=T,defers:=[]} (dR c.todo):=by
     rw[←hi]
     simp[aaT,yr,dR,er,b]
    have AP:dA P E g c (aaT l f T as bd .normal) w:=by
     rw[Xa]
     subst hi
     exact dA.mk (nf trivial (nf trivial (nf trivial fun _ h=>by cases h))) rfl ⟨rfl,l,hl,rfl⟩ trivial ⟨t1,by rw[t2];simp;omega,hr,dd _,hg⟩
    have hm:c.st.mem=m∧c.st.fix=m.length∧c.st.bZ = .round i:=by subst hi;exact⟨rfl,rfl,rfl⟩
    obtain⟨e1,e2,e3⟩:=hm
    obtain⟨g',fr',w',cv,w2,q1,q2,q3,q4,q5,q6,q7,q8⟩:=h g _ w (d::cs) AP
    rw[e1] at q6;rw[e2] at q7 q8;rw[e3] at q2
    exact⟨f,T,as,bd,w2,g',cv,EX,q1.trans (q2 d cs),q4,q5,q6,q7,q8⟩
 · cases hi
theorem zc {c:cg} {o:Out} (h:Am.step P E c = .done o):bD P E c o:=by
 intro g fr w cs hc
 have hs:=gP hc
 rw[h] at hs
 cases o with
 |ret v m'=>
  obtain⟨h1,rfl,cv,w2,h2,h3,h4,h6,h5⟩:=hs
  exact⟨g,fr,w,cv,w2,aan _ _,h2,h1,h3,h4,h6,bO.refl _ _,h5⟩
 |xp v m'=>
  obtain⟨h1,rfl,cv,h2,h3,h4,h5⟩:=hs
  exact⟨g,fr,w,cv,aan _ _,h2,h1,h3,h4,dm.refl _ _ _,bO.refl _ _,h5⟩
theorem rK {c c':cg} (h:Am.step P E c = .next c') : ∀g fr w,dA P E g c fr w→eG P E g c fr w c':=by
 intro g fr w hc
 have hs:=gP hc
 rw[h] at hs;exact hs
theorem ze {c c':cg} (h:Am.step P E c = .must true c') : ∀g fr w,dA P E g c fr w→eG P E g c fr w c':=by
 intro g fr w hc
 have hs:=gP hc
 rw[h] at hs;exact hs rfl
theorem zf {c y z:cg} {b:Bool} (h:Am.step P E c = .test b y z) : ∀g fr w,dA P E g c fr w→eG P E g c fr w (match b with | true=>y | false=>z):=by
 intro g fr w hc
 have hs:=gP hc
 rw[h] at hs
 cases b with
 |true=>exact hs.1 rfl
 |false=>exact hs.2 rfl
theorem kT {c c':cg} {f:FuncId} {args:List AV} {m:Mem} {ord:List Nat} {dst:Option Tmp} {v:AV} {m1:Mem} (h:Am.step P E c = .call f args m ord dst c') (hd:au P E f args m v m1) :
  ∀g fr w,dA P E g c fr w→eG P E g c fr w {c' with st:=back ord dst c'.st v m1}:=by
 intro g fr w hc
 have hs:=gP hc
 rw[h] at hs
 exact hs.1 v m1 hd
theorem sQ {c c':cg} {f:FuncId} {args:List AV} {m:Mem} {ord:List Nat} {dst:Option Tmp} {v:AV} {m1:Mem} (h:Am.step P E c = .call f args m ord dst c') (hd:Kt P E f args m v m1) :
  ∀g fr w,dA P E g c fr w→eG P E g c fr w (mK ord c' v m1):=by
 intro g fr w hc
 have hs:=gP hc
 rw[h] at hs
 exact hs.2 v m1 hd
theorem zg {c c':cg} {f:FuncId} {args:List AV} {m:Mem} {ord:List Nat} {pv:Option AV} {m1:Mem} (h:Am.step P E c = .late f args m ord pv c') (hd:Kv P E f args m pv m1) :
  ∀g fr w,dA P E g c fr w→eG P E g c fr w {c' with st:=back ord none c'.st (.aK []) m1}:=by
 intro g fr w hc
 have hs:=gP hc
 rw[h] at hs
 exact hs m1 hd
theorem jM {b:Frame} {a:Act} {cs:List Frame} {w:World} : ∀(n:Nat) (t t':List It),uC n t=some t'→(∀x∈t,It.pl x)→Steps P (lone (b.atR a (dR t)) cs w) (lone (b.atR a (dR t')) cs w) ∧ ∀x∈t',It.pl x
 |0,_,_,h,_=>by cases h
 |n+1,t,t',h,hp=>by
  unfold uC at h
  split at h
  · simp only[dq] at h;subst h
    exact⟨aan _ _,hp⟩
  · obtain⟨h1,h2⟩:=jM n _ t' h (nf trivial (nf trivial fun y hy=>hp y (.tail _ hy)))
    exact⟨.head stepR_seq h1,h2⟩
  · rename_i id ops k
    obtain⟨h1,h2⟩:=jM n _ t' h (nf trivial fun y hy=>hp y (.tail _ hy))
    refine⟨.head ?_ h1,h2⟩
    have:=stepR_region (P:=P) (b:=b) (a:=a) (k:=dR k) (cs:=cs) (w:=w) (ops:=ops) (id:=id)
    simpa[dR,er,aao] using this
  · obtain⟨h1,h2⟩:=jM n _ t' h (nf trivial (nf trivial fun y hy=>hp y (.tail _ hy)))
    exact⟨.head (step_lone_go (by simp[stepG,stepG.exec,yr,dR,er])) h1,h2⟩
  · obtain⟨h1,h2⟩:=jM n _ t' h (nf trivial (nf trivial fun y hy=>hp y (.tail _ hy)))
    exact⟨.head stepR_block h1,h2⟩
  · cases h
theorem AQ {b:Frame} {a:Act} {k:List Item} {c0:Frame} {cs:List Frame} {w:World} {ops:Array Oper} {i:Nat} {rest:List Nat} {o:Oper} {qb:Option Value} (hk:b.kind = .deferred) (hb:b.roundOf=none) (ho:ops[i]? = some o) (hr:isRec o=true)
  (h0:c0.mode=cU qb false) :
  _root_.Go.step P (lone (b.atR a (.inRegion ops (i::rest)::k)) (c0::cs) w) = .next (lone (b.atR (a.put o.dst (qb.getD .nilIface)) (.inRegion ops rest::k)) ({c0 with mode:=cU qb true}::cs) w):=by
 unfold isRec at hr
 split at hr
 · rename_i c hop hgd
   split at hr
   · rename_i xT aaG
     have jR:c.args = #[]:=by have:=congrArg List.toArray aaG;simpa using this
     have hw:Region.wanted o (yielded ops a.tmps)=true:=by unfold Region.wanted;rw[hgd]
     have hg:=stepGR_op (P:=P) (b:=b) (k:=k) (cs:=c0::cs) (w:=w) (rest:=rest) ho hw
     have hrun:(o.semAt b.roundOf a.eval).run P w = .ok .recover w:=by
      rw[hb]
      simp only[Oper.semAt,execOp,hop,resolve,xT,jR,kh,kl,km,invoke,builtin]
     have m4 : ∀v,(b.atR a (.inRegion ops (i::rest)::k)).finish v=b.atR (a.put o.dst v) (.inRegion ops rest::k):=fun v=>by rw[Frame.finish_atR,ho];rfl
     have hkk:(b.atR a (.inRegion ops (i::rest)::k)).kind = .deferred:=hk
     have Rs:=tryRecover_deferred hkk (c0::cs)
     have hro:(b.atR a (.inRegion ops (i::rest)::k)).roundOf=none:=hb
     refine step_lone_go ?_
     rw[hg]
     cases qb with
     |none=>
      have e:recoverD (c0::cs)=none:=by unfold recoverD;simp only[h0,cU]
      rw[e] at Rs
      have h00:({c0 with mode:=cU none true}:Frame)=c0:=by rw[show cU none true=c0.mode from h0.symm]
      rw[h00]
      simp only[stepG.apply,aaC,hrun,hro,Rs,GStep.bare_after,GStep.bare_go,m4,Option.getD_none,if_true]
     |some v=>
      have e:recoverD (c0::cs)=some (v,{c0 with mode:=cU (some v) true}::cs):=by unfold recoverD;simp only[h0,cU]
      rw[e] at Rs
      simp only[stepG.apply,aaC,hrun,hro,Rs,GStep.bare_after,GStep.bare_go,m4,jb,if_true]
   · cases hr
 · cases hr
theorem oz (hN:gj P) {f:FuncId} {args:List AV} {m:Mem} {pv:Option AV} {c:cg} {v:AV} {m':Mem} (hi:B3 P f args m pv=some c) (h:bD P E c (.ret v m')):Kv P E f args m pv m':=by
 unfold B3 at hi
 split at hi
 · rename_i c0 eT
   split at hi
   · rename_i t1 hi1
     refine⟨rJ hN eT,fun g w cV qb fr0 cs h0 ED hr ha hg=> ?_⟩
     obtain⟨e1,e2,e3,_⟩:=qk eT
     have Xa:=dA.KH (P:=P) true eT hr ha hg
     have Xb : ∃body,c0.todo=[.code 0 body]:=by
      unfold init at eT
      split at eT
      · split at eT
        · simp only[dq] at eT;subst eT;exact⟨_,rfl⟩
        · cases eT
      · cases eT
     obtain⟨body,hbody⟩:=Xb
     obtain⟨f0,t0,gi⟩:=c0
     simp only at hbody e1 e2 e3 hi1 hi
     subst hbody
     obtain⟨b,a,hfr,h1,h2,h3,h4,hk⟩:=Xa
     simp only at h1 h2 h3 h4 hk
     obtain⟨Sq,JC⟩:=jM (P:=P) (b:=b) (a:=a) (cs:=fr0::cs) (w:=w) 20 _ _ hi1 hk
     have aaH:xn P f cV .deferred=b.atR a (dR [It.code 0 body]):=hfr
     rw[aaH]
     unfold Rl at hi
     simp only at hi
     split at hi
     · rename_i bY ops i sure k
       split at hi
       · rename_i o ho
         have hlt:i<ops.size:=by
          rcases gg i ops.size with q | q
          · exact q
          · rw[zr q] at ho;cases ho
         have hk' : ∀y∈k,It.pl y:=fun y hy=>JC y (.tail _ hy)
         cases hb:(isRec o&&fits {gi with bZ:= .late} o.dst) with
         |false=>rw[hb] at hi;cases hi
         |true=>
          rw[hb] at hi
          simp only[cond_true,dq] at hi
          simp only[dp] at hb
          have hstep:=AQ (P:=P) (a:=a) (k:=dR k) (cs:=cs) (w:=w) (rest:=xb (i+1) (ops.size-(i+1))) (qb:=qb) h2.1 h2.2 ho hb.1 h0
          have xL:VA g w (pv.getD (.p (.sc .nilIface))) (qb.getD .nilIface):=by
           cases pv with
           |none=>cases qb with
            |none=>exact .p _ _ (.sc _)
            |some _=>exact ED.elim
           |some u=>cases qb with
            |none=>exact ED.elim
            |some cv=>exact ED
          have hput:=h4.put (m':=gi.mem) hb.2 xL (Ext.refl g w) h4.rel h4.fix
          have hcr:dA P E g c (b.atR (a.put o.dst (qb.getD .nilIface)) (.inRegion ops (xb (i+1) (ops.size-(i+1)))::dR k)) w:=by
           subst hi
           exact dA.mk (c:=⟨f0,.ops bY ops (i+1) false::k,put {gi with bZ:= .late} o.dst (pv.getD (.p (.sc .nilIface)))⟩) (nf trivial hk') h1 (by rw[jj];exact h2) (h3.put (st:={gi with bZ:= .late}) (st':={gi with bZ:= .late}) (Ext.refl g w) rfl) hput
          obtain⟨g2,Oz,w2,cv,w3,r1,r2,r3,r4,r5,r6,r7,r8⟩:=h g _ w ({fr0 with mode:=cU qb true}::cs) hcr
          have hc:c.st.mem=m∧c.st.fix=m.length∧c.st.bZ = .late:=by
           subst hi
           refine⟨?_,?_,?_⟩
           · rw[←e1]
             show(put {gi with bZ:= .late} o.dst _).mem=gi.mem
             unfold Am.put;cases o.dst<;>rfl
           · rw[←e2]
             show(put {gi with bZ:= .late} o.dst _).fix=gi.fix
             unfold Am.put;cases o.dst<;>rfl
           · show(put {gi with bZ:= .late} o.dst _).bZ = .late
             rw[jj]
          obtain⟨c1,c2,c3⟩:=hc
          rw[c3] at r2
          obtain⟨⟨r2,r2'⟩,rfl⟩:=r2
          rw[c1] at r6
          rw[c2] at r7 r8
          refine⟨_,g2,cv,Oz,Sq.trans (.head ?_ r1),r2,r2',r5,r6,r7,r8⟩
          have he:dR (.ops bY ops i sure::k) = .inRegion ops (i::xb (i+1) (ops.size-(i+1)))::dR k:=by
           simp only[dR,er,m0 hlt,aaq,Ps]
          rw[he]
          exact hstep
       · cases hi
     · cases hi
   · cases hi
 · cases hi
theorem vD {c c':cg} {args:List AV} {m:Mem} {ord:List Nat} {dst:Option Tmp} {v:AV} {m1:Mem} (h:Am.step P E c = .round args m ord dst c') (hd:F8 P E args m v m1) :
  ∀g fr w,dA P E g c fr w→eG P E g c fr w {c' with st:=back ord dst c'.st v m1}:=by
 intro g fr w hc
 have hs:=gP hc
 rw[h] at hs
 exact hs v m1 hd
theorem oX {c c':cg} {f:FuncId} {args:List AV} {m:Mem} {ord:List Nat} {L:Nat} {v:AV} {m1 m2:Mem} {pd:Option Code} (h:Am.step P E c = .range f args m ord L c') (hd:au P E f args m v m1)
  (he:fS (back ord none c'.st v m1).mem L=some (m2,pd)) : ∀g fr w,dA P E g c fr w→eG P E g c fr w (behind c' m2 pd):=by
 intro g fr w hc
 have hs:=gP hc
 rw[h] at hs
 exact hs v m1 hd m2 pd he
theorem bD.Sr {c:cg} {l:List cg} {o:Out} (hg : ∀g fr w,dA P E g c fr w→AI P E g c fr w l) (h : ∀c'∈l,bD P E c' o):bD P E c o:=by
 intro g fr w cs hc
 obtain⟨c',hm,g',fr',w',q1,q2,q3,q4,q5,q6,q7⟩:=hg g fr w hc cs
 cases o with
 |ret v m'=>
  obtain⟨g2,Oz,w2,cv,w3,r1,r2,r3,r4,r5,r6,r7,r8⟩:=h c' hm g' fr' w' cs q2
  refine⟨g2,Oz,w2,cv,w3,q1.trans r1,by rw[←q7];exact r2,r3.trans q5,r4,r5,q3.trans r6,q4.trans ?_,by rw[←q6];exact r8⟩
  rw[←q6];exact r7
 |xp v m'=>
  obtain⟨g2,Oz,w2,cv,r1,r2,r3,r4,r5,r6,r7,r8⟩:=h c' hm g' fr' w' cs q2
  refine⟨g2,Oz,w2,cv,q1.trans r1,r2,r3.trans q5,r4,r5,q3.trans r6,q4.trans ?_,by rw[←q6];exact r8⟩
  rw[←q6];exact r7
theorem HQ {c:cg} {l:List cg} (h:Am.step P E c = .fork l) : ∀g fr w,dA P E g c fr w→AI P E g c fr w l:=by
 intro g fr w hc
 have hs:=gP hc
 rw[h] at hs;exact hs
theorem rL {c c':cg} {bY:Nat} {ops:Array Oper} {O:FuncId→List AV→Mem→Option (AV×Mem)} {st':St} (h:Am.step P E c = .draw bY ops c') (hO : ∀g args m v m1,O g args m=some (v,m1)→au P E g args m v m1)
  (hq:jC P E c'.f bY O ops c'.st=some (st',true)) : ∀g fr w,dA P E g c fr w→eG P E g c fr w {c' with st:={st' with cJ:=c'.st.cJ,bZ:=c'.st.bZ}}:=by
 intro g fr w hc
 have hs:=gP hc
 rw[h] at hs
 exact hs O st' hO hq
def gu (P:Program) (E:Env) (l:List dx):Prop:= ∀q∈l,au P E q.g q.args q.m q.v q.m'
theorem qm {K:List dx} (hK:gu P E K) {g:FuncId} {args:List AV} {m:Mem} {r:AV×Mem} (h:lG K g args m=some r):au P E g args m r.1 r.2:=by
 induction K with
 |nil=>cases h
 |cons q K ih=>
  simp only[lG] at h
  cases hb:(bj q.g g&&(j5 args q.args&&su m q.m)) with
  |true=>
   rw[hb] at h
   simp only[cond_true,dq] at h
   subst h
   simp only[dp] at hb
   obtain⟨h1,h2,h3⟩:=hb
   have h1:=bx h1
   have h2:=fA h2
   have h3:=mM h3
   subst h1;subst h2;subst h3
   exact hK q (.head _)
  |false=>
   rw[hb] at h
   exact ih (fun x hx=>hK x (.tail _ hx)) h
theorem KI {o p:Out} (h:B2 o p=true):o=p:=by
 cases o with
 |ret v m=>cases p with
  |ret u n=>
   simp only[B2,dp] at h
   rw[lI h.1,mM h.2]
  |xp u n=>cases h
 |xp v m=>cases p with
  |ret u n=>cases h
  |xp u n=>
   simp only[B2,dp] at h
   rw[lI h.1,mM h.2]
theorem zh : ∀{l:List (Option Out)} {o:Out},agree l=some o → ∀x∈l,x=some o
 |[],_,h,_,_=>by cases h
 |[x],o,h,y,hy=>by
  cases hy with
  |head=>exact h
  |tail _ hy=>cases hy
 |x::y::r,o,h,z,hz=>by
  simp only[agree] at h
  split at h
  · rename_i o1 p1 h1
    cases hb:B2 o1 p1 with
    |false=>rw[hb] at h;cases h
    |true=>
     rw[hb] at h
     simp only[cond_true,dq] at h
     subst h
     cases hz with
     |head=>rw[KI hb]
     |tail _ hz=>exact zh h1 z hz
  · cases h
theorem bW (hN:gj P) {K:List dx} (hK:gu P E K) : ∀(n:Nat) (c:cg) (o:Out),exec P E K n c=some o→bD P E c o
 |0,_,_,h=>by cases h
 |n+1,c,o,h=>by
  unfold exec at h
  split at h
  · rename_i c' hs;exact bD.br (rK hs) (bW hN hK n c' o h)
  · rename_i b c' hs
    cases b with
    |false=>cases h
    |true=>exact bD.br (ze hs) (bW hN hK n c' o h)
  · rename_i b y z hs
    have:=zf hs
    cases b with
    |true=>exact bD.br this (bW hN hK n y o h)
    |false=>exact bD.br this (bW hN hK n z o h)
  · rename_i g args m ord dst c' hs
    split at h
    · rename_i v m1 hk
      exact bD.br (kT hs (qm hK hk)) (bW hN hK n _ o h)
    · split at h
      · rename_i ci hi
        split at h
        · rename_i v m1 he
          have hd:=eS hN hi (bW hN hK n ci _ he)
          exact bD.br (kT hs hd) (bW hN hK n _ o h)
        · rename_i u m1 he
          have hd:=ox hN hi (bW hN hK n ci _ he)
          exact bD.br (sQ hs hd) (bW hN hK n _ o h)
        · cases h
      · cases h
  · rename_i g args m ord pv c' hs
    split at h
    · rename_i ci hi
      split at h
      · rename_i v m1 he
        have hd:=oz hN hi (bW hN hK n ci _ he)
        exact bD.br (zg hs hd) (bW hN hK n _ o h)
      · cases h
    · cases h
  · rename_i args m ord dst c' hs
    split at h
    · rename_i ci hi
      split at h
      · rename_i v m1 he
        have hd:=oy hi (bW hN hK n ci _ he)
        exact bD.br (vD hs hd) (bW hN hK n _ o h)
      · cases h
    · cases h
  · rename_i g args m ord L c' hs
    split at h
    · rename_i ci hi
      split at h
      · rename_i v m1 he
        split at h
        · rename_i m2 pd hend
          have hd:=eS hN hi (bW hN hK n ci _ he)
          exact bD.br (oX hs hd hend) (bW hN hK n _ o h)
        · cases h
      · cases h
    · cases h
  · rename_i bY ops c' hs
    split at h
    · rename_i st' ok hq
      cases ok with
      |false=>cases h
      |true=>
       refine bD.br (rL hs (fun g args m v m1 hO=> ?_) hq) (bW hN hK n _ o h)
       split at hO
       · rename_i r hk
         simp only[dq] at hO
         subst hO
         exact qm hK hk
       · split at hO
         · rename_i ci hi
           split at hO
           · rename_i v' HH he
             simp only[dq,kc] at hO
             obtain⟨rfl,rfl⟩:=hO
             exact eS hN hi (bW hN hK n ci _ he)
           · cases hO
         · cases hO
    · cases h
  · rename_i l hs
    exact bD.Sr (HQ hs) fun c' eB=>bW hN hK n c' o (zh h _ (fi.2 ⟨c',eB,rfl⟩))
  · rename_i o' hs
    simp only[dq] at h;subst h
    exact zc hs
  · cases h
theorem xX (hN:gj P) {K:List dx} (hK:gu P E K) {n:Nat} {f:FuncId} {args:List AV} {m m':Mem} {v:AV} (h:FY P E K n f args m=some (.ret v m')):au P E f args m v m':=by
 unfold FY at h
 split at h
 · rename_i c hi;exact eS hN hi (bW hN hK n c _ h)
 · cases h
theorem nR:gu P E []:=fun _ hq=>by cases hq
theorem iq {q:dx} {K:List dx} (h:au P E q.g q.args q.m q.v q.m') (hK:gu P E K):gu P E (q::K):=by
 intro x hx
 cases hx with
 |head=>exact h
 |tail _ hx=>exact hK x hx
def KJ (P:Program) (E:Env) (c:cg):Fin→Prop
 |.out o=>bD P E c o
 |.at c'=> ∀o,bD P E c' o→bD P E c o
theorem KJ.br {c c':cg} {r:Fin} (hg : ∀g fr w,dA P E g c fr w→eG P E g c fr w c') (h:KJ P E c' r):KJ P E c r:=by
 cases r with
 |out o=>exact bD.br hg h
 | «at» c2=>exact fun o ho=>bD.br hg (h o ho)
end
end Go.Am
end
section
namespace Go.Am
noncomputable section
abbrev OpT:=Program→(Nat→aN)→Bool→Nat→(Operand→AV)→Oper→kH
def Xc (P:Program) (rd:Nat→aN) (wr:Bool) (aV:Nat) (ρ:Operand→AV) (o:Oper):kH:=sv P rd wr aV ρ o
def Rt (x:Operand) (_:Program) (_:Nat→aN) (_:Bool) (_:Nat) (ρ:Operand→AV) (_:Oper):kH:=some (ρ x,[],true)
def Xd (t:TypeId) (a:Operand) (P:Program) (rd:Nat→aN) (_:Bool) (_:Nat) (ρ:Operand→AV) (_:Oper):kH:=gL (kq P rd t (ρ a))
def Ss (t:TypeId) (a v:Operand) (P:Program) (rd:Nat→aN) (_:Bool) (_:Nat) (ρ:Operand→AV) (_:Oper):kH:=pH P rd t (ρ a) (ρ v)
def aaI (x:Operand) (P:Program) (_:Nat→aN) (_:Bool) (_:Nat) (ρ:Operand→AV) (o:Oper):kH:=jy (jx P ρ o (ρ x))
def EY (t:TypeId) (x:Operand) (f:Nat) (P:Program) (_:Nat→aN) (_:Bool) (_:Nat) (ρ:Operand→AV) (_:Oper):kH:=jy (jY P t (ρ x) f)
def Su (t:TypeId) (x:Operand) (f:Nat) (P:Program) (_:Nat→aN) (_:Bool) (_:Nat) (ρ:Operand→AV) (_:Oper):kH:=gL (tQ P t (ρ x) f)
def EZ (t:TypeId) (x i:Operand) (P:Program) (_:Nat→aN) (_:Bool) (_:Nat) (ρ:Operand→AV) (_:Oper):kH:=gL (jZ P t (ρ x) (ρ i))
def Sv (t:TypeId) (x i:Operand) (P:Program) (_:Nat→aN) (_:Bool) (_:Nat) (ρ:Operand→AV) (_:Oper):kH:=gL (tR P t (ρ x) (ρ i))
def KK (s d:TypeId) (x:Operand) (P:Program) (rd:Nat→aN) (_:Bool) (aV:Nat) (ρ:Operand→AV) (o:Oper):kH:=convertOp P rd aV ρ o s d (ρ x)
def aaJ (op:BinOp) (t:TypeId) (x y:Operand) (P:Program) (_:Nat→aN) (_:Bool) (_:Nat) (ρ:Operand→AV) (o:Oper):kH:=match Ai y with
    |true=>tT P op t (ρ x)
    |false=>match FQ (ρ x) (ρ y) with
     |true=>FR P op t (ρ x) (ρ y)
     |false=>match Ah (ρ x) (ρ y) with
      |true=>nJ P op t
      |false=>gL (pI P ρ o op (ρ x) (ρ y))
def oUn (op:UnOp) (x:Operand) (P:Program) (_:Nat→aN) (_:Bool) (_:Nat) (ρ:Operand→AV) (o:Oper):kH:=gL (uq P ρ o op (ρ x))
def Sw (t:TypeId) (x:Operand) (lo hi mx:Option Operand) (P:Program) (_:Nat→aN) (_:Bool) (_:Nat) (ρ:Operand→AV) (_:Oper):kH:=gL (nG P ρ t (ρ x) lo hi mx)
def KL (x:Operand) (i:Nat) (_:Program) (_:Nat→aN) (_:Bool) (_:Nat) (ρ:Operand→AV) (_:Oper):kH:=match ρ x with
    |.aK vs=>jy vs[i]?
    |_=>none
def Sx (t:TypeId) (parts:Array (Nat×Operand)) (P:Program) (_:Nat→aN) (_:Bool) (_:Nat) (ρ:Operand→AV) (_:Oper):kH:=gL (tP P t (parts.toList.map fun q=>(q.1,ρ q.2)))
def Xe (c a b:Operand) (_:Program) (_:Nat→aN) (_:Bool) (_:Nat) (ρ:Operand→AV) (_:Oper):kH:=match ρ c with
    |.p (.sc (.bool t))=>some (cond t (ρ a) (ρ b),[],true)
    |_=>none
def aaK:Op→OpT
 |.binOp op t x y _=>aaJ op t x y
 |.unOp op _ x=>oUn op x
 |.slice t x lo hi mx=>Sw t x lo hi mx
 |.extract x i=>KL x i
 |.build t parts=>Sx t parts
 |.pick c a b=>Xe c a b
 |.move x=>Rt x
 |.assign x=>Rt x
 |.load t a=>Xd t a
 |.store t a v=>Ss t a v
 |.nilCheck x=>aaI x
 |.fieldAddr t x f=>EY t x f
 |.field t x f=>Su t x f
 |.indexAddr t x i=>EZ t x i
 |.index t x i=>Sv t x i
 |.convert s d x=>KK s d x
 |_=>Xc
def opF (P:Program) (rd:Nat→aN) (wr:Bool) (aV:Nat) (ρ:Operand→AV) (o:Oper):kH:=aaK o.op P rd wr aV ρ o
theorem Sy (P:Program) (rd:Nat→aN) (wr:Bool) (aV:Nat) (ρ:Operand→AV) (o:Oper):opF P rd wr aV ρ o=sv P rd wr aV ρ o:=by
 obtain⟨dst,op,type,pos,after,guard⟩:=o
 cases op<;>rfl
def KM (tm:qK) (i:Nat):AV:=aaz (motive:=fun _=>AV) .aT (fun p _ ih=>aaF (motive:=fun _=>AV) ih p.2 (bj p.1 i)) tm
theorem CE : ∀(tm:qK) (i:Nat),KM tm i=look tm i
 |[],_=>rfl
 |(k,v)::r,i=>by
  show aaF (motive:=fun _=>AV) (KM r i) v (bj k i)=cond (bj k i) v (look r i)
  rw[CE r i]
  cases bj k i<;>rfl
def Xf (t:Nat) (_:Env) (tm:qK):AV:=KM tm t
def Sz (x:Operand) (E:Env) (tm:qK):AV:=ev E tm x
def aaM:Operand→Env→qK→AV
 |.tmp t=>Xf t
 |.const v=>fun _ _=>Rh v
 |x=>Sz x
def Xg (E:Env) (tm:qK) (x:Operand):AV:=aaM x E tm
theorem KN (E:Env) (tm:qK):Xg E tm=ev E tm:=by
 funext x
 cases x with
 |tmp t=>exact CE tm t
 |const v=>rfl
 |global g=>rfl
 |func f=>rfl
def E0:Op→Bool
 |.call _ | .defer _ | .panic _=>true
 |_=>false
def AR:Op→Bool
 |.alloc _ | .box .. | .buildSlice .. | .makeSlice .. | .convert .. | .makeMap .. | .range .. =>true
 |.call c=>makes ⟨none,.call c,0,"",#[],none⟩
 |_=>false
def OA (ops:Array Oper) (i:Nat):Option Oper:=aaz (motive:=fun _=>Nat→Option Oper) (fun _=>none) (fun a _ ih i=>aaR (motive:=fun _=>Option Oper) (some a) (fun j _=>ih j) i) ops.toList i
theorem OB (ops:Array Oper) (i:Nat):OA ops i=ops[i]? :=by
 have : ∀(l:List Oper) (i:Nat),aaz (motive:=fun _=>Nat→Option Oper) (fun _=>none) (fun a _ ih i=>aaR (motive:=fun _=>Option Oper) (some a) (fun j _=>ih j) i) l i=l[i]? :=by
  intro l
  induction l with
  |nil=>intro i;rfl
  |cons a l ih=>
   intro i
   cases i with
   |zero=>rfl
   |succ i=>exact(ih i).trans (by simp)
 rw[OA,this]
 simp
def Gf:kH→Option Tmp→FuncId→List It→qK→Nat→Mem→Nat→List Mark→Rk→Ev
 |none=>fun _ _ _ _ _ _ _ _ _=> .fail
 |some (v,[],ok)=>fun dst f k tm nt mem fix cJ bZ=>aaY (motive:=fun _=>Ev) (.must (ok&&true) ⟨f,k,⟨tm,nt,mem,fix,cJ,bZ⟩⟩) (fun d=> .must (ok&&cf d nt) ⟨f,k,⟨(d,v)::tm,nt,mem,fix,cJ,bZ⟩⟩) dst
 |some (v,us,ok)=>fun dst f k tm nt mem fix cJ bZ=>aaY (motive:=fun _=>Ev) (.must (ok&&true) ⟨f,k,⟨tm,nt,apply mem us,fix,cJ,bZ⟩⟩) (fun d=> .must (ok&&cf d nt) ⟨f,k,⟨(d,v)::tm,nt,apply mem us,fix,cJ,bZ⟩⟩) dst
abbrev En (α:Type):=Program→Env→FuncId→qK→Nat→Mem→Nat→List Mark→Rk→α
def vE (todo:List It):En Ev:=fun P E f tm nt mem fix cJ bZ=>step P E ⟨f,todo,⟨tm,nt,mem,fix,cJ,bZ⟩⟩
def OC (o:Oper) (bY:Nat) (ops:Array Oper) (i:Nat) (_:Bool) (k:List It):En Ev:=fun P E f tm nt mem fix cJ bZ=>
 Gf (opF P (fun i=>mem.getD i .dead) (E.wr f (o.dst.getD 0)) mem.length (Xg E tm) o) o.dst f (.ops bY ops (i+1) false::k) tm nt mem fix cJ bZ
def SA (_:Oper) (bY:Nat) (ops:Array Oper) (i:Nat) (sure:Bool) (k:List It):En Ev:=vE (.ops bY ops i sure::k)
abbrev DoT:=Oper→Nat→Array Oper→Nat→Bool→List It→En Ev
def Ru:Bool→Bool→Option (Nat×Bool)→DoT
 |false,false,none=>OC
 |_,_,_=>SA
def KO:Option Oper→Nat→Array Oper→Nat→Bool→List It→En Ev
 |none=>fun _ _ _ _ k _ _ f tm nt mem fix cJ bZ=> .next ⟨f,k,⟨tm,nt,mem,fix,cJ,bZ⟩⟩
 |some o=>Ru (E0 o.op) (AR o.op) o.guard o
def SB (i:Nat) (c:Code) (k:List It):En Ev:=vE (.code i c::k)
def SC (_:Nat) (k:List It):En Ev:=fun _ _ f tm nt mem fix cJ bZ=> .next ⟨f,k,⟨tm,nt,mem,fix,cJ,bZ⟩⟩
def Xh (id:Nat) (ops:Array Oper) (_:Nat) (k:List It):En Ev:=fun _ _ f tm nt mem fix cJ bZ=> .next ⟨f,.ops id ops 0 false::k,⟨tm,nt,mem,fix,cJ,bZ⟩⟩
def Xi (a b:Code) (i:Nat) (k:List It):En Ev:=fun _ _ f tm nt mem fix cJ bZ=> .next ⟨f,.code i a :: .code (i+nodes a) b::k,⟨tm,nt,mem,fix,cJ,bZ⟩⟩
def OD (id:Nat) (b:Code) (i:Nat) (k:List It):En Ev:=fun _ _ f tm nt mem fix cJ bZ=> .next ⟨f,.code i b :: .inBlock id::k,⟨tm,nt,mem,fix,cJ,bZ⟩⟩
def KP:AV→cg→cg→Ev
 |.p (.sc (.bool t))=>fun y z=> .test t y z
 |_=>fun _ _=> .fail
def SD (x:Operand) (a b:Code) (i:Nat) (k:List It):En Ev:=fun _ E f tm nt mem fix cJ bZ=>
 KP (Xg E tm x) ⟨f,.code (i+1) a::eO (E.keep f (2*i)) k,⟨tm,nt,mem,fix,cJ,bZ⟩⟩ ⟨f,.code (i+1+nodes a) b::eO (E.keep f (2*i)) k,⟨tm,nt,mem,fix,cJ,bZ⟩⟩
def SE (id:Nat) (i:Nat) (k:List It):En Ev:=fun P E f tm nt mem fix cJ bZ=>aaY (motive:=fun _=>Ev) (vE (.code i (.exit id)::k) P E f tm nt mem fix cJ bZ) (fun k'=> .next ⟨f,k',⟨tm,nt,mem,fix,cJ,bZ⟩⟩) (cm id k)
def SF:Code→Nat→List It→En Ev
 |.block id b=>OD id b
 |.cond x a b=>SD x a b
 |.exit id=>SE id
 |.skip=>SC
 |.seq a b=>Xi a b
 |.region id ops false=>Xh id ops
 |c=>fun i k=>SB i c k
def KQ (k:List It):En Ev:=fun _ _ f tm nt mem fix cJ bZ=> .next ⟨f,k,⟨tm,nt,mem,fix,cJ,bZ⟩⟩
def aaN:It→List It→En Ev
 |.inBlock _=>KQ
 |.inScope _=>KQ
 |.ops bY ops i sure=>fun k=>KO (OA ops i) bY ops i sure k
 |.code i c=>fun k=>SF c i k
 |x=>fun k=>vE (x::k)
def SG:List It→En Ev
 |[]=>vE []
 |x::k=>aaN x k
def KR (P:Program) (E:Env) (c:cg):Ev:=cg.rec (motive:=fun _=>Ev) (fun f todo st=>St.rec (motive:=fun _=>Ev) (fun tm nt mem fix cJ bZ=>SG todo P E f tm nt mem fix cJ bZ) st) c
theorem HR (o:Oper):AR o.op=makes o:=by
 obtain⟨dst,op,type,pos,after,guard⟩:=o
 cases op<;>rfl
theorem KS (P:Program) (E:Env) (c:cg):KR P E c=step P E c:=by
 obtain⟨f,todo,tm,nt,mem,fix,cJ,bZ⟩:=c
 cases todo with
 |nil=>rfl
 |cons x k=>
  cases x with
  |code i c=>
   cases c with
   |region id ops b=>cases b<;>rfl
   |cond x a b=>
    show KP (Xg E tm x) _ _=_
    rw[KN]
    simp only[step]
    split
    · rename_i t ht;rw[ht];rfl
    · rename_i hne
      generalize ev E tm x=v at hne
      cases v with
      |p v=>cases v with
       |sc v=>cases v with
        |bool t=>exact absurd rfl (hne t)
        |_=>rfl
       |_=>rfl
      |_=>rfl
   |exit id=>
    show aaY (motive:=fun _=>Ev) _ _ (cm id k)=_
    cases he:cm id k with
    |none=>rfl
    |some k'=>simp only[step,he]
   |_=>rfl
  |ops bY ops i sure=>
   show KO (OA ops i) bY ops i sure k P E f tm nt mem fix cJ bZ=_
   rw[OB]
   cases ho:ops[i]? with
   |none=>simp only[KO,step,ho]
   |some o=>
    show Ru (E0 o.op) (AR o.op) o.guard o bY ops i sure k P E f tm nt mem fix cJ bZ=_
    cases h1:E0 o.op with
    |true=>rfl
    |false=>
     cases h2:AR o.op with
     |true=>rfl
     |false=>
      cases h3:o.guard with
      |some q=>rfl
      |none=>
       rw[HR] at h2
       have ht:target (ev E tm) o=none:=by
        obtain⟨dst,op,type,pos,after,guard⟩:=o
        cases op<;>first | rfl | cases h1
       have hy:tU (ev E tm) o=none:=by
        obtain⟨dst,op,type,pos,after,guard⟩:=o
        cases op<;>first | rfl | cases h1
       show Gf (opF P (fun i=>mem.getD i .dead) (E.wr f (o.dst.getD 0)) mem.length (Xg E tm) o) o.dst f (.ops bY ops (i+1) false::k) tm nt mem fix cJ bZ=_
       rw[Sy,KN]
       have hr:reserve o mem=mem:=by simp[reserve,h2]
       simp only[step,ho,ec,h3,J4,ht,hy,hr]
       cases hop:sv P (fun i=>mem.getD i .dead) (E.wr f (o.dst.getD 0)) mem.length (ev E tm) o with
       |none=>
        clear hop hr hy ht h3 h2 ho
        obtain⟨dst,op,type,pos,after,guard⟩:=o
        cases op<;>first | rfl | cases h1
       |some r=>
        obtain⟨v,us,ok⟩:=r
        cases us with
        |nil=>cases hd:o.dst<;>simp[Gf,fits,put,apply]
        |cons u us=>cases hd:o.dst<;>simp[Gf,fits,put]
  |_=>rfl
abbrev RunT:=Program→Env→List dx→(cg→Option Out)→Option Out
def Xj (c:cg):RunT:=fun _ _ _ ih=>ih c
def Xk (b:Bool) (c:cg):RunT:=fun _ _ _ ih=>aaF (motive:=fun _=>Option Out) none (ih c) b
def Xl (b:Bool) (y z:cg):RunT:=fun _ _ _ ih=>aaF (motive:=fun _=>Option Out) (ih z) (ih y) b
def Xm (g:FuncId) (args:List AV) (m:Mem) (ord:List Nat) (dst:Option Tmp) (c:cg):RunT:=fun P _ K ih=>match lG K g args m with
     |some (v,m1)=>ih {c with st:=back ord dst c.st v m1}
     |none=>match init P g args m with
      |some ci=>match ih ci with
       |some (.ret v m1)=>ih {c with st:=back ord dst c.st v m1}
       |some (.xp u m1)=>ih (mK ord c u m1)
       |none=>none
      |none=>none
def Xn (g:FuncId) (args:List AV) (m:Mem) (ord:List Nat) (pv:Option AV) (c:cg):RunT:=fun P _ _ ih=>match B3 P g args m pv with
     |some ci=>match ih ci with
      |some (.ret _ m1)=>ih {c with st:=back ord none c.st (.aK []) m1}
      |_=>none
     |none=>none
def SH (args:List AV) (m:Mem) (ord:List Nat) (dst:Option Tmp) (c:cg):RunT:=fun _ _ _ ih=>match B0 args m with
     |some ci=>match ih ci with
      |some (.ret v m1)=>ih {c with st:=back ord dst c.st v m1}
      |_=>none
     |none=>none
def SI (g:FuncId) (args:List AV) (m:Mem) (ord:List Nat) (L:Nat) (c:cg):RunT:=fun P _ _ ih=>match init P g args m with
     |some ci=>match ih ci with
      |some (.ret v m1)=>match fS (back ord none c.st v m1).mem L with
       |some (m2,pd)=>ih (behind c m2 pd)
       |none=>none
      |_=>none
     |none=>none
def Xo (bY:Nat) (ops:Array Oper) (c:cg):RunT:=fun P E K ih=>match jC P E c.f bY (fun g args m=>match lG K g args m with
       |some r=>some r
       |none=>match init P g args m with
        |some ci=>match ih ci with
         |some (.ret v m1)=>some (v,m1)
         |_=>none
        |none=>none) ops c.st with
     |some (st,ok)=>cond ok (ih {c with st:={st with cJ:=c.st.cJ,bZ:=c.st.bZ}}) none
     |none=>none
def Xp (l:List cg):RunT:=fun _ _ _ ih=>agree (l.map ih)
def Xq (o:Out):RunT:=fun _ _ _ _=>some o
def Xr:RunT:=fun _ _ _ _=>none
def Rv:Ev→RunT
 |.next c=>Xj c
 |.must b c=>Xk b c
 |.test b y z=>Xl b y z
 |.call g args m ord dst c=>Xm g args m ord dst c
 |.round args m ord dst c=>SH args m ord dst c
 |.range g args m ord L c=>SI g args m ord L c
 |.draw bY ops c=>Xo bY ops c
 |.fork l=>Xp l
 |.late g args m ord pv c=>Xn g args m ord pv c
 |.done o=>Xq o
 |.fail=>Xr
def KT (P:Program) (E:Env) (K:List dx) (n:Nat):cg→Option Out:=
 aaR (motive:=fun _=>cg→Option Out) (fun _=>none) (fun _ ih c=>Rv (KR P E c) P E K ih) n
theorem CF (P:Program) (E:Env) (K:List dx) : ∀n,KT P E K n=exec P E K n
 |0=>by funext c;rfl
 |n+1=>by
  funext c
  show Rv (KR P E c) P E K (KT P E K n)=exec P E K (n+1) c
  rw[KS,CF P E K n]
  unfold exec
  cases step P E c with
  |must b c=>cases b<;>rfl
  |test b y z=>cases b<;>rfl
  |_=>rfl
def E1 (P:Program) (E:Env) (K:List dx) (n:Nat) (g:FuncId) (args:List AV) (m:Mem):Option Out:=
 match init P g args m with
 |some c=>KT P E K n c
 |none=>none
theorem HS (P:Program) (E:Env) (K:List dx) (n:Nat) (g:FuncId) (args:List AV) (m:Mem):E1 P E K n g args m=FY P E K n g args m:=by
 unfold E1 FY
 rw[CF]
 cases init P g args m<;>rfl
theorem gC {P:Program} {E:Env} (hN:gj P) {K:List dx} (hK:gu P E K) {n:Nat} {f:FuncId} {args:List AV} {m m':Mem} {v:AV} (h:E1 P E K n f args m=some (.ret v m')):au P E f args m v m':=
 xX hN hK (n:=n) (by rw[←HS];exact h)
end
end Go.Am
end
section
namespace Go.Am
open Go.RowKit
inductive aA where
 |out (o:Out)
 |at(c:cg)
 |must (b:Bool) (t:aA)
 |need (p:Prop) (t:aA)
 |test (b:Bool) (y z:aA)
 |call (q:dx) (t:aA)
 |stuck
structure bN where
 call:FuncId→List AV→Mem→Option (AV×Mem)
 AS:FuncId→List AV→Mem→Option (AV×Mem):=fun _ _ _=>none
 cut:FuncId→Nat→Bool
 fork:FuncId→Nat→Nat→Bool
 hard:FuncId→Nat→Nat→Bool
 shape:FuncId→Nat→Nat→Option (AV→AV)
def place (c:cg):Nat×Nat:=match c.todo with
 |.code i _::_=>(0,i)
 |.ops bY _ k _::_=>(bY+1,k)
 |_=>(0,0)
def cutAt (O:bN) (c:cg):Bool:=match c.todo with
 |.inLoop i _::_=>O.cut c.f i
 |.code i (.loop _)::_=>O.cut c.f i
 |_=>false
def E2 (c:cg):Option Tmp:=match c.todo with
 |.ops _ ops k _::_=>match ops[k]? with
  |some o=>o.dst
  |none=>none
 |_=>none
def Rw (c:cg):Bool:=match c.todo with
 |.ops .. :: _=>true
 |_=>false
def reshape (sh:AV→AV) (d:Tmp) (c:cg):cg:={c with st:=put c.st (some d) (sh (look c.st.tm d))}
def shaped (sh:Option (AV→AV)) (d:Option Tmp) (c:cg) (k:cg→aA):aA:=
 match sh,d,Rw c with
 |some sh,some d,true=> .need (look c.st.tm d=sh (look c.st.tm d)) (k (reshape sh d c))
 |_,_,_=>k c
def vF (m:Mem) (i:Nat):List AV:=match m.getD i .dead with
 |.ob _ l=>l
 |_=>[]
def AT (i:Nat) (l:List AV) (m:Mem):Mem:=match m.getD i .dead with
 |.ob k _=>m.set i (.ob k l)
 |_=>m
def vl (sh:Option (AV→AV)) (c:cg) (k:cg→aA):aA:=match sh with
 |none=>k c
 |some sh=>match sh .aT with
  |.fn (.func i) _ l=> .need (vF c.st.mem i=l) (k {c with st:={c.st with mem:=AT i l c.st.mem}})
  |_=>k c
def AU (h b:Bool) (t:aA):aA:=
 match h with
 |true=> .must b t
 |false=>match b with
  |true=>t
  |false=> .stuck
inductive Sc where
 |fork (y z:Sc)
 |yes (s:Sc)
 |no (s:Sc)
 |lit (s:Sc)
 |ans (g:FuncId) (v:AV) (m:Mem) (s:Sc)
 |AS (f bY:Nat) (L:FuncId→List AV→Mem→Option (AV×Mem)) (s:Sc)
 |fin
def OE (g:FuncId):Sc→Option (AV×Mem×Sc)
 |.ans h v m s=>cond (bj h g) (some (v,m,s)) none
 |_=>none
def OF (f bY:Nat):Sc→Option ((FuncId→List AV→Mem→Option (AV×Mem))×Sc)
 |.AS f' aaO L s=>cond (bj f f'&&bj bY aaO) (some (L,s)) none
 |_=>none
def nj (E:Env) (O:FuncId→List AV→Mem→Option (AV×Mem)) (o:Oper) (st:St):List dx:=
 match target (ev E st.tm) o with
 |some (g,args)=>match O g (eE (idx (close st.mem 0 args)) args) (pack st.mem (close st.mem 0 args)) with
  |some (v,m1)=>[⟨g,eE (idx (close st.mem 0 args)) args,pack st.mem (close st.mem 0 args),v,m1⟩]
  |none=>[]
 |none=>[]
def oA (P:Program) (E:Env) (f bY:Nat) (O:FuncId→List AV→Mem→Option (AV×Mem)) (ops:Array Oper):List Oper→Nat→St→List dx
 |[],_,_=>[]
 |o::r,nx,st=>
  let skip:=oA P E f bY O ops r nx (put st o.dst (.aK []))
  let pJ:=nj E O o st++match iV P E f bY O nx o st with
   |some (d,jB,_)=>oA P E f bY O ops r jB (put {st with mem:=apply st.mem d.us} o.dst d.v)
   |none=>[]
  match ec ops st.tm o with
  |.yes=>pJ
  |.no=>skip
  |.ask _ b want=>match b==want with
   |true=>pJ
   |false=>skip
  |.lost=>[]
def asked (P:Program) (E:Env) (f bY:Nat) (O:FuncId→List AV→Mem→Option (AV×Mem)) (ops:Array Oper) (st:St):List dx:=
 oA P E f bY O ops (ops.toList.take (gh ops)) st.mem.length {st with mem:=st.mem++cO (60+ops.size)}
def AW:List dx→aA→aA
 |[],t=>t
 |q::r,t=> .call q (AW r t)
def grow (P:Program) (E:Env) (O:bN):Nat→Bool→cg→Sc→(Out→Sc→aA)→aA
 |0,_,_,_,_=> .stuck
 |n+1,top,c,s,K=>match cutAt O c with
  |true=>match top,step P E c with
   |true,.next c'=> .at c'
   |_,_=> .stuck
  |false=>match step P E c with
   |.next c'=>grow P E O n top c' s K
   |.must b c'=>
    AU (O.hard c.f (place c).1 (place c).2) b (shaped (O.shape c.f (place c).1 (place c).2) (E2 c) c' fun c1=>vl (O.shape c.f ((place c).1+1000) (place c).2) c1 fun c2=>grow P E O n top c2 s K)
   |.test b y z=>match O.fork c.f (place c).1 (place c).2 with
    |true=>match s with
     |.fork s s'=> .test b (grow P E O n top y s K) (grow P E O n top z s' K)
     |.yes s=> .must b (grow P E O n top y s K)
     |.no s=> .must (!b) (grow P E O n top z s K)
     |.lit s=>match b with
      |true=>grow P E O n top y s K
      |false=>grow P E O n top z s K
     |s=> .test b (grow P E O n top y s K) (grow P E O n top z s K)
    |false=>match b with
     |true=>grow P E O n top y s K
     |false=>grow P E O n top z s K
   |.call g args m ord dst c'=>match OE g s with
    |some (v,m1,s)=> .call ⟨g,args,m,v,m1⟩ (shaped (O.shape c.f (place c).1 (place c).2) (E2 c) {c' with st:=back ord dst c'.st v m1} fun c=>grow P E O n top c s K)
    |none=>match O.call g args m with
     |some (v,m1)=> .call ⟨g,args,m,v,m1⟩ (shaped (O.shape c.f (place c).1 (place c).2) (E2 c) {c' with st:=back ord dst c'.st v m1} fun c=>grow P E O n top c s K)
     |none=>match init P g args m with
      |some ci=>grow P E O n false ci s fun o s=>match o with
       |.ret v m1=>grow P E O n top {c' with st:=back ord dst c'.st v m1} s K
       |.xp u m1=>grow P E O n top (mK ord c' u m1) s K
      |none=> .stuck
   |.late g args m ord pv c'=>match B3 P g args m pv with
    |some ci=>grow P E O n false ci s fun o s=>match o with
     |.ret _ m1=>grow P E O n top {c' with st:=back ord none c'.st (.aK []) m1} s K
     |.xp .. => .stuck
    |none=> .stuck
   |.round args m ord dst c'=>match B0 args m with
    |some ci=>grow P E O n false ci s fun o s=>match o with
     |.ret v m1=>grow P E O n top {c' with st:=back ord dst c'.st v m1} s K
     |.xp .. => .stuck
    |none=> .stuck
   |.range g args m ord L c'=>match O.call g args m with
    |some (v,m1)=>match fS (back ord none c'.st v m1).mem L with
      |some (m2,pd)=> .call ⟨g,args,m,v,m1⟩ (grow P E O n top (behind c' m2 pd) s K)
      |none=> .stuck
    |none=>match init P g args m with
     |some ci=>grow P E O n false ci s fun o s=>match o with
      |.ret v m1=>match fS (back ord none c'.st v m1).mem L with
       |some (m2,pd)=>grow P E O n top (behind c' m2 pd) s K
       |none=> .stuck
      |.xp .. => .stuck
     |none=> .stuck
   |.draw bY ops c'=>match OF c'.f bY s with
    |some (L,s)=>match jC P E c'.f bY L ops c'.st with
     |some (st,ok)=>AW (asked P E c'.f bY L ops c'.st) (AU (O.hard c.f (place c).1 (place c).2) ok (vl (O.shape c.f ((place c).1+1000) (place c).2) {c' with st:={st with cJ:=c'.st.cJ,bZ:=c'.st.bZ}} fun c2=>grow P E O n top c2 s K))
     |none=> .stuck
    |none=>match jC P E c'.f bY O.AS ops c'.st with
     |some (st,ok)=>AW (asked P E c'.f bY O.AS ops c'.st) (AU (O.hard c.f (place c).1 (place c).2) ok (vl (O.shape c.f ((place c).1+1000) (place c).2) {c' with st:={st with cJ:=c'.st.cJ,bZ:=c'.st.bZ}} fun c2=>grow P E O n top c2 s K))
     |none=> .stuck
   |.done o=>K o s
   |_=> .stuck
def aA.ok (P:Program) (E:Env) (o:Out):aA→Prop
 |.out o'=>o'=o
 |.at c=>bD P E c o
 |.must b t=>b=true∧t.ok P E o
 |.need p t=>p∧t.ok P E o
 |.test b y z=>(b=true→y.ok P E o)∧(b=false→z.ok P E o)
 |.call q t=>au P E q.g q.args q.m q.v q.m'∧t.ok P E o
 |.stuck=>False
section
variable {P:Program} {E:Env}
theorem vG {sh:AV→AV} {d:Tmp} {c:cg} {o:Out} (hin:Rw c=true) (h:look c.st.tm d=sh (look c.st.tm d)) (hg:bD P E (reshape sh d c) o):bD P E c o:=by
 intro g fr w cs hc
 have eB:dA P E g (reshape sh d c) fr w:=by
  obtain⟨f,todo,st⟩:=c
  cases todo with
  |nil=>cases hin
  |cons x k=>
   cases x with
   |ops bY ops i sure=>
    obtain⟨b,a,q1,q2,q3,q4,q5,q6⟩:=hc
    exact⟨b,a,q1,q2,q3,q4,q5.known (h▸q5.tm d),q6⟩
   |_=>cases hin
 exact hg g fr w cs eB
theorem rM {h b:Bool} {t:aA} {o:Out} (k:(AU h b t).ok P E o):b=true∧t.ok P E o:=by
 cases h with
 |true=>exact k
 |false=>cases b with
  |true=>exact⟨rfl,k⟩
  |false=>exact k.elim
def dY (P:Program) (E:Env) (top:Bool) (c:cg) (K:Out→Sc→aA) (o:Out):Prop:=(∃o1 s1,bD P E c o1∧(K o1 s1).ok P E o)∨(top=true∧bD P E c o)
theorem dY.br {top:Bool} {c c':cg} {K:Out→Sc→aA} {o:Out} (hg : ∀g fr w,dA P E g c fr w→eG P E g c fr w c') (h:dY P E top c' K o):dY P E top c K o:=by
 rcases h with⟨o1,s1,h1,h2⟩ | ⟨h1,h2⟩
 · exact .inl ⟨o1,s1,bD.br hg h1,h2⟩
 · exact .inr ⟨h1,bD.br hg h2⟩
theorem lT {top:Bool} {sh:Option (AV→AV)} {d:Option Tmp} {c:cg} {k:cg→aA} {K:Out→Sc→aA} {o:Out} (hk : ∀c,(k c).ok P E o→dY P E top c K o) (h:(shaped sh d c k).ok P E o):dY P E top c K o:=by
 unfold shaped at h
 split at h
 · rename_i hin
   rcases hk _ h.2 with⟨o1,s1,h1,h2⟩ | ⟨h1,h2⟩
   · exact .inl ⟨o1,s1,vG hin h.1 h1,h2⟩
   · exact .inr ⟨h1,vG hin h.1 h2⟩
 · exact hk c h
theorem AX {i:Nat} {l:List AV} {m:Mem} (h:vF m i=l):AT i l m=m:=by
 subst h
 unfold AT vF
 split
 · rename_i k l' hk
   refine List.ext_getElem? fun j=> ?_
   by_cases hj:i=j
   · subst hj
     rw[di] at hk
     cases hm:m[i]? with
     |none=>rw[hm] at hk;cases hk
     |some x=>
      rw[hm] at hk
      have hk:x = .ob k l':=hk
      subst hk
      have hlt:i<m.length:=(List.getElem?_eq_some_iff.1 hm).1
      rw[nb hlt]
   · rw[nc hj]
 · rfl
theorem nk {top:Bool} {sh:Option (AV→AV)} {c:cg} {k:cg→aA} {K:Out→Sc→aA} {o:Out} (hk : ∀c,(k c).ok P E o→dY P E top c K o) (h:(vl sh c k).ok P E o):dY P E top c K o:=by
 unfold vl at h
 split at h
 · exact hk c h
 · split at h
   · obtain⟨h1,h2⟩:=h
     rw[AX h1] at h2
     exact hk c h2
   · exact hk c h
def Xs (P:Program) (E:Env) (call:FuncId→List AV→Mem→Option (AV×Mem)):Prop:= ∀g args m v m1,call g args m=some (v,m1)→au P E g args m v m1
theorem nS {t:aA} {o:Out} : ∀{l:List dx},(AW l t).ok P E o→gu P E l∧t.ok P E o
 |[],h=>⟨fun _ hq=>(by cases hq),h⟩
 |q::l,h=>⟨fun q' hq=>by
   cases hq with
   |head=>exact h.1
   |tail _ hq=>exact(nS (l:=l) h.2).1 q' hq,(nS (l:=l) h.2).2⟩
open Classical in
def only(O:FuncId→List AV→Mem→Option (AV×Mem)) (l:List dx) (g:FuncId) (args:List AV) (m:Mem):Option (AV×Mem):=
 if ∃q∈l,q.g=g∧q.args=args∧q.m=m then O g args m else none
theorem OG {O:FuncId→List AV→Mem→Option (AV×Mem)} {l:List dx} {g:FuncId} {args:List AV} {m:Mem} (h : ∃q∈l,q.g=g∧q.args=args∧q.m=m):only O l g args m=O g args m:=by
 unfold only;rw[if_pos h]
theorem AY {f bY:Nat} {O O':FuncId→List AV→Mem→Option (AV×Mem)} {nx:Nat} {o:Oper} {st:St} (h : ∀q∈nj E O o st,O' q.g q.args q.m=O q.g q.args q.m) {r:gz×Nat×Bool} (hr:nL P E f bY O nx o st=some r):nL P E f bY O' nx o st=some r:=by
 unfold nL at hr ⊢
 unfold nj at h
 cases ht:target (ev E st.tm) o with
 |none=>simp only[ht] at hr ⊢;exact hr
 |some ga=>
  obtain⟨g,args⟩:=ga
  simp only[ht] at hr h ⊢
  cases hO:O g (eE (idx (close st.mem 0 args)) args) (pack st.mem (close st.mem 0 args)) with
  |none=>simp only[hO] at hr;cases hr
  |some vm=>
   obtain⟨v,m1⟩:=vm
   simp only[hO] at h hr
   have:=h _ (.head _)
   simp only at this
   rw[this,hO]
   exact hr
theorem CG {f bY:Nat} {O O':FuncId→List AV→Mem→Option (AV×Mem)} {nx:Nat} {o:Oper} {st:St} (h : ∀q∈nj E O o st,O' q.g q.args q.m=O q.g q.args q.m) {r:gz×Nat×Bool} (hr:iV P E f bY O nx o st=some r):iV P E f bY O' nx o st=some r:=by
 unfold iV at hr ⊢
 cases hl:nL P E f bY O nx o st with
 |none=>
  rw[hl] at hr
  unfold FX at hr
  split at hr<;>cases hr
 |some x=>
  rw[AY h hl]
  rw[hl] at hr
  exact hr
theorem oY {f bY:Nat} {O O':FuncId→List AV→Mem→Option (AV×Mem)} {ops:Array Oper} : ∀(l:List Oper) (nx:Nat) (st:St) (r:St×Nat×List gz×Bool),(∀q∈oA P E f bY O ops l nx st,O' q.g q.args q.m=O q.g q.args q.m)→gZ P E f bY O ops l nx st=some r→gZ P E f bY O' ops l nx st=some r
 |[],_,_,_,_,h=>h
 |o::l,nx,st,r,ha,h=>by
  unfold gZ at h ⊢
  unfold oA at ha
  have Rx : ∀r,(∀q∈oA P E f bY O ops l nx (put st o.dst (.aK [])),O' q.g q.args q.m=O q.g q.args q.m) →
    (match gZ P E f bY O ops l nx (put st o.dst (.aK [])) with
      |some (st',oh,ds,ok)=>some (st',oh,(⟨.aK [],[],[],fun _ _=>false⟩:gz)::ds,fits st o.dst&&ok)
      |none=>none)=some r →
    (match gZ P E f bY O' ops l nx (put st o.dst (.aK [])) with
      |some (st',oh,ds,ok)=>some (st',oh,(⟨.aK [],[],[],fun _ _=>false⟩:gz)::ds,fits st o.dst&&ok)
      |none=>none)=some r:=by
   intro r hq hr
   cases hg:gZ P E f bY O ops l nx (put st o.dst (.aK [])) with
   |none=>rw[hg] at hr;cases hr
   |some x=>rw[oY l nx _ x hq hg];rw[hg] at hr;exact hr
  have Si : ∀r,(∀q∈nj E O o st++(match iV P E f bY O nx o st with
        |some (d,jB,_)=>oA P E f bY O ops l jB (put {st with mem:=apply st.mem d.us} o.dst d.v)
        |none=>[]),O' q.g q.args q.m=O q.g q.args q.m) →
    (match iV P E f bY O nx o st with
      |some (d,jB,ok)=>match gZ P E f bY O ops l jB (put {st with mem:=apply st.mem d.us} o.dst d.v) with
       |some (st',oh,ds,ok')=>some (st',oh,d::ds,ok&&(fits st o.dst&&ok'))
       |none=>none
      |none=>none)=some r →
    (match iV P E f bY O' nx o st with
      |some (d,jB,ok)=>match gZ P E f bY O' ops l jB (put {st with mem:=apply st.mem d.us} o.dst d.v) with
       |some (st',oh,ds,ok')=>some (st',oh,d::ds,ok&&(fits st o.dst&&ok'))
       |none=>none
      |none=>none)=some r:=by
   intro r hq hr
   cases h1:iV P E f bY O nx o st with
   |none=>rw[h1] at hr;cases hr
   |some x=>
    obtain⟨d,jB,ok⟩:=x
    rw[CG (fun q hm=>hq q (oE.2 (.inl hm))) h1]
    rw[h1] at hr hq
    dsimp only at hr hq ⊢
    cases hg:gZ P E f bY O ops l jB (put {st with mem:=apply st.mem d.us} o.dst d.v) with
    |none=>rw[hg] at hr;cases hr
    |some y=>rw[oY l jB _ y (fun q hm=>hq q (oE.2 (.inr hm))) hg];rw[hg] at hr;exact hr
  dsimp only at h ha ⊢
  cases hw:ec ops st.tm o with
  |yes=>simp only[hw] at h ha ⊢;exact Si r ha h
  |no=>simp only[hw] at h ha ⊢;exact Rx r ha h
  |lost=>simp only[hw] at h;cases h
  |ask d b want=>
   simp only[hw] at h ha ⊢
   cases hb:b==want with
   |true=>simp only[hb] at h ha ⊢;exact Si r ha h
   |false=>simp only[hb] at h ha ⊢;exact Rx r ha h
theorem zi {f bY:Nat} {O:FuncId→List AV→Mem→Option (AV×Mem)} {ops:Array Oper} {st:St} {r:St×Bool} (h:jC P E f bY O ops st=some r):jC P E f bY (only O (asked P E f bY O ops st)) ops st=some r:=by
 unfold jC at h ⊢
 cases hg:gZ P E f bY O ops (ops.toList.take (gh ops)) st.mem.length {st with mem:=st.mem++cO (60+ops.size)} with
 |none=>rw[hg] at h;cases h
 |some x=>
  rw[oY (O':=only O (asked P E f bY O ops st)) _ _ _ x (fun q hq=>OG ⟨q,hq,rfl,rfl,rfl⟩) hg]
  rw[hg] at h;exact h
theorem HT {O:FuncId→List AV→Mem→Option (AV×Mem)} {o:Oper} {st:St} {q:dx} (h:q∈nj E O o st):O q.g q.args q.m=some (q.v,q.m'):=by
 unfold nj at h
 split at h
 · split at h
   · rename_i hO
     cases h with
     |head=>exact hO
     |tail _ h=>cases h
   · cases h
 · cases h
theorem qn {f bY:Nat} {O:FuncId→List AV→Mem→Option (AV×Mem)} {ops:Array Oper} : ∀(l:List Oper) (nx:Nat) (st:St) (q:dx),q∈oA P E f bY O ops l nx st→O q.g q.args q.m=some (q.v,q.m')
 |[],_,_,_,h=>by cases h
 |o::l,nx,st,q,h=>by
  unfold oA at h
  have Si:q∈nj E O o st++(match iV P E f bY O nx o st with
        |some (d,jB,_)=>oA P E f bY O ops l jB (put {st with mem:=apply st.mem d.us} o.dst d.v)
        |none=>[])→O q.g q.args q.m=some (q.v,q.m'):=by
   intro h
   rcases oE.1 h with h | h
   · exact HT h
   · split at h
     · exact qn l _ _ q h
     · cases h
  dsimp only at h
  split at h
  · exact Si h
  · exact qn l _ _ q h
  · split at h
    · exact Si h
    · exact qn l _ _ q h
  · cases h
theorem vH {f bY:Nat} {O:FuncId→List AV→Mem→Option (AV×Mem)} {ops:Array Oper} {st:St} (h:gu P E (asked P E f bY O ops st)):Xs P E (only O (asked P E f bY O ops st)):=by
 intro g args m v m1 hO
 unfold only at hO
 split at hO
 · rename_i hq
   obtain⟨q,hm,rfl,rfl,rfl⟩:=hq
   have:=qn _ _ _ q hm
   rw[this] at hO
   obtain⟨rfl,rfl⟩:q.v=v∧q.m'=m1:=by simpa using hO
   exact h q hm
 · cases hO
theorem bw (hN:gj P) {O:bN} {o:Out} : ∀(n:Nat) (top:Bool) (c:cg) (s:Sc) (K:Out→Sc→aA),(grow P E O n top c s K).ok P E o→dY P E top c K o
 |0,_,_,_,_,h=>h.elim
 |n+1,top,c,s,K,h=>by
  unfold grow at h
  split at h
  · split at h
    · rename_i c' hs;exact .inr ⟨rfl,bD.br (rK hs) h⟩
    · exact h.elim
  · split at h
    · rename_i c' hs;exact dY.br (rK hs) (bw hN n top c' s K h)
    · rename_i b c' hs
      obtain⟨rfl,hb⟩:=rM h
      exact dY.br (ze hs) (lT (fun c=>nk fun c=>bw hN n top c s K) hb)
    · rename_i b y z hs
      have gt:=zf hs
      split at h
      · split at h
        · cases b with
          |true=>exact dY.br gt (bw hN n top y _ K (h.1 rfl))
          |false=>exact dY.br gt (bw hN n top z _ K (h.2 rfl))
        · obtain⟨rfl,h⟩:=h
          exact dY.br gt (bw hN n top y _ K h)
        · obtain⟨hb,h⟩:=h
          cases b with
          |true=>cases hb
          |false=>exact dY.br gt (bw hN n top z _ K h)
        · cases b with
          |true=>exact dY.br gt (bw hN n top y _ K h)
          |false=>exact dY.br gt (bw hN n top z _ K h)
        · cases b with
          |true=>exact dY.br gt (bw hN n top y _ K (h.1 rfl))
          |false=>exact dY.br gt (bw hN n top z _ K (h.2 rfl))
      · cases b with
        |true=>exact dY.br gt (bw hN n top y _ K h)
        |false=>exact dY.br gt (bw hN n top z _ K h)
    · rename_i f args m ord dst c' hs
      split at h
      · rename_i v m1 s' _
        exact dY.br (kT hs h.1) (lT (fun c=>bw hN n top c s' K) h.2)
      split at h
      · exact dY.br (kT hs h.1) (lT (fun c=>bw hN n top c s K) h.2)
      · split at h
        · rename_i ci hi
          rcases bw hN n false ci s _ h with⟨o1,s1,h1,h2⟩ | ⟨h1,_⟩
          · cases o1 with
            |ret v m1=>exact dY.br (kT hs (eS hN hi h1)) (bw hN n top _ s1 K h2)
            |xp v m1=>exact dY.br (sQ hs (ox hN hi h1)) (bw hN n top _ s1 K h2)
          · cases h1
        · exact h.elim
    · rename_i g args m ord pv c' hs
      split at h
      · rename_i ci hi
        rcases bw hN n false ci s _ h with⟨o1,s1,h1,h2⟩ | ⟨h1,_⟩
        · cases o1 with
          |ret v m1=>exact dY.br (zg hs (oz hN hi h1)) (bw hN n top _ s1 K h2)
          |xp v m1=>exact h2.elim
        · cases h1
      · exact h.elim
    · rename_i args m ord dst c' hs
      split at h
      · rename_i ci hi
        rcases bw hN n false ci s _ h with⟨o1,s1,h1,h2⟩ | ⟨h1,_⟩
        · cases o1 with
          |ret v m1=>exact dY.br (vD hs (oy hi h1)) (bw hN n top _ s1 K h2)
          |xp v m1=>exact h2.elim
        · cases h1
      · exact h.elim
    · rename_i g args m ord L c' hs
      split at h
      · split at h
        · rename_i m2 pd hend
          exact dY.br (oX hs h.1 hend) (bw hN n top _ s K h.2)
        · exact h.elim
      split at h
      · rename_i ci hi
        rcases bw hN n false ci s _ h with⟨o1,s1,h1,h2⟩ | ⟨h1,_⟩
        · cases o1 with
          |ret v m1=>
           dsimp only at h2
           split at h2
           · rename_i m2 pd hend
             exact dY.br (oX hs (eS hN hi h1) hend) (bw hN n top _ s1 K h2)
           · exact h2.elim
          |xp v m1=>exact h2.elim
        · cases h1
      · exact h.elim
    · rename_i bY ops c' hs
      split at h
      · rename_i L s' _
        split at h
        · rename_i st ok hq
          obtain⟨hcs,h⟩:=nS h
          obtain⟨rfl,hb⟩:=rM h
          exact dY.br (rL hs (vH hcs) (zi hq)) (nk (fun c=>bw hN n top c s' K) hb)
        · exact h.elim
      split at h
      · rename_i st ok hq
        obtain⟨hcs,h⟩:=nS h
        obtain⟨rfl,hb⟩:=rM h
        exact dY.br (rL hs (vH hcs) (zi hq)) (nk (fun c=>bw hN n top c s K) hb)
      · exact h.elim
    · rename_i o' hs
      exact .inl ⟨o',s,zc hs,h⟩
    · exact h.elim
def atEnd (o:Out) (_:Sc):aA:= .out o
theorem ah (hN:gj P) {O:bN} {n:Nat} {c:cg} {s:Sc} {t:aA} {o:Out} (ht:grow P E O n true c s atEnd=t) (h:t.ok P E o):bD P E c o:=by
 subst ht
 rcases bw hN n true c s atEnd h with⟨o1,s1,h1,h2⟩ | ⟨_,h1⟩
 · have:o1=o:=h2
   exact this▸h1
 · exact h1
def aG (P:Program) (E:Env) (O:bN) (n:Nat) (f:FuncId) (args:List AV) (m:Mem) (s:Sc):aA:=
 match init P f args m with
 |some c=>grow P E O n true c s atEnd
 |none=> .stuck
theorem aa (hN:gj P) {O:bN} {n:Nat} {f:FuncId} {args:List AV} {m m':Mem} {s:Sc} {v:AV} {t:aA} (ht:aG P E O n f args m s=t) (h:t.ok P E (.ret v m')):au P E f args m v m':=by
 subst ht
 unfold aG at h
 split at h
 · rename_i c hi;exact eS hN hi (ah hN rfl h)
 · exact h.elim
theorem E3 {P:Program} (h:(P.funcs.toList.all fun fn=> !(fn.name == "runtime.NumGoroutine"))=true):gj P:=by
 intro f fn hf
 rw[List.all_eq_true] at h
 have:=h fn (by rw[←Array.getElem?_toList] at hf;exact oi hf)
 simpa using this
def iP (E:Env) (f t:Nat):Code→Nat→List It→Option (Code×List It)
 |.loop b,i,k=>match bj i t with
  |true=>some (b,k)
  |false=>iP E f t b (i+1) (.inLoop i b::eO (E.keep f (2*i+1)) k)
 |.seq a b,i,k=>match iP E f t a i (.code (i+nodes a) b::k) with
  |some r=>some r
  |none=>iP E f t b (i+nodes a) k
 |.cond _ a b,i,k=>match iP E f t a (i+1) (eO (E.keep f (2*i)) k) with
  |some r=>some r
  |none=>iP E f t b (i+1+nodes a) (eO (E.keep f (2*i)) k)
 |.block id b,i,k=>iP E f t b i (.inBlock id::k)
 |.scope b,i,k=>iP E f t b i (.inScope b::k)
 |_,_,_=>none
def af (P:Program) (E:Env) (f t:Nat) (vs:List AV) (m:Mem) (fix nt:Nat):cg:=
 match P.funcs[f]? with
 |some fn=>match fn.body with
  |some c=>match iP E f t c 0 [] with
   |some (b,k)=>⟨f,.code (t+1) b :: .inLoop t b::eO (E.keep f (2*t+1)) k,⟨((E.keep f (2*t)).getD []).zip vs,nt,m,fix,[],.call⟩⟩
   |none=>⟨f,[],⟨[],0,[],0,[],.call⟩⟩
  |none=>⟨f,[],⟨[],0,[],0,[],.call⟩⟩
 |none=>⟨f,[],⟨[],0,[],0,[],.call⟩⟩
def E4 (l:List (Nat×Nat×Nat)) (f a b:Nat):Bool:=match l with
 |[]=>false
 |(f',a',b')::r=>cond (bj f f') (cond (bj a a') (cond (bj b b') true (E4 r f a b)) (E4 r f a b)) (E4 r f a b)
def Gg (l:List (Nat×Nat)) (f a:Nat):Bool:=match l with
 |[]=>false
 |(f',a')::r=>cond (bj f f') (cond (bj a a') true (Gg r f a)) (Gg r f a)
def E5 (rows:List (Nat×Nat×List Nat)) (f j:Nat):Option (List Nat):=match rows with
 |[]=>none
 |(f',j',l)::r=>cond (bj f f'&&bj j j') (some l) (E5 r f j)
def aC (_:FuncId) (_:List AV) (_:Mem):Option (AV×Mem):=none
def aP (call AS:FuncId→List AV→Mem→Option (AV×Mem)) (SJ:List (Nat×Nat)) (KU KV:List (Nat×Nat×Nat)):bN where
 call:=call
 AS:=AS
 cut:=Gg SJ
 fork:=E4 KU
 hard:=E4 KV
 shape _ _ _:=none
def cu (l:List (Nat×Nat×Nat×AV)) (f a b:Nat):Option (AV→AV):=match l with
 |[]=>none
 |(f',a',b',v)::r=>cond (bj f f'&&(bj a a'&&bj b b')) (some fun _=>v) (cu r f a b)
def gI (call AS:FuncId→List AV→Mem→Option (AV×Mem)) (SJ:List (Nat×Nat)) (KU KV:List (Nat×Nat×Nat)) (shape:FuncId→Nat→Nat→Option (AV→AV)):bN where
 call:=call
 AS:=AS
 cut:=Gg SJ
 fork:=E4 KU
 hard:=E4 KV
 shape:=shape
def gD (t:Nat):Code→Nat→Option (Array Tmp×Code×Code)
 |.rangeFunc _ ps as bd,i=>cond (bj i t) (some (ps,as,bd)) none
 |.seq a b,i=>match gD t a i with
  |some r=>some r
  |none=>gD t b (i+nodes a)
 |.cond _ a b,i=>match gD t a (i+1) with
  |some r=>some r
  |none=>gD t b (i+1+nodes a)
 |.block _ b,i=>gD t b i
 |.scope b,i=>gD t b i
 |.loop b,i=>gD t b (i+1)
 |_,_=>none
def Ry (P:Program) (f t:Nat) (st:LoopState) (pd:Option Code):dV:=
 match P.funcs[f]? with
 |some fn=>match fn.body with
  |some c=>match gD t c 0 with
   |some (ps,as,bd)=> .loop f ps as bd st pd
   |none=> .Wq
  |none=> .Wq
 |none=> .Wq
end
end Go.Am
end
