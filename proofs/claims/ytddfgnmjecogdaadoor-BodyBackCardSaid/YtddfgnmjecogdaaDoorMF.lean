import Derived.Test.YtddfgnmjecogdaaDoorME
import Derived.RangeFuncLeaves
import Derived.RangeFuncIn
import Derived.RangeFuncRecord
open Option.some renaming injEq→dC,inj→dE
open Prod.mk renaming injEq→kz
open List renaming getD_eq_getElem?_getD→dt,range_eq_range'→Vv,cons_append→Vw,getElem?_eq_getElem→dp,mem_append→pn,nil_append→Vl,range'→Pl,getElem?_set_self→oT,getElem?_eq_none→fg,getElem?_set_ne→ph,mem_of_getElem?→pb,zip_cons_cons→Vx,getElem?_map→fv,mapM_cons→Vy,mem_map→gg,rec→Vz
open Go.Sem renaming run_bind→la,run_pure→lh,runT_eq→VB
open Go.Result renaming andThen_ok→lj
open Bool renaming and_eq_true→dv,false_eq_true→rh,rec→VC
open Nat renaming beq→be,eq_zero_or_pos→sd,le_refl→df,eq_of_beq_eq_true→bm,lt_or_ge→ik,le_of_ble_eq_true→gv,beq_refl→Hm,zero_le→Vr,sub_zero→VD,blt→bx,rec→VE
open Array renaming getD_eq_getD_getElem?→PQ,getElem?_eq_getElem→ja,length_toList→jb,getElem?_eq_none→U4,toList_append→U5
open Go.Steps renaming refl→Vu
open Go.Frame renaming enter→QP,atR→U1,round→VF
open Option renaming getD_some→kp,rec→VG
noncomputable section
section
namespace Go.Am
open Go.RowKit
section
variable {P:Program} {E:Env} {g:Gh} {w:World}
def Ft (a:Act):ResultVar→Sem Value
 |.tmp t=>pure (a.tmps.getD t undef)
 |.cell x t=>do loadVar t (←asAddr (a.tmps.getD x undef))
theorem jf {st:St} {a:Act} (h:bS E g st a w) : ∀{rs:List ResultVar} {vs:List AV},iF P st rs=some (vs,true) →
  ∃qR:List Value,(rs.mapM (Ft a)).run P w = .ok qR w∧bN g w vs qR
 |[],vs,he=>by
  simp only[iF,dC,kz,and_true] at he;subst he
  exact⟨[],rfl,trivial⟩
 |.tmp t::rs,vs,he=>by
  simp only[iF,Option.map_eq_some_iff,kz] at he
  obtain⟨⟨us,ok⟩,h1,rfl,rfl⟩:=he
  obtain⟨qR,k1,k2⟩:=jf h h1
  refine⟨_::qR,?_,h.tm t,k2⟩
  simp only[Vy,la,Ft,lh,lj,k1]
 |.cell x t::rs,vs,he=>by
  simp only[iF] at he
  split at he
  · rename_i v ok us Sm h1 h2
    simp only[dC,kz,dv] at he
    obtain⟨rfl,rfl,rfl⟩:=he
    obtain⟨c,o,cv,k1,k2,k3⟩:=qz h.rel (h.tm x) h1
    obtain⟨qR,k4,k5⟩:=jf h h2
    refine⟨cv::qR,?_,k3,k5⟩
    have ha:(asAddr (.pointer (some ⟨c,o,none⟩))).run P w = .ok ⟨c,o,none⟩ w:=rfl
    have hone:(Ft a (.cell x t)).run P w = .ok cv w:=by simp only[Ft,k1,la,ha,lj,k2]
    simp only[Vy,la,hone,lh,lj,k4]
  · cases he
theorem zi {vs:List AV} {qR:List Value} (h:bN g w vs qR) : ∃cv,(if h:qR.toArray.size=1 then qR.toArray[0] else .tuple qR.toArray)=cv∧VA g w (one vs) cv:=by
 refine⟨_,rfl,?_⟩
 match vs,qR,h with
 |[v],[cv],h=>exact h.1
 |[],[],_=>exact VA.je.2 trivial
 |v::v'::vs,cv::Qm::qR,h=>
  rw[dif_neg (by simp)]
  exact VA.je.2 h
theorem B5 {fn:Func} {a:Act} {qR:List Value} {cv:Value} (h:(fn.results.toList.mapM (Ft a)).run P w = .ok qR w)
  (hc:(if h:qR.toArray.size=1 then qR.toArray[0] else .tuple qR.toArray)=cv):(results fn a.tmps).run P w = .ok cv w:=by
 have e:results fn a.tmps=(do let vs ←fn.results.mapM (Ft a);pure (if h:vs.size=1 then vs[0] else .tuple vs)):=rfl
 rw[e,Array.mapM_eq_mapM_toList]
 simp only[la,Sem.run_map,h,lj,lh,hc]
theorem Rel.zj {m:Mem} (h:Rel g m w) : ∀(F:List Nat),(∀b∈F,∃l,m[b]? = some (.pc l)) →
  ∃g' m',Rel g' m' w∧Ext g w g' w∧cr g m w g' m' w∧g'.aP=g.aP∧g'.lo=g.lo∧g'.hi=g.hi∧m'.length=m.length∧(∀i,i∉F→m'[i]? = m[i]?) ∧
   ∀b∈F,∀l c,m[b]? = some (.pc l)→g.aP b=some c → ∀o,o<l.length→g'.pure c o
 |[],_=>⟨g,m,h,Ext.refl _ _,cr.refl _ _ _,rfl,rfl,rfl,rfl,fun _ _=>rfl,fun _ hb=>by cases hb⟩
 |b::F,hF=>by
  obtain⟨g',m',k1,k2,k3,k4,k5,k6,k7,k8,k9⟩:=Rel.zj h F fun b hb=>hF b (.tail _ hb)
  by_cases hb:b∈F
  · refine⟨g',m',k1,k2,k3,k4,k5,k6,k7,fun i hi=>k8 i fun q=>hi (.tail _ q),fun b' hb'=> ?_⟩
    cases hb' with
    |head=>exact k9 b hb
    |tail _ hb'=>exact k9 b' hb'
  · obtain⟨l,hl⟩:=hF b (.head _)
    have hl':m'[b]? = some (.pc l):=(k8 b hb).trans hl
    obtain⟨c,cs,e,n,q1,_⟩:=h.cells b _ _ hl rfl
    obtain⟨r1,r2,r3⟩:=k1.D7 hl' (by rw[k4];exact q1)
    refine⟨_,_,r1,k2.trans r2,k3.trans r3,k4,k5,k6,by simp[k7],fun i hi=> ?_,fun b' hb' l' c' Md dJ o ho=> ?_⟩
    · have hne:b≠i:=fun e=>hi (e ▸ .head _)
      rw[ph hne]
      exact k8 i fun q=>hi (.tail _ q)
    · cases hb' with
      |head=>
       rw[hl] at Md;cases Md
       rw[q1] at dJ;cases dJ
       exact .inr ⟨rfl,Vr _,ho⟩
      |tail _ hb'=>exact .inl (k9 b' hb' l' c' Md dJ o ho)
theorem Fu {m:Mem} {kept:List Nat} {v:AV} : ∀b∈(freeze m kept v).2.2,∃l,m[b]? = some (.pc l):=by
 intro b hb
 unfold freeze at hb
 split at hb
 · rename_i b' off len sz cap
   cases hk:(has kept b'||be len 0) with
   |true=>simp[hk] at hb
   |false=>
    simp only[hk,cond_false] at hb
    split at hb
    · rename_i l hl
      simp only[List.mem_singleton] at hb
      subst hb
      exact⟨l,getD_some hl (by simp)⟩
    · simp at hb
 · simp at hb
theorem wB {m:Mem} {kept:List Nat} : ∀{vs:List AV},∀b∈(gj m kept vs).2.2,∃l,m[b]? = some (.pc l)
 |[],b,hb=>by simp[gj] at hb
 |v::vs,b,hb=>by
  simp only[gj,pn] at hb
  rcases hb with hb | hb
  · exact Fu b hb
  · exact wB b hb
theorem AH {m:Mem} (h:Rel g m w) {g':Gh} (he:Ext g w g' w) {kept:List Nat} {v:AV} {cv:Value} (hv:VA g w v cv) (hok:(freeze m kept v).2.1=true)
  (hp : ∀b∈(freeze m kept v).2.2,∀l c,m[b]? = some (.pc l)→g.aP b=some c → ∀o,o<l.length→g'.pure c o):VA g' w (freeze m kept v).1 cv:=by
 unfold freeze at hok hp ⊢
 split at hok
 · rename_i b off len sz cap
   cases hk:(has kept b||be len 0) with
   |true=>simp only[cond_true];exact hv.mono he
   |false=>
    simp only[hk,cond_false] at hok hp ⊢
    split at hok
    · rename_i l hl
      simp only[hl] at hp ⊢
      have hl:=getD_some hl (by simp)
      obtain⟨hok,hz⟩:=(dv _ _).mp hok
      have hle:=gv hok
      have hz:=gv hz
      cases hv with
      |ms _ _ _ _ cap c hc hcap=>
      obtain⟨c',cs,e,n,k1,k2,k3,k4,k5⟩:=h.cells b _ _ hl rfl
      rw[hc] at k1;cases k1
      have hlen:=k4.1.len
      simp only[List.length_map,jb] at hlen
      have hpure:=hp b (by simp) l c hl hc
      have QD:rI g w l cs.toList:=aW.cS (by simpa using k4.1.len) fun i a b=>by
       have:=k4.1.get i (by simpa using a) b
       rw[List.getElem_map,VA.pv] at this
       exact this
      refine .p _ _ (VP.mk (us:=(cs.toList.drop off).take (len*sz)) (aW.mono (fun _ _ q=>VP.mono he.pure q) ((QD.drop off).take (len*sz))) (by simp;omega) hcap hz fun k v hk=> ?_)
      rw[List.getElem?_take] at hk
      split at hk
      · rename_i hlt
        rw[List.getElem?_drop] at hk
        have hk':=aV hk
        refine⟨by rw[aM k2];simpa using hk,hpure (off+k) (by omega),k4.2 v (pb hk)⟩
      · cases hk
    · exact hv.mono he
 · exact hv.mono he
theorem oZ {m:Mem} (h:Rel g m w) {g':Gh} (he:Ext g w g' w) {kept:List Nat} : ∀{vs:List AV} {qR:List Value},bN g w vs qR→(gj m kept vs).2.1=true →
  (∀b∈(gj m kept vs).2.2,∀l c,m[b]? = some (.pc l)→g.aP b=some c → ∀o,o<l.length→g'.pure c o)→bN g' w (gj m kept vs).1 qR
 |[],[],_,_,_=>trivial
 |v::vs,cv::qR,hv,hok,hp=>by
  simp only[gj,dv,pn] at hok hp ⊢
  exact⟨AH h he hv.1 hok.1 fun b hb=>hp b (.inl hb),oZ h he hv.2 hok.2 fun b hb=>hp b (.inr hb)⟩
 |[],_::_,h,_,_=>h.elim
 |_::_,[],h,_,_=>h.elim
theorem wC : ∀{l ord:List Nat},zX l ord=true → ∀i∈l,i∉ord
 |[],_,_,_,h=>by cases h
 |j::l,ord,h,i,hi=>by
  simp only[zX,dv,Bool.not_eq_true'] at h
  cases hi with
  |head=>exact fun q=>by rw[Ed.2 q] at h;cases h.1
  |tail _ hi=>exact wC h.2 i hi
theorem wD {c:bB} {b:Frame} {a:Act} {todo:List Item} (hs:bS E g c.st a w) (hrb:dZ g c.st.bK b) (wh : ∀i,c.st.bK ≠ .round i) (sk:b.fn=c.f) (hd:a.defers=[]) {fr:Frame}
  (hst : ∀cs,Steps P (lone fr cs w) (lone {b.atR a todo with mode:= .returning} cs w)):Ay P E g c fr w (lX P c):=by
 unfold lX
 split
 · rename_i fn hfn
   split
   · rename_i vs ok hres
     intro hok cs
     simp only[dv] at hok
     obtain⟨⟨rfl,hfz⟩,hni⟩:=hok
     obtain⟨qR,k1,k2⟩:=jf hs hres
     obtain⟨g',m',r1,r2,r3,r4,r5,r6,r7,r8,r9⟩:=hs.rel.zj _ (wB (m:=c.st.mem) (kept:=close c.st.mem c.st.fix []) (vs:=vs))
     have k3:=oZ hs.rel r2 k2 hfz r9
     obtain⟨cv,oH,_⟩:=zi k2
     obtain⟨Qm,Rc,k4⟩:=zi k3
     have:Qm=cv:=Rc.symm.trans oH
     subst this
     have hrun:=B5 (P:=P) k1 oH
     generalize TC:gj c.st.mem (close c.st.mem c.st.fix []) vs=fz at *
     obtain⟨hnd,lF⟩:=eE c.st.mem c.st.fix [one fz.1]
     generalize G2:close c.st.mem c.st.fix [one fz.1]=ord at *
     have hpk:Am.pack c.st.mem ord=Am.pack m' ord:=by
      unfold Am.pack
      refine List.map_congr_left fun i hi=> ?_
      rw[dt,dt,r8 i fun q=>wC hni i q hi]
     obtain⟨p1,p2⟩:=r1.pack hnd
     have hlen:c.st.fix≤ord.length:=by
      rcases sd c.st.fix with e | e
      · omega
      · have:=aV (lF (c.st.fix-1) (by omega));omega
     refine⟨g'.pack ord,_,w,hst cs,?_,?_,?_,rfl,rfl,rfl⟩
     · refine⟨sk,Qm,w,?_,?_,?_,cr.refl _ _ _,?_⟩
       · show Fk P c.st.bK {b.atR a todo with mode:= .returning} w Qm w
         have OB:P.funcs[b.fn]? = some fn:=by rw[sk];exact hfn
         generalize c.st.bK=r at hrb wh
         cases r with
         |call=>exact⟨⟨rfl,hd,hrb.1,fn,OB,hrun⟩,rfl⟩
         |late=>exact⟨⟨⟨rfl,hd,fn,OB,hrun⟩,hrb.1⟩,rfl⟩
         |round i=>exact absurd rfl (wh i)
       · simp only[look,Hm,cond_true]
         exact k4.jo (cT.pack g' ord)
       · show Rel (g'.pack ord) (Am.pack c.st.mem ord) w
         rw[hpk];exact p1
       · show c.st.fix≤(Am.pack c.st.mem ord).length
         simpa[Am.pack] using hlen
     · refine r3.trans ⟨df _,fun _ _ _=>rfl,fun _ _ p=>⟨p,rfl⟩,fun _ _ p=> .inl p,fun c' ho=> .inl (p2 c' ?_),rfl,rfl,rfl⟩
       have ho:cA (g'.pack ord) (Am.pack c.st.mem ord) c':=ho
       rw[hpk] at ho;exact ho
     · intro k c' hk dJ
       have:=lF k hk
       simp[Gh.pack,this,r4,r5,r6,dJ]
   · trivial
 · trivial
theorem qT {r:Nat} {w:World} (h:w.heap[r]? = some (.deferred (some []))):(Instr.takeDeferred r).run P w = .ok [] {w with heap:=w.heap.setIfInBounds r (.deferred none)}:=by
 simp[Instr.takeDeferred,la,getObj,setObj,Sem.run,h,Result.andThen]
theorem Ei {b:Frame} {a:Act} {todo:List Item} : ∀{mk:List Mark} {ds:List Deferred} {st:St} {m:Mem} {w:World},lY mk st.mem=some m→Mk g mk ds→bS E g st a w →
  ∃w',(∀cs,Steps P (lone {b.atR {a with defers:=ds} todo with mode:= .returning} cs w) (lone {b.atR {a with defers:=[]} todo with mode:= .returning} cs w')) ∧
   bS E g {st with mem:=m,bT:=[]} {a with defers:=[]} w'∧cr g st.mem w g m w'
 |[],[],st,m,w,h,_,hs=>by
  simp only[lY,dC] at h
  subst h
  exact⟨w,fun cs=>Vu _ _,⟨hs.tm,hs.nt,hs.rel,hs.fix,hs.cL⟩,cr.refl _ _ _⟩
 |.late .. :: mk,_,st,m,w,h,hm,hs=>by
  simp only[lY] at h
  cases h
 |.range i::mk,d::ds,st,m,w,h,hm,hs=>by
  simp only[lY] at h
  split at h
  · rename_i hb
    obtain⟨⟨D,hD,rfl⟩,hm⟩:=hm
    have hib:=getD_some hb (by simp)
    obtain⟨c,ob,vs,k1,k2,k3,k4,_⟩:=hs.rel.obs i _ _ hib
    rw[hD] at k1;cases k1
    obtain⟨rfl,_⟩:=k4
    obtain⟨e1,e2,e3⟩:=cI w (o':= .deferred none) k2
    obtain⟨r1,r2,r3⟩:=hs.rel.eX (xQ:= .shut) (l':=[]) (vs':=[]) hib hD e1 e2 rfl rfl rfl e3 ⟨rfl,rfl⟩ trivial
    have hs':bS E g {st with mem:=st.mem.set i (.ob .shut [])} a {w with heap:=w.heap.setIfInBounds D (.deferred none)}:=
     ⟨fun k=>(hs.tm k).mono r2,hs.nt,r1,by simpa using hs.fix,hs.cL.mono r2.pure⟩
    obtain⟨w',q1,q2,q3⟩:=Ei (st:={st with mem:=st.mem.set i (.ob .shut [])}) h hm hs'
    refine⟨w',fun cs=> .head ?_ (q1 cs),q2,r3.trans q3⟩
    exact step_collected (fr:={b.atR {a with defers:={target:= .collected D,args:= #[]}::ds} todo with mode:= .returning}) (fun e=>by cases e) rfl rfl (qT k2)
  · cases h
 |[],_::_,_,_,_,_,hm,_=>hm.elim
 |.range _::_,[],_,_,_,_,hm,_=>hm.elim
theorem G6 {f:FuncId} {fa ca:Array Value} {fn:Func} (hf:P.funcs[f]? = some fn) (hb:fn.body.isSome=true) (hn:(fn.name == "runtime.NumGoroutine")=false) :
  (invoke (.fn (.func f) ca) fa).run P w = .ok (.enter f (fa++ca)) w:=by
 have On:fn.body.isNone=false:=by cases hq:fn.body<;>simp_all
 simp only[invoke,callFunc,la,run_program,lj,hf,hn,rh,if_false,On,lh]
theorem sv : ∀{l:List (Nat×Nat)} {cs:List Value},Qi g l cs→bN g w (mps l) cs
 |[],[],_=>trivial
 |(b,off)::l,_::cs,h=>by
  obtain⟨⟨c,h1,h2⟩,h3⟩:=h
  exact⟨by rw[h2];exact .mp b off c h1,sv h3⟩
 |[],_::_,h=>h.elim
 |_::_,[],h=>h.elim
theorem B6 (cv:Option Value):settle (cJ cv true) = .returning:=by cases cv<;>rfl
theorem Ej {c:bB} {b:Frame} {a:Act} {todo:List Item} {gf:FuncId} {first caps:List (Nat×Nat)} {pv:Option AV} {qK:Option Value} {d:Deferred}
  (hs:bS E g c.st a w) (hrb:dZ g c.st.bK b) (wh : ∀i,c.st.bK ≠ .round i) (sk:b.fn=c.f) (hd:a.defers=[d]) (hm:Mark.Ok g (.late gf first caps) d) (BF:GU g w pv qK) {fr:Frame}
  (hst : ∀cs,Steps P (lone fr cs w) (lone {b.atR a todo with mode:=cJ qK false} cs w)):Ay P E g c fr w (zY c pv gf first caps):=by
 unfold zY
 obtain⟨fa,ca,h1,h2,rfl⟩:=hm
 have hargs:bN g w (mps first++mps caps) (fa++ca).toList:=by
  rw[U5]
  exact(sv h1).append (sv h2)
 dsimp only
 generalize mps first++mps caps=args at *
 obtain⟨hnd,_⟩:=eE c.st.mem 0 (pv.toList++args)
 generalize close c.st.mem 0 (pv.toList++args)=ord at *
 cases hlt:iP ord c.st.mem.length with
 |false=>trivial
 |true=>
  intro m1 eY cs
  obtain⟨⟨fn,JE,Dd,GY⟩,eY⟩:=eY
  obtain⟨GQ,C9⟩:=hs.rel.pack hnd
  have mj:=cT.pack g ord
  have Rd:GU (g.pack ord) w (pv.map (jo (idx ord))) qK:=by
   cases pv with
   |none=>cases qK with
    |none=>exact trivial
    |some v=>exact BF.elim
   |some u=>cases qK with
    |none=>exact BF.elim
    |some v=>exact VA.jo mj BF
  obtain⟨w',g',cv,fr',q1,q2,q3,q5,q6,q7,q8⟩:=eY (g.pack ord) w (fa++ca) qK {b.atR {a with defers:=[]} todo with mode:=cJ qK false} cs rfl Rd GQ (bN.jo mj hargs) (hs.cL.mono fun _ _ p=>⟨p,rfl⟩)
  have hlen:(Am.pack c.st.mem ord).length=ord.length:=by simp[Am.pack]
  rw[hlen] at q7 q8
  obtain⟨r1,r2,r3,r4⟩:=hs.rel.back hnd (fH hlt) q5 q6 q7 q8
  have Dm:=step_defer (P:=P) (fr:={b.atR a todo with mode:=cJ qK false}) (cs:=cs) (w:=w) (ds:=[]) (by cases qK<;>exact fun e=>by cases e) hd rfl (G6 JE Dd GY)
  have hleave:=step_going_returned (P:=P) (c:={b.atR {a with defers:=[]} todo with mode:=cJ qK true}) (cs:=cs) q3 q2
  have nG:c.st.fix≤(cQ (bf ord c.st.mem.length) ord m1 c.st.mem).length:=by
   rw[dH _ _ _ _ q8];have:=hs.fix;omega
  refine⟨_,{b.atR {a with defers:=[]} todo with mode:= .returning},w',(hst cs).trans (.head Dm (q1.trans (.one ?_))),⟨b,{a with defers:=[]},todo,rfl,sk,hrb.ext fun i c q=>(r2.aP i c q).1,wh,rfl,rfl,⟨fun k=>(hs.tm k).mono r2,hs.nt,r1,nG,hs.cL.mono r2.pure⟩⟩,r3,bn.qJ r2 _,rfl,rfl,rfl⟩
  rw[hleave]
  simp only[B6]
theorem Fv {c:bB} {b:Frame} {a:Act} {todo:List Item} {u:AV} {cv:Value} (hs:bS E g c.st a w) (hrb:dZ g c.st.bK b) (sk:b.fn=c.f) (hd:Mk g c.st.bT a.defers) (hu:VA g w u cv) :
  Ay P E g c {b.atR a todo with mode:=cJ (some cv) false} w (vl P c u):=by
 unfold vl
 split
 · trivial
 · rename_i wh
   have wh : ∀i,c.st.bK ≠ .round i:=fun i e=>wh i e
   split
   · rename_i hmk
     split
     · rename_i fn hfn
       intro cs
       have hds:a.defers=[]:=by
        rw[hmk] at hd
        cases hq:a.defers with
        |nil=>rfl
        |cons _ _=>rw[hq] at hd;exact hd.elim
       obtain⟨hnd,lF⟩:=eE c.st.mem c.st.fix [u]
       generalize close c.st.mem c.st.fix [u]=ord at *
       obtain⟨p1,p2⟩:=hs.rel.pack hnd
       have hlen:c.st.fix≤ord.length:=by
        rcases sd c.st.fix with e | e
        · omega
        · have:=aV (lF (c.st.fix-1) (by omega));omega
       refine⟨g.pack ord,_,w,Vu _ _,⟨sk,cv,⟨rfl,hds,fn,?_⟩,hu.jo (cT.pack g ord),p1,?_⟩,?_,?_,rfl,rfl,rfl⟩
       · show P.funcs[b.fn]? = some fn
         rw[sk];exact hfn
       · show c.st.fix≤(Am.pack c.st.mem ord).length
         simpa[Am.pack] using hlen
       · exact⟨df _,fun _ _ _=>rfl,fun _ _ p=>⟨p,rfl⟩,fun _ _ p=> .inl p,fun c' ho=> .inl (p2 c' ho),rfl,rfl,rfl⟩
       · intro k c' hk dJ
         have:=lF k hk
         simp[Gh.pack,this,dJ]
     · trivial
   · rename_i gf first caps hmk
     rw[hmk] at hd
     cases hq:a.defers with
     |nil=>rw[hq] at hd;exact hd.elim
     |cons d ds=>
      rw[hq] at hd
      obtain⟨Me,hd2⟩:=hd
      cases ds with
      |nil=>exact Ej (pv:=some u) (qK:=some cv) hs hrb wh sk hq Me hu fun cs=>Vu _ _
      |cons _ _=>exact hd2.elim
   · trivial
theorem zk {c:bB} {b:Frame} {a:Act} {todo:List Item} (hs:bS E g c.st a w) (hrb:dZ g c.st.bK b) (wh : ∀i,c.st.bK ≠ .round i) (sk:b.fn=c.f) (hd:Mk g c.st.bT a.defers) {fr:Frame}
  (hst : ∀cs,Steps P (lone fr cs w) (lone {b.atR a todo with mode:= .returning} cs w)):Ay P E g c fr w (ending P c):=by
 have key : ∀m,lY c.st.bT c.st.mem=some m→Ay P E g c fr w (lX P {c with st:={c.st with mem:=m,bT:=[]}}):=by
  intro m hm
  obtain⟨w',q1,q2,q3⟩:=Ei (P:=P) (b:=b) (todo:=todo) hm hd hs
  have h1:=wD (P:=P) (E:=E) (c:={c with st:={c.st with mem:=m,bT:=[]}}) (b:=b) (a:={a with defers:=[]}) (todo:=todo) q2 hrb wh sk rfl (fr:={b.atR {a with defers:=[]} todo with mode:= .returning}) fun cs=>Vu _ _
  unfold lX at h1 ⊢
  split
  · rename_i fn hfn
    rw[hfn] at h1
    simp only at h1
    split
    · rename_i vs ok hres
      simp only[hres] at h1
      intro hok cs
      obtain⟨g',fr',w2,s1,s2,s3,s4,s5,s6,s7⟩:=h1 hok cs
      exact⟨g',fr',w2,((hst cs).trans (q1 cs)).trans s1,s2,q3.trans s3,s4,s5,s6,s7⟩
    · trivial
  · trivial
 unfold ending
 split
 · rename_i hmk
   have h:=key c.st.mem (by rw[hmk];rfl)
   have e:({c with st:={c.st with mem:=c.st.mem,bT:=[]}}:bB)=c:=by
    obtain⟨f,t,st⟩:=c
    obtain⟨tm,nt,mem,fix,bT,bK⟩:=st
    simp only at hmk
    subst hmk
    rfl
   rw[e] at h
   exact h
 · rename_i gf first caps hmk
   rw[hmk] at hd
   cases hq:a.defers with
   |nil=>rw[hq] at hd;exact hd.elim
   |cons d ds=>
    rw[hq] at hd
    obtain⟨Me,hd2⟩:=hd
    cases ds with
    |nil=>exact Ej (pv:=none) (qK:=none) hs hrb wh sk hq Me trivial hst
    |cons _ _=>exact hd2.elim
 · split
   · rename_i m hm
     exact key m hm
   · trivial
end
section
variable {P:Program} {E:Env} {g:Gh} {w:World}
theorem Ek (m:Mem) (b b':aH):(m++[b]).set m.length b'=m++[b']:=by
 rw[List.set_append_right _ _ (df _)];simp
theorem Dn {st:St} {a:Act} (h:bS E g st a w):bN g w ((upTo st.nt).map (look st.tm)) a.tmps.toList:=by
 refine aW.cS (by simp[h.nt,iV]) fun i hi hi'=> ?_
 have hu:(upTo st.nt)[i]? = some i:=we st.nt i (by simpa[iV] using hi)
 have e:((upTo st.nt).map (look st.tm))[i]=look st.tm i:=by
  have:((upTo st.nt).map (look st.tm))[i]? = some (look st.tm i):=by rw[fv,hu];rfl
  rw[dp hi] at this
  exact dE this
 rw[e]
 have:=h.tm i
 rw[PQ,ja (by simpa using hi')] at this
 simpa using this
theorem Fw {st:St} {a:Act} (hs:bS E g st a w) (f:FuncId) (ps:Array Tmp) (as bd:Code) :
  ∃g',Rel g' (dn st f ps as bd) ((w.alloc (.deferred (some []))).alloc (.loop {state:= .ready,pending:=none,fn:=f,tmps:=a.tmps,params:=ps,assign:=as,body:=bd,defers:=w.heap.size})) ∧
   Ext g w g' ((w.alloc (.deferred (some []))).alloc (.loop {state:= .ready,pending:=none,fn:=f,tmps:=a.tmps,params:=ps,assign:=as,body:=bd,defers:=w.heap.size})) ∧
   cr g st.mem w g' (dn st f ps as bd) ((w.alloc (.deferred (some []))).alloc (.loop {state:= .ready,pending:=none,fn:=f,tmps:=a.tmps,params:=ps,assign:=as,body:=bd,defers:=w.heap.size})) ∧
   g'.aP st.mem.length=some w.heap.size∧g'.aP (st.mem.length+1)=some (w.heap.size+1):=by
 obtain⟨r1,s1⟩:=hs.rel.reserve
 obtain⟨r2,e2,s2⟩:=r1.uP (i:=st.mem.length) (ob:= .E5) (l:=[]) (vs:=[]) (by simp) trivial (dX w (.deferred (some []))) ⟨rfl,rfl⟩
 rw[Ek] at r2 s2
 obtain⟨r3,s3⟩:=r2.reserve
 have hv:=(Dn hs).mono e2
 obtain⟨r4,e4,s4⟩:=r3.uP (i:=st.mem.length+1) (ob:= .loop f ps as bd .ready none) (l:=(upTo st.nt).map (look st.tm)) (vs:=a.tmps.toList)
  (by simp) hv (dX _ (.loop {state:= .ready,pending:=none,fn:=f,tmps:=a.tmps,params:=ps,assign:=as,body:=bd,defers:=w.heap.size})) ⟨w.heap.size,by simp⟩
 have hl:(st.mem++[aH.ob .E5 []]).length=st.mem.length+1:=by simp
 have SF:=Ek (st.mem++[aH.ob .E5 []]) .free (.ob (.loop f ps as bd .ready none) ((upTo st.nt).map (look st.tm)))
 rw[hl] at SF
 rw[SF] at r4 s4
 refine⟨_,r4,e2.trans e4,s1.trans (s2.trans (s3.trans s4)),?_,?_⟩
 · have:=(e4.aP st.mem.length w.heap.size (by simp[Gh.put])).1
   exact this
 · simp[Gh.put]
theorem ym {a:Act} {x:Operand} {f:FuncId} {fa ca:Array Value} {l:Nat} (hx:a.eval x = .func (.func f) fa ca)
  {fn:Func} (hf:P.funcs[f]? = some fn) (hb:fn.body.isSome=true) (hn:(fn.name == "runtime.NumGoroutine")=false) :
  ∃d,(resolve a.eval (rangeCall x l) 0).run P w = .ok d w∧(invoke d.target d.args).run P w = .ok (.enter f (fa ++ #[.func (.yield l) #[] #[]]++ca)) w:=by
 have On:fn.body.isNone=false:=by cases hq:fn.body<;>simp_all
 refine⟨{target:= .fn (.func f) ca,args:=fa ++ #[.func (.yield l) #[] #[]]},?_,?_⟩
 · simp only[resolve,hx,Deferred.ofValue,lh]
   have e:Array.map a.eval #[Operand.const (Value.func (Fn.yield l) #[] #[])] = #[Value.func (Fn.yield l) #[] #[]]:=by simp[Act.eval]
   rw[e]
 · simp only[invoke,callFunc,la,run_program,lj,hf,hn,rh,if_false,On,lh]
theorem B7 {m m':Mem} {L l:Nat} {pd:Option Code} (h:Rel g m w) (hl:g.aP L=some l) (he:fT m L=some (m',pd)) :
  ∃w',(Instr.endLoop l).run P w = .ok pd w'∧Rel g m' w'∧Ext g w g w'∧cr g m w g m' w':=by
 unfold fT at he
 split at he
 · rename_i f ps as bd st El vals hb
   have hib:=getD_some hb (by simp)
   obtain⟨c,ob,vs,k1,k2,k3,k4,_⟩:=h.obs L _ _ hib
   rw[hl] at k1;cases k1
   obtain⟨D,rfl⟩:=k4
   have fin:st ≠ .busy→some (m.set L (.ob (.loop f ps as bd .exhausted El) vals),El)=some (m',pd) → ∃w',(Instr.endLoop l).run P w = .ok pd w'∧Rel g m' w'∧Ext g w g w'∧cr g m w g m' w':=by
    intro hst e
    simp only[dC,kz] at e
    obtain⟨rfl,rfl⟩:=e
    obtain⟨e1,e2,e3⟩:=cI w (o':= .loop {state:= .exhausted,pending:=El,fn:=f,tmps:=vs.toArray,params:=ps,assign:=as,body:=bd,defers:=D}) k2
    obtain⟨r1,r2,r3⟩:=h.eX (xQ:= .loop f ps as bd .exhausted El) (l':=vals) (vs':=vs) hib hl e1 e2 rfl rfl rfl e3 ⟨D,rfl⟩ k3
    exact⟨_,run_endLoop k2 hst,r1,r2,r3⟩
   cases st with
   |busy=>cases he
   |ready=>exact fin (fun e=>by cases e) he
   |done=>exact fin (fun e=>by cases e) he
   |exhausted=>exact fin (fun e=>by cases e) he
 · cases he
theorem G7 {st:St} {a:Act} {b:Frame} {k:List Item} {x:Operand} {ps:Array Tmp} {as bd:Code} {gf:FuncId} {first captured:List AV} {v:AV} {m1 m2:Mem} {pd:Option Code}
  (hs:bS E g st a w) (hr:b.roundOf=none) (hd:Mk g st.bT a.defers) (hx:ev E st.tm x = .fn (.func gf) first captured)
  (hlt:iP (close (dn st b.fn ps as bd) 0 (first++[.vy (st.mem.length+1)]++captured)) (dn st b.fn ps as bd).length=true)
  (eY:aG P E gf (eA (idx (close (dn st b.fn ps as bd) 0 (first++[.vy (st.mem.length+1)]++captured))) (first++[.vy (st.mem.length+1)]++captured))
    (pack (dn st b.fn ps as bd) (close (dn st b.fn ps as bd) 0 (first++[.vy (st.mem.length+1)]++captured))) v m1)
  (hend:fT (back (close (dn st b.fn ps as bd) 0 (first++[.vy (st.mem.length+1)]++captured)) none {st with mem:=dn st b.fn ps as bd} v m1).mem (st.mem.length+1)=some (m2,pd)) :
  ∀cs,∃g' a' w',Steps P (lone (b.atR a (.code (.rangeFunc x ps as bd)::k)) cs w) (lone (b.atR a' ((pd.map Item.code).toList++k)) cs w') ∧
   Mk g' (.range st.mem.length::st.bT) a'.defers∧bS E g' {st with mem:=m2,bT:= .range st.mem.length::st.bT} a' w'∧cr g st.mem w g' m2 w'∧bn g g' st.fix ∧ ∀i c,g.aP i=some c→g'.aP i=some c:=by
 intro cs
 obtain⟨g1,r1,e1,s1,d1,d2⟩:=Fw hs b.fn ps as bd
 generalize hM:dn st b.fn ps as bd=M at *
 generalize hW:(w.alloc (.deferred (some []))).alloc (.loop {state:= .ready,pending:=none,fn:=b.fn,tmps:=a.tmps,params:=ps,assign:=as,body:=bd,defers:=w.heap.size})=W at *
 have UK:st.mem.length+2≤M.length:=by rw[←hM];simp[dn]
 have x8:=fY hs x
 rw[hx,VA.fns] at x8
 obtain⟨fa,ca,x8,za,hca⟩:=x8
 obtain⟨⟨fn,JE,Dd,GY⟩,eY⟩:=eY
 obtain⟨d,hres,hinv⟩:=ym (P:=P) (w:=W) (l:=w.heap.size+1) x8 JE Dd GY
 have Dm:=stepR_rangeFunc (P:=P) (b:=b) (a:=a) (k:=k) (cs:=cs) (w:=w) (g:=x) (ps:=ps) (assign:=as) (body:=bd) (w₁:=W) (by rw[hr,←hW];exact run_enterLoop_outer _ _ _ _ _) hres hinv
 have hargs:bN g1 W (first++[.vy (st.mem.length+1)]++captured) (fa ++ #[Value.func (.yield (w.heap.size+1)) #[] #[]]++ca).toList:=by
  simp only[U5]
  have hy:bN g1 W [.vy (st.mem.length+1)] [Value.func (.yield (w.heap.size+1)) #[] #[]]:=⟨.vy _ _ d2,trivial⟩
  exact((za.mono e1).append hy).append (hca.mono e1)
 generalize first++[.vy (st.mem.length+1)]++captured=args at *
 obtain⟨hnd,_⟩:=eE M 0 args
 generalize close M 0 args=ord at *
 obtain⟨GQ,C9⟩:=r1.pack hnd
 have mj:=cT.pack g1 ord
 have OC:fP E g1 W:=hs.cL.mono e1.pure
 obtain⟨w',g',cv,fr,q1,q2,q3,q4,q5,q6,q7,q8⟩:=eY (g1.pack ord) W _ (b.atR {a with defers:=[{target:= .collected w.heap.size,args:= #[]}]++a.defers} (.inRangeFunc (w.heap.size+1)::k)::cs) GQ
  (bN.jo mj hargs) (OC.mono fun _ _ p=>⟨p,rfl⟩)
 have hlen:(Am.pack M ord).length=ord.length:=by simp[Am.pack]
 rw[hlen] at q7 q8
 obtain⟨r2,e2,s2,r4⟩:=r1.back hnd (fH hlt) q5 q6 q7 q8
 have hmem:(back ord none {st with mem:=M} v m1).mem=cQ (bf ord M.length) ord m1 M:=rfl
 rw[hmem] at hend
 have hL:(g1.back g' ord M.length).aP (st.mem.length+1)=some (w.heap.size+1):=(e2.aP _ _ d2).1
 obtain⟨w2,f1,f2,f3,f4⟩:=B7 (P:=P) r2 hL hend
 have hleave:=step_leave_returned (P:=P) (c:=b.atR {a with defers:=[{target:= .collected w.heap.size,args:= #[]}]++a.defers} (.inRangeFunc (w.heap.size+1)::k)) (cs:=cs) q2
 rw[finish_atR_inRangeFunc] at hleave
 have B8:Ext g w (g1.back g' ord M.length) w2:=(e1.trans e2).trans f3
 have hm2:st.fix≤m2.length:=by
  have tB:=dH (bf ord M.length) ord m1 M q8
  have JB:m2.length=(cQ (bf ord M.length) ord m1 M).length:=by
   unfold fT at hend
   split at hend
   · split at hend
     · cases hend
     · simp only[dC,kz] at hend
       obtain⟨rfl,_⟩:=hend
       simp
   · cases hend
  have:=hs.fix
  omega
 refine⟨g1.back g' ord M.length,{a with defers:=[{target:= .collected w.heap.size,args:= #[]}]++a.defers},w2,.head Dm (q1.trans (.head hleave (.one (stepR_endRangeFunc f1)))),?_,?_,s1.trans (s2.trans f4),bn.qJ B8 _,fun i c q=>(B8.aP i c q).1⟩
 · exact⟨⟨w.heap.size,(e2.aP _ _ d1).1,rfl⟩,hd.ext fun i c q=>(B8.aP i c q).1⟩
 · exact⟨fun j=>(hs.tm j).mono B8,hs.nt,f2,hm2,hs.cL.mono B8.pure⟩
end
section
variable {P:Program} {E:Env} {g:Gh} {w:World}
theorem dh {id:Nat} : ∀{k k':List It},bQ id k=some k'→exitTo id (dz k)=some (dz k')
 |[],_,h=>by simp[bQ] at h
 |.inBlock i::k,k',h=>by
  simp only[bQ] at h
  cases hb:be i id with
  |true=>
   simp only[hb,cond_true,dC] at h;subst h
   have:=bm hb
   subst this
   simp[dz,er,exitTo]
  |false=>
   simp only[hb,cond_false] at h
   have hne:(i==id)=false:=by
    rw[beq_eq_false_iff_ne];intro e;subst e;simp[Hm] at hb
   simp only[dz,er,Vw,Vl,exitTo,hne,rh,if_false]
   exact dh h
 |.code _ _::k,k',h=>by
  simp only[bQ] at h
  simpa[dz,er,exitTo] using dh h
 |.ops _ _ _ _::k,k',h=>by
  simp only[bQ] at h
  simpa[dz,er,exitTo] using dh h
 |.inLoop _ _::k,k',h=>by
  simp only[bQ] at h
  simpa[dz,er,exitTo] using dh h
 |.forget _::k,k',h=>by
  simp only[bQ] at h
  simpa[dz,er] using dh h
 |.fin::k,k',h=>by
  simp only[bQ] at h
  simpa[dz,er] using dh h
 |.xP _::k,k',h=>by
  simp only[bQ] at h
  simpa[dz,er] using dh h
 |.gW _::k,k',h=>by
  simp only[bQ] at h
  simpa[dz,er] using dh h
 |.leave::k,k',h=>by
  simp only[bQ] at h
  simpa[dz,er] using dh h
 |.begin::k,k',h=>by
  simp only[bQ] at h
  simpa[dz,er,exitTo] using dh h
 |.inScope _::k,k',h=>by
  simp only[bQ] at h
  simpa[dz,er,exitTo] using dh h
theorem cM {id:Nat} : ∀{k:List It},bQ id k=none→exitTo id (dz k)=none
 |[],_=>rfl
 |.inBlock i::k,h=>by
  simp only[bQ] at h
  cases hb:be i id with
  |true=>simp[hb] at h
  |false=>
   simp only[hb,cond_false] at h
   have hne:(i==id)=false:=by
    rw[beq_eq_false_iff_ne];intro e;subst e;simp[Hm] at hb
   simp only[dz,er,Vw,Vl,exitTo,hne,rh,if_false]
   exact cM h
 |.code _ _::k,h=>by
  simp only[bQ] at h
  simpa[dz,er,exitTo] using cM h
 |.ops _ _ _ _::k,h=>by
  simp only[bQ] at h
  simpa[dz,er,exitTo] using cM h
 |.inLoop _ _::k,h=>by
  simp only[bQ] at h
  simpa[dz,er,exitTo] using cM h
 |.forget _::k,h=>by
  simp only[bQ] at h
  simpa[dz,er] using cM h
 |.fin::k,h=>by
  simp only[bQ] at h
  simpa[dz,er] using cM h
 |.xP _::k,h=>by
  simp only[bQ] at h
  simpa[dz,er] using cM h
 |.gW _::k,h=>by
  simp only[bQ] at h
  simpa[dz,er] using cM h
 |.leave::k,h=>by
  simp only[bQ] at h
  simpa[dz,er] using cM h
 |.begin::k,h=>by
  simp only[bQ] at h
  simpa[dz,er,exitTo] using cM h
 |.inScope _::k,h=>by
  simp only[bQ] at h
  simpa[dz,er,exitTo] using cM h
theorem dj {l:Nat} : ∀{k k':List It},eo l k=some k'→gotoIn l (dz k)=some (dz k')
 |[],_,h=>by simp[eo] at h
 |.inScope b::k,k',h=>by
  simp only[eo] at h
  simp only[dz,er,Vw,Vl,gotoIn]
  cases hf:findLabel b l with
  |some rest=>
   simp only[hf,dC] at h;subst h
   rfl
  |none=>
   simp only[hf] at h
   exact dj h
 |.code _ _::k,k',h=>by
  simp only[eo] at h
  simpa[dz,er,gotoIn] using dj h
 |.ops _ _ _ _::k,k',h=>by
  simp only[eo] at h
  simpa[dz,er,gotoIn] using dj h
 |.inBlock _::k,k',h=>by
  simp only[eo] at h
  simpa[dz,er,gotoIn] using dj h
 |.inLoop _ _::k,k',h=>by
  simp only[eo] at h
  simpa[dz,er,gotoIn] using dj h
 |.forget _::k,k',h=>by
  simp only[eo] at h
  simpa[dz,er] using dj h
 |.fin::k,k',h=>by
  simp only[eo] at h
  simpa[dz,er] using dj h
 |.xP _::k,k',h=>by
  simp only[eo] at h
  simpa[dz,er] using dj h
 |.gW _::k,k',h=>by
  simp only[eo] at h
  simpa[dz,er] using dj h
 |.leave::k,k',h=>by
  simp only[eo] at h
  simpa[dz,er] using dj h
 |.begin::k,k',h=>by
  simp only[eo] at h
  simpa[dz,er,gotoIn] using dj h
theorem pO {l:Nat} : ∀{k k':List It},(∀x∈k,It.pl x)→eo l k=some k' → ∀x∈k',It.pl x
 |[],_,_,h=>by simp[eo] at h
 |x::k,k',hf,h=>by
  have ht : ∀y∈k,It.pl y:=fun y hy=>hf y (.tail _ hy)
  cases x with
  |inScope b=>
   simp only[eo] at h
   cases hl:findLabel b l with
   |some rest=>
    simp only[hl,dC] at h;subst h
    intro y hy
    cases hy with
    |head=>exact trivial
    |tail _ hy=>exact hf y hy
   |none=>
    simp only[hl] at h
    exact pO ht h
  |_=>simp only[eo] at h;exact pO ht h
theorem pP {id:Nat} : ∀{k k':List It},(∀x∈k,It.pl x)→bQ id k=some k' → ∀x∈k',It.pl x
 |[],_,_,h=>by simp[bQ] at h
 |x::k,k',hf,h=>by
  have ht : ∀y∈k,It.pl y:=fun y hy=>hf y (.tail _ hy)
  cases x with
  |inBlock i=>
   simp only[bQ] at h
   cases hb:be i id with
   |true=>simp only[hb,cond_true,dC] at h;subst h;exact ht
   |false=>simp only[hb,cond_false] at h;exact pP ht h
  |_=>simp only[bQ] at h;exact pP ht h
theorem B9 {g':Gh} {ρ:Nat→Option Nat} {f:Nat→Value} : ∀(keep:List Nat) (tm:rM),(∀k,VA g' w (jo ρ (look tm k)) (f k)) → ∀k,VA g' w (look (keep.zip (eA ρ (keep.map (look tm)))) k) (f k)
 |[],tm,_,k=> .af _
 |i::keep,tm,h,k=>by
  simp only[List.map_cons,eA,Vx,jx]
  by_cases e:i=k
  · subst e;simp only[if_true];exact h i
  · simp only[e,if_false];exact B9 keep tm h k
theorem pQ {keep:List Nat} {st:St}:(forget keep st).bK=st.bK:=by
 obtain⟨tm,nt,mem,fix,bT,bK⟩:=st
 cases bT with
 |cons i l=>rfl
 |nil=>cases bK<;>rfl
theorem ud {keep:Option (List Nat)} {st:St}:(iJ keep st).bK=st.bK:=by
 cases keep with
 |none=>rfl
 |some keep=>exact pQ
theorem sw {st:St} {a:Act} (h:bS E g st a w) (keep:List Nat) : ∃g',bS E g' (forget keep st) a w∧cr g st.mem w g' (forget keep st).mem w∧bn g g' st.fix∧(forget keep st).fix=st.fix∧(∀ds,Mk g st.bT ds→Mk g' (forget keep st).bT ds) ∧ ∀b,dZ g st.bK b→dZ g' (forget keep st).bK b:=by
 obtain⟨tm,nt,mem,fix,bT,bK⟩:=st
 have stay:forget keep ⟨tm,nt,mem,fix,bT,bK⟩=⟨tm,nt,mem,fix,bT,bK⟩→_:=fun this=>(show ∃g',bS E g' (forget keep ⟨tm,nt,mem,fix,bT,bK⟩) a w∧cr g mem w g' (forget keep ⟨tm,nt,mem,fix,bT,bK⟩).mem w∧bn g g' fix∧(forget keep ⟨tm,nt,mem,fix,bT,bK⟩).fix=fix∧(∀ds,Mk g bT ds→Mk g' (forget keep ⟨tm,nt,mem,fix,bT,bK⟩).bT ds) ∧ ∀b,dZ g bK b→dZ g' (forget keep ⟨tm,nt,mem,fix,bT,bK⟩).bK b from by
  rw[this]
  exact⟨g,h,cr.refl _ _ _,bn.refl _ _,rfl,fun _ q=>q,fun _ q=>q⟩)
 cases bT with
 |cons i bT=>exact stay rfl
 |nil=>
  cases bK with
  |round i=>exact stay rfl
  |late=>exact stay rfl
  |call=>
   obtain⟨hnd,lF⟩:=eE mem fix (keep.map (look tm))
   obtain⟨h1,h2⟩:=h.rel.pack hnd
   have hlen:fix≤(close mem fix (keep.map (look tm))).length:=by
    rcases sd fix with e | e
    · omega
    · have:=aV (lF (fix-1) (by omega));omega
   refine⟨g.pack (close mem fix (keep.map (look tm))),⟨B9 keep tm fun k=>(h.tm k).jo (cT.pack g _),h.nt,h1,?_,h.cL.mono fun _ _ p=>⟨p,rfl⟩⟩,?_,?_,rfl,?_,fun _ q=>q⟩
   · show fix≤(Am.pack mem _).length
     simpa[Am.pack] using hlen
   · exact⟨df _,fun _ _ _=>rfl,fun _ _ p=>⟨p,rfl⟩,fun _ _ p=> .inl p,fun c ho=> .inl (h2 c ho),rfl,rfl,rfl⟩
   · intro k c hk hc
     have:=lF k hk
     simp[Gh.pack,this,hc]
   · intro ds hd
     cases ds with
     |nil=>exact trivial
     |cons _ _=>exact hd.elim
theorem wG {st:St} {a:Act} (h:bS E g st a w) (keep:Option (List Nat)) : ∃g',bS E g' (iJ keep st) a w∧cr g st.mem w g' (iJ keep st).mem w∧bn g g' st.fix∧(iJ keep st).fix=st.fix∧(∀ds,Mk g st.bT ds→Mk g' (iJ keep st).bT ds) ∧ ∀b,dZ g st.bK b→dZ g' (iJ keep st).bK b:=by
 cases keep with
 |none=>exact⟨g,h,cr.refl _ _ _,bn.refl _ _,rfl,fun _ q=>q,fun _ q=>q⟩
 |some keep=>exact sw h keep
theorem nK (keep:Option (List Nat)) (k:List It):dz (eC keep k)=dz k:=by cases keep<;>rfl
theorem nL {keep:Option (List Nat)} {k:List It} (h : ∀x∈k,It.pl x) : ∀x∈eC keep k,It.pl x:=by
 cases keep with
 |none=>exact h
 |some keep=>
  intro x hx
  cases hx with
  |head=>exact trivial
  |tail _ hx=>exact h x hx
theorem wH {st:St} {a:Act} {i l:Nat} {f:FuncId} {ps:Array Tmp} {as bd:Code} {s s':LoopState} {pd El:Option Code} {vals:List AV}
  (h:bS E g st a w) (hl:g.aP i=some l) (hb:st.mem.getD i .dead = .ob (.loop f ps as bd s pd) vals) :
  ∃r:Loop,w.heap[l]? = some (.loop r)∧r.state=s ∧
   Rel g (st.mem.set i (.ob (.loop f ps as bd s' El) vals)) (w.putObj l (.loop {r with state:=s',pending:=El})) ∧
   Ext g w g (w.putObj l (.loop {r with state:=s',pending:=El})) ∧
   cr g st.mem w g (st.mem.set i (.ob (.loop f ps as bd s' El) vals)) (w.putObj l (.loop {r with state:=s',pending:=El})) ∧
   cA g st.mem l:=by
 have hib:=getD_some hb (by simp)
 obtain⟨c,ob,vs,k1,k2,k3,k4,_⟩:=h.rel.obs i _ _ hib
 rw[hl] at k1;cases k1
 obtain⟨D,rfl⟩:=k4
 obtain⟨e1,e2,e3⟩:=cI w (o':= .loop {state:=s',pending:=El,fn:=f,tmps:=vs.toArray,params:=ps,assign:=as,body:=bd,defers:=D}) k2
 obtain⟨r1,r2,r3⟩:=h.rel.eX (xQ:= .loop f ps as bd s' El) (l':=vals) (vs':=vs) hib hl e1 e2 rfl rfl rfl e3 ⟨D,rfl⟩ k3
 exact⟨_,k2,rfl,r1,r2,r3,i,_,hib,rfl,hl⟩
theorem nM {c:bB} {b:Frame} {a:Act} {i l:Nat} {jump:Option Code} {todo:List Item} (hs:bS E g c.st a w) (TD:c.st.bK = .round i) (hl:g.aP i=some l) (sk:b.fn=c.f)
  (hst : ∀(v:Value) (w':World),(Instr.endRound l jump).run P w = .ok v w' → ∀(d:Frame) (cs:List Frame),_root_.Go.step P (lone (b.atR a todo) (d::cs) w) = .next (lone (d.finish v) cs w')) :
  Ay P E g c (b.atR a todo) w (m5 c i jump):=by
 unfold m5
 split
 · rename_i f ps as bd s pd vals hb
   dsimp only
   cases hlt:bx i c.st.fix with
   |false=>trivial
   |true=>
   rw[Nat.blt_eq] at hlt
   intro cs
   obtain⟨r,q1,_,q2,q3,q4,q5⟩:=wH (s':=fm jump) (El:=jump) hs hl hb
   have hrun:=run_endRound (P:=P) jump q1
   have Mf:(if jump.isNone then LoopState.ready else .done)=(fm jump):=by cases jump<;>rfl
   rw[Mf] at hrun
   generalize hm:c.st.mem.set i (.ob (.loop f ps as bd (fm jump) jump) vals)=m at *
   obtain⟨hnd,lF⟩:=eE m c.st.fix []
   generalize G2:close m c.st.fix []=ord at *
   obtain⟨p1,p2⟩:=q2.pack hnd
   have hlen:c.st.fix≤ord.length:=by
    rcases sd c.st.fix with e | e
    · omega
    · have:=aV (lF (c.st.fix-1) (by omega));omega
   have own : ∀c',cA (g.pack ord) (Am.pack m ord) c'→cA g c.st.mem c':=fun c' ho=>(q4.owned c' (p2 c' ho)).elim id fun hh=>by
    have h1:=q2.fV (p2 c' ho)
    rw[World.putObj_size] at h1
    omega
   refine⟨g.pack ord,_,w,Vu _ _,⟨sk,.bool jump.isNone,_,?_,.p _ _ (.sc _),p1,?_,?_⟩,?_,?_,rfl,rfl,rfl⟩
   · show Fk P c.st.bK _ w _ _
     rw[TD]
     exact fun d cs=> .one (hst _ _ hrun d cs)
   · have TE:cA (g.pack ord) (Am.pack m ord) l:=by
      have hi:=lF i hlt
      have QX:m[i]? = some (.ob (.loop f ps as bd (fm jump) jump) vals):=by
       rw[←hm,oT (aV (getD_some hb (by simp)))]
      refine⟨i,gw (idx ord) (.ob (.loop f ps as bd (fm jump) jump) vals),?_,rfl,by simp[Gh.pack,hi,hl]⟩
      unfold Am.pack
      rw[fv,hi]
      simp[dt,QX]
     exact⟨by simp,fun c' _ hno=>World.putObj_heap_other fun e=>hno (e▸TE),fun c' o p=>⟨p,(q4.pure c' o p).2⟩,fun _ _ p=> .inl p,fun _ ho=> .inl ho,rfl,rfl,rfl⟩
   · show c.st.fix≤(Am.pack m ord).length
     simpa[Am.pack] using hlen
   · exact⟨df _,fun _ _ _=>rfl,fun _ _ p=>⟨p,rfl⟩,fun _ _ p=> .inl p,fun c' ho=> .inl (own c' ho),rfl,rfl,rfl⟩
   · intro k c' hk dJ
     have:=lF k hk
     simp[Gh.pack,this,dJ]
 · trivial
theorem hG {c:bB} {fr:Frame} (h:cm P E g c fr w):Ay P E g c fr w (Am.step P E c):=by
 obtain⟨f,todo,st⟩:=c
 cases todo with
 |nil=>
  obtain⟨b,a,rfl,h1,h2,h3,h4,_⟩:=h
  simp only[Am.step]
  split
  · rename_i i hr
    rw[hr] at h2
    obtain⟨hk,l,hl,hro⟩:=h2
    exact nM (c:=⟨f,[],st⟩) h4 hr hl h1 fun v w' hrun d cs=>stepR_round_end hro hk hrun
  · rename_i wh
    have wh : ∀i,st.bK ≠ .round i:=fun i e=>wh i e
    exact zk (c:=⟨f,[],st⟩) (b:=b) (a:=a) (todo:=[]) h4 h2 wh h1 h3 fun cs=> .one (stepR_end (h2.Ax wh))
 |cons x k=>
  by_cases nD:It.pl x
  case neg=>
   cases x with
   |fin=>
    obtain⟨h1,cv,w2,h2,h3,h4,h6,h5⟩:=h
    exact⟨h1,rfl,cv,w2,h2,h3,h4,h6,h5⟩
   |xP u=>
    obtain⟨h1,cv,h2,h3,h4,h5⟩:=h
    exact⟨h1,rfl,cv,h2,h3,h4,h5⟩
   |gW u=>
    obtain⟨b,a,todo,cv,rfl,h1,h2,h3,h4,h5⟩:=h
    exact Fv (c:=⟨f,.gW u::k,st⟩) h4 h2 h1 h3 h5
   |leave=>
    obtain⟨b,a,todo,rfl,h1,h2,h3,_,h5,h6⟩:=h
    exact wD (c:=⟨f,.leave::k,st⟩) (b:=b) (a:=a) (todo:=todo) h6 h2 h3 h1 h5 fun cs=>Vu _ _
   |_=>exact absurd trivial nD
  have h' : ∃(b:Frame) (a:Act),fr=b.atR a (er x++dz k)∧b.fn=f∧dZ g st.bK b∧Mk g st.bT a.defers∧bS E g st a w ∧ ∀y∈x::k,It.pl y:=by
   cases x<;>first
    |exact absurd nD id
    |exact h
  obtain⟨b,a,rfl,h1,h2,h3,h4,TF⟩:=h'
  have hk : ∀y∈k,It.pl y:=fun y hy=>TF y (.tail _ hy)
  clear h
  cases x with
  |fin=>exact absurd nD id
  |xP u=>exact absurd nD id
  |gW u=>exact absurd nD id
  |leave=>exact absurd nD id
  |begin=>
   simp only[Am.step]
   split
   · rename_i i hr
     unfold vn
     split
     · rename_i f' ps as bd pd vals hb
       intro cs
       have h2':=h2
       rw[hr] at h2'
       obtain⟨_,l,hl,hro⟩:=h2'
       obtain⟨r,q1,q0,q2,q3,q4,_⟩:=wH (s':= .busy) (El:=pd) h4 hl hb
       have hp:r.pending=pd:=by
        have hib:=getD_some hb (by simp)
        obtain⟨c,ob,vs,k1,k2,k3,k4,_⟩:=h4.rel.obs i _ _ hib
        rw[hl] at k1;cases k1
        obtain⟨D,rfl⟩:=k4
        rw[q1] at k2;cases k2
        rfl
       have hrun:=run_beginRound (P:=P) q1 q0
       rw[show({r with state:= .busy}:Loop)={r with state:= .busy,pending:=pd} by rw[←hp]] at hrun
       refine⟨g,_,_,.one (stepR_beginRound hro hrun),cm.mk (a:=a) (c:=⟨f,k,{st with mem:=st.mem.set i (.ob (.loop f' ps as bd .busy pd) vals)}⟩) hk h1 h2 h3 ⟨fun j=>(h4.tm j).mono q3,h4.nt,q2,by simpa using h4.fix,h4.cL.mono q3.pure⟩,q4,bn.refl _ _,rfl,rfl,rfl⟩
     · trivial
   · trivial
  |inScope bd=>exact ef.quiet (fun cs=> .one (step_lone_go (by simp[stepG,stepG.exec,U1,er]))) hk h1 rfl h2 h3 h4 rfl rfl
  |inBlock id=>exact ef.quiet (fun cs=> .one stepR_inBlock) hk h1 rfl h2 h3 h4 rfl rfl
  |forget keep=>
   intro cs
   obtain⟨g',q1,q2,q3,q4,q5,q6⟩:=sw h4 keep
   exact⟨g',_,w,Vu _ _,cm.mk (c:=⟨f,k,forget keep st⟩) hk h1 (q6 _ h2) (q5 _ h3) q1,q2,q3,rfl,q4,pQ⟩
  |inLoop i body=>
   intro cs
   obtain⟨g',q1,q2,q3,q4,q5,q6⟩:=wG h4 (E.keep f (2*i))
   exact⟨g',_,w,.one stepR_inLoop,cm.mk (c:=⟨f,.code (i+1) body :: .inLoop i body::k,iJ (E.keep f (2*i)) st⟩) (nf trivial (nf trivial hk)) h1 (q6 _ h2) (q5 _ h3) q1,q2,q3,rfl,q4,ud⟩
  |ops bL ops i sure=>
   simp only[Am.step]
   cases ho:ops[i]? with
   |none=>
    have hi:ops.size-i=0:=by
     have:ops.size≤i:=by
      rcases ik i ops.size with q | q
      · rw[ja q] at ho;cases ho
      · exact q
     omega
    refine ef.quiet (c':=⟨f,k,st⟩) (fun cs=> .one ?_) hk h1 rfl h2 h3 h4 rfl rfl
    simp only[er,hi,List.range'_zero,Vw,Vl]
    exact stepR_region_end
   |some o=>
    obtain⟨w1,w2,w3⟩:=oF h4 (ops:=ops) (o:=o)
    have hi:i<ops.size:=by
     rcases ik i ops.size with q | q
     · exact q
     · rw[U4 q] at ho;cases ho
    have skip:Region.wanted o (yielded ops a.tmps)=false→fits st o.dst=true→ef P E g ⟨f,.ops bL ops i sure::k,st⟩ (b.atR a (er (.ops bL ops i sure)++dz k)) w ⟨f,.ops bL ops (i+1) false::k,put st o.dst (.bk [])⟩:=by
     intro hw hf cs
     have hst:=stepR_op_skip (P:=P) (b:=b) (a:=a) (k:=dz k) (cs:=cs) (w:=w) (ops:=ops) (i:=i) (rest:=Pl (i+1) (ops.size-(i+1))) (by simp[ho,hw])
     simp only[ho,Option.bind_some] at hst
     rw[←nC hi] at hst
     have hp:=h4.put (v:= .bk []) (cv:=undef) hf (VA.je.2 trivial) (Ext.refl g w) h4.rel h4.fix
     refine⟨g,_,w,.one hst,cm.mk (a:=a.put o.dst undef) (c:=⟨f,.ops bL ops (i+1) false::k,put st o.dst (.bk [])⟩) (nf trivial hk) h1 (h2.put (Ext.refl g w) rfl) (h3.put (Ext.refl g w) rfl) hp,?_,bn.refl _ _,rfl,?_,iK⟩
     · have:(put st o.dst (.bk [])).mem=st.mem:=by unfold Am.put;cases o.dst<;>rfl
       show cr g st.mem w g (put st o.dst (.bk [])).mem w
       rw[this];exact cr.refl _ _ _
     · show(put st o.dst (.bk [])).fix=st.fix
       unfold Am.put;cases o.dst<;>rfl
    dsimp only
    cases Fo:dP ops st.tm o with
    |yes=>exact Eg (c:=⟨f,.ops bL ops i sure::k,st⟩) h4 h1 h2 h3 ho (w1 Fo) hk
    |no=>
     dsimp only
     cases hf:fits st o.dst with
     |false=>trivial
     |true=>exact skip (w2 Fo) hf
    |lost=>trivial
    |ask d bb want=>
     obtain⟨q1,q2⟩:=w3 d bb want Fo
     dsimp only
     cases sure with
     |false=>
      have known : ∀b':Bool,bb=b'→ef P E g ⟨f,.ops bL ops i false::k,st⟩ (b.atR a (er (.ops bL ops i false)++dz k)) w ⟨f,.ops bL ops i true::k,put st (some d) (sB b')⟩:=by
       intro b' e
       subst e
       refine ef.quiet (c':=⟨f,.ops bL ops i true::k,put st (some d) (sB bb)⟩) (fun cs=>Vu _ _) (nf trivial hk) h1 rfl h2 h3 (h4.known ?_) rfl rfl
       rw[q2];exact .p _ _ (.sc _)
      exact⟨known true,known false⟩
     |true=>
      dsimp only
      cases hb:bb==want with
      |true=>exact Eg (c:=⟨f,.ops bL ops i true::k,st⟩) h4 h1 h2 h3 ho (q1.trans hb) hk
      |false=>
       dsimp only
       cases hf:fits st o.dst with
       |false=>trivial
       |true=>exact skip (q1.trans hb) hf
  |code i code=>
   cases code with
   |skip=>exact ef.quiet (c':=⟨f,k,st⟩) (fun cs=> .one stepR_skip) hk h1 rfl h2 h3 h4 rfl rfl
   |region id ops draw=>
    cases draw with
    |true=>
     simp only[Am.step]
     split
     · rename_i st' ok hq
       intro hok cs
       subst hok
       obtain⟨g',a',w',r1,r2,r3,r4,r5,r6,r7⟩:=JI (b:=b) (k:=dz k) h4 hq
       refine⟨g',_,w',r1 cs,cm.mk (a:=a') (c:=⟨f,k,{st' with bT:=st.bT,bK:=st.bK}⟩) hk h1 (h2.ext r7) (by rw[r2];exact h3.ext r7) ⟨r3.tm,r3.nt,r3.rel,r3.fix,r3.cL⟩,r4,r5,rfl,r6,rfl⟩
     · split
       · rename_i Rb hq
         obtain⟨st',hm,g',a',w',r1,r2,r3,r4,r5,r6,r7⟩:=JP (b:=b) (k:=dz k) (bL:=id) h4 hq
         intro cs
         exact⟨_,gg.2 ⟨st',hm,rfl⟩,g',_,w',r1 cs,cm.mk (a:=a') (c:=⟨f,k,{st' with bT:=st.bT,bK:=st.bK}⟩) hk h1 (h2.ext r7) (by rw[r2];exact h3.ext r7) ⟨r3.tm,r3.nt,r3.rel,r3.fix,r3.cL⟩,r4,r5,rfl,r6,rfl⟩
       intro O st' hO hq cs
       obtain⟨g',a',w',r1,r2,r3,r4,r5,r6,r7⟩:=Mc (b:=b) (k:=k) hO h4 hq cs
       have hk' : ∀y∈iG id ops k,It.pl y:=by
        unfold iG
        cases rR ops with
        |false=>exact hk
        |true=>exact nf trivial hk
       exact⟨g',_,w',r1,cm.mk (a:=a') (c:=⟨f,iG id ops k,{st' with bT:=st.bT,bK:=st.bK}⟩) hk' h1 (h2.ext r7) (by rw[r2];exact h3.ext r7) ⟨r3.tm,r3.nt,r3.rel,r3.fix,r3.cL⟩,r4,r5,rfl,r6,rfl⟩
    |false=>
     refine ef.quiet (c':=⟨f,.ops id ops 0 false::k,st⟩) (fun cs=> .one ?_) (nf trivial hk) h1 rfl h2 h3 h4 rfl rfl
     have:=stepR_region (P:=P) (b:=b) (a:=a) (k:=dz k) (cs:=cs) (w:=w) (ops:=ops) (id:=id)
     simpa[dz,er,Vv] using this
   |seq x y=>exact ef.quiet (c':=⟨f,.code i x :: .code (i+nodes x) y::k,st⟩) (fun cs=> .one stepR_seq) (nf trivial (nf trivial hk)) h1 rfl h2 h3 h4 rfl rfl
   |cond x y z=>
    simp only[Am.step]
    split
    · rename_i t hx
      have hv:=fY h4 x
      rw[hx,VA.pv] at hv
      generalize hz:a.eval x=cv at hv
      cases hv
      refine⟨fun e=> ?_,fun e=> ?_⟩<;>subst e
      · refine ef.quiet (c':=⟨f,.code (i+1) y::eC (E.keep f (2*i)) k,st⟩) (fun cs=> .one ?_) (nf trivial (nL hk)) h1 rfl h2 h3 h4 rfl rfl
        simp only[dz,nK];exact stepR_cond hz
      · refine ef.quiet (c':=⟨f,.code (i+1+nodes y) z::eC (E.keep f (2*i)) k,st⟩) (fun cs=> .one ?_) (nf trivial (nL hk)) h1 rfl h2 h3 h4 rfl rfl
        simp only[dz,nK];exact stepR_cond hz
    · trivial
   |block id body=>exact ef.quiet (c':=⟨f,.code i body :: .inBlock id::k,st⟩) (fun cs=> .one stepR_block) (nf trivial (nf trivial hk)) h1 rfl h2 h3 h4 rfl rfl
   |loop body=>
    intro cs
    obtain⟨g',q1,q2,q3,q4,q5,q6⟩:=wG h4 (E.keep f (2*i))
    refine⟨g',b.atR a (dz (.code (i+1) body :: .inLoop i body::eC (E.keep f (2*i+1)) k)),w,.one ?_,cm.mk (c:=⟨f,.code (i+1) body :: .inLoop i body::eC (E.keep f (2*i+1)) k,iJ (E.keep f (2*i)) st⟩) (nf trivial (nf trivial (nL hk))) h1 (q6 _ h2) (q5 _ h3) q1,q2,q3,rfl,q4,ud⟩
    simp only[dz,nK];exact stepR_loop
   |exit id=>
    simp only[Am.step]
    split
    · rename_i k' hk'
      exact ef.quiet (c':=⟨f,k',st⟩) (fun cs=> .one (stepR_exit (dh hk'))) (pP hk hk') h1 rfl h2 h3 h4 rfl rfl
    · rename_i hx
      split
      · rename_i j hr
        rw[hr] at h2
        obtain⟨hk,l,hl,hro⟩:=h2
        exact nM (c:=⟨f,.code i (.exit id)::k,st⟩) h4 hr hl h1 fun v w' hrun d cs=>stepR_round_exit hro hk (cM hx) hrun
      · trivial
   |scope bd=>exact ef.quiet (c':=⟨f,.code i bd :: .inScope bd::k,st⟩) (fun cs=> .one (step_lone_go (by simp[stepG,stepG.exec,U1,dz,er]))) (nf trivial (nf trivial hk)) h1 rfl h2 h3 h4 rfl rfl
   |label l=>exact ef.quiet (c':=⟨f,k,st⟩) (fun cs=> .one stepR_label) hk h1 rfl h2 h3 h4 rfl rfl
   |goto l=>
    simp only[Am.step]
    split
    · rename_i k' hk'
      exact ef.quiet (c':=⟨f,k',st⟩) (fun cs=> .one (stepR_goto (dj hk'))) (pO hk hk') h1 rfl h2 h3 h4 rfl rfl
    · trivial
   |rangeFunc x ps as bd=>
    simp only[Am.step]
    split
    · rename_i hr
      have h2':=h2
      rw[hr] at h2'
      unfold D0
      split
      · rename_i gf first captured hx
        dsimp only
        cases hlt:iP (close (dn st f ps as bd) 0 (first++[.vy (st.mem.length+1)]++captured)) (dn st f ps as bd).length with
        |false=>trivial
        |true=>
         subst h1
         intro v m1 hd m2 pd hend cs
         obtain⟨g',a',w',s1,s2,s3,s4,s5,s6⟩:=G7 (P:=P) (k:=dz k) h4 h2'.2 h3 hx hlt hd hend cs
         have e:(pd.map Item.code).toList++dz k=dz (behind ⟨b.fn,k,{st with mem:=dn st b.fn ps as bd,bT:= .range st.mem.length::st.bT}⟩ m2 pd).todo:=by
          cases pd<;>rfl
         rw[e] at s1
         refine⟨g',_,w',s1,cm.mk (a:=a') (c:=behind ⟨b.fn,k,{st with mem:=dn st b.fn ps as bd,bT:= .range st.mem.length::st.bT}⟩ m2 pd) ?_ rfl (h2.ext s6) s2 s3,s4,s5,rfl,rfl,rfl⟩
         cases pd with
         |none=>exact hk
         |some code=>exact nf trivial hk
      · trivial
    · trivial
   |ret=>
    simp only[Am.step]
    split
    · rename_i j hr
      rw[hr] at h2
      obtain⟨hk,l,hl,hro⟩:=h2
      exact nM (c:=⟨f,.code i .ret::k,st⟩) h4 hr hl h1 fun v w' hrun d cs=>stepR_round_ret hro hk hrun
    · rename_i wh
      have wh : ∀i,st.bK ≠ .round i:=fun i e=>wh i e
      exact zk (c:=⟨f,.code i .ret::k,st⟩) (b:=b) (a:=a) (todo:= .code .ret::dz k) h4 h2 wh h1 h3 fun cs=> .one (stepR_ret (h2.Ax wh))
   |_=>trivial
end
def eZ (P:Program):Prop:= ∀(f:FuncId) (fn:Func),P.funcs[f]? = some fn→(fn.name == "runtime.NumGoroutine")=false
def dK (P:Program) (E:Env) (c:bB) (o:Out):Prop:=
 ∀(g:Gh) (fr:Frame) (w:World) (cs:List Frame),cm P E g c fr w→match o with
  |.ret v m'=> ∃g' fr' w' cv w2,Steps P (lone fr cs w) (lone fr' cs w')∧Fk P c.st.bK fr' w' cv w2∧fr'.fn=c.f∧VA g' w2 v cv∧Rel g' m' w2∧cr g c.st.mem w g' m' w2∧bn g g' c.st.fix∧c.st.fix≤m'.length
  |.ot v m'=> ∃g' fr' w' cv,Steps P (lone fr cs w) (lone fr' cs w')∧fr'.leaving P w' (.panicked [{v:=cv,recovered:=false}])∧fr'.fn=c.f∧VA g' w' v cv∧Rel g' m' w'∧cr g c.st.mem w g' m' w'∧bn g g' c.st.fix∧c.st.fix≤m'.length
section
variable {P:Program} {E:Env}
theorem dK.au {c c':bB} {o:Out} (hg : ∀g fr w,cm P E g c fr w→ef P E g c fr w c') (h:dK P E c' o):dK P E c o:=by
 intro g fr w cs hc
 obtain⟨g',fr',w',q1,q2,q3,q4,q5,q6,q7⟩:=hg g fr w hc cs
 cases o with
 |ret v m'=>
  obtain⟨g2,lG,w2,cv,w3,r1,r2,r3,r4,r5,r6,r7,r8⟩:=h g' fr' w' cs q2
  refine⟨g2,lG,w2,cv,w3,q1.trans r1,by rw[←q7];exact r2,r3.trans q5,r4,r5,q3.trans r6,q4.trans ?_,by rw[←q6];exact r8⟩
  rw[←q6];exact r7
 |ot v m'=>
  obtain⟨g2,lG,w2,cv,r1,r2,r3,r4,r5,r6,r7,r8⟩:=h g' fr' w' cs q2
  refine⟨g2,lG,w2,cv,q1.trans r1,r2,r3.trans q5,r4,r5,q3.trans r6,q4.trans ?_,by rw[←q6];exact r8⟩
  rw[←q6];exact r7
theorem pR : ∀n,upTo n=List.range n
 |0=>rfl
 |n+1=>by rw[upTo,pR n,List.range_succ]
theorem pT : ∀(l:List AV) (s k:Nat),look ((Pl s l.length).zip l) k=if s≤k then l.getD (k-s) .af else .af
 |[],s,k=>by simp[look]
 |v::l,s,k=>by
  simp only[List.length_cons,List.range'_succ,Vx,jx]
  by_cases e:s=k
  · subst e;simp
  · simp only[e,if_false]
    rw[pT l (s+1) k]
    by_cases h:s+1≤k
    · have h1:s≤k:=by omega
      have h2:k-s=(k-(s+1))+1:=by omega
      simp[h,h1,h2]
    · have h1 : ¬s≤k:=by omega
      simp[h,h1]
def Dp:Bool→Ld
 |false=> .call
 |true=> .late
def kindOf:Bool→CallKind
 |false=> .normal
 |true=> .deferred
theorem cm.G8 {g:Gh} {w:World} {f:FuncId} {args:List AV} {m:Mem} {c:bB} {cK:Array Value} (z:Bool) (hi:init P f args m=some c) (hr:Rel g m w) (ha:bN g w args cK.toList) (hg:fP E g w) :
  cm P E g {c with st:={c.st with bK:=Dp z}} (QP P f cK (kindOf z)) w:=by
 unfold init at hi
 split at hi
 · rename_i fn hf
   split at hi
   · rename_i body hb
     simp only[dC] at hi;subst hi
     have hlen:=ha.len
     simp only[jb] at hlen
     let b:Frame:={(default:Frame) with fn:=f,kind:=kindOf z,roundOf:=none}
     have OD:QP P f cK (kindOf z)=b.atR {tmps:=cK++Array.replicate (fn.ntmps-cK.size) undef,defers:=[]} [.code body]:=by
      simp[QP,U1,hf,hb,b]
     rw[OD]
     refine cm.mk (c:=⟨f,[.code 0 body],⟨(upTo args.length).zip args,max fn.ntmps args.length,m,m.length,[],Dp z⟩⟩) (nf trivial (fun _ h=>by cases h)) rfl (by cases z<;>exact⟨rfl,rfl⟩) trivial ⟨?_,?_,hr,df _,hg⟩
     · intro k
       rw[pR,Vv,pT]
       simp only[Vr,if_true,VD]
       rcases ik k args.length with hk | hk
       · rw[dt,dp hk]
         have hk':k<cK.toList.length:=by simp;omega
         have hk2:k<cK.size:=by omega
         have:=ha.get k hk hk'
         simp only[kp,PQ]
         rw[Array.getElem?_append_left hk2,ja hk2]
         simpa using this
       · rw[dt,fg hk]
         exact .af _
     · simp;omega
   · cases hi
 · cases hi
theorem qV {f:FuncId} {args:List AV} {m:Mem} {c:bB} (hi:init P f args m=some c):c.st.mem=m∧c.st.fix=m.length∧c.f=f∧c.st.bK = .call:=by
 unfold init at hi
 split at hi
 · split at hi
   · simp only[dC] at hi;subst hi;exact⟨rfl,rfl,rfl,rfl⟩
   · cases hi
 · cases hi
theorem cm.enter {g:Gh} {w:World} {f:FuncId} {args:List AV} {m:Mem} {c:bB} {cK:Array Value} (hi:init P f args m=some c) (hr:Rel g m w) (ha:bN g w args cK.toList) (hg:fP E g w) :
  cm P E g c (QP P f cK .normal) w:=by
 have h:=cm.G8 (P:=P) false hi hr ha hg
 have e:({c with st:={c.st with bK:=Dp false}}:bB)=c:=by
  obtain⟨_,_,_,h4⟩:=qV hi
  obtain⟨f,t,tm,nt,mem,fix,bT,bK⟩:=c
  simp only at h4
  subst h4
  rfl
 rw[e] at h
 exact h
theorem sA (hN:eZ P) {f:FuncId} {args:List AV} {m:Mem} {c:bB} (hi:init P f args m=some c) : ∃fn,P.funcs[f]? = some fn∧fn.body.isSome=true∧(fn.name == "runtime.NumGoroutine")=false:=by
 unfold init at hi
 split at hi
 · rename_i fn hf
   split at hi
   · rename_i body hb
     exact⟨fn,hf,by simp[hb],hN f fn hf⟩
   · cases hi
 · cases hi
theorem kV (hN:eZ P) {f:FuncId} {args:List AV} {m:Mem} {c:bB} {v:AV} {m':Mem} (hi:init P f args m=some c) (h:dK P E c (.ot v m')):GS P E f args m v m':=by
 refine⟨sA hN hi,fun g w cK cs hr ha hg=> ?_⟩
 obtain⟨g',fr',w',cv,q1,q2,q3,q4,q5,q6,q7,q8⟩:=h g _ w cs (cm.enter hi hr ha hg)
 obtain⟨e1,e2,e3,e4⟩:=qV hi
 rw[e1] at q6;rw[e2] at q7 q8;rw[e3] at q3
 exact⟨_,g',cv,fr',q1,q2,q3,q4,q5,q6,q7,q8⟩
theorem dA (hN:eZ P) {f:FuncId} {args:List AV} {m:Mem} {c:bB} {v:AV} {m':Mem} (hi:init P f args m=some c) (h:dK P E c (.ret v m')):aG P E f args m v m':=by
 refine⟨sA hN hi,fun g w cK cs hr ha hg=> ?_⟩
 obtain⟨g',fr',w',cv,w2,q1,q2,q3,q4,q5,q6,q7,q8⟩:=h g _ w cs (cm.enter hi hr ha hg)
 obtain⟨e1,e2,e3,e4⟩:=qV hi
 rw[e1] at q6;rw[e2] at q7 q8;rw[e3] at q3;rw[e4] at q2
 obtain⟨q2,rfl⟩:=q2
 exact⟨_,g',cv,fr',q1,q2,q3,q4,q5,q6,q7,q8⟩
theorem qW {g:Gh} {w:World} : ∀(ds:List Nat) (vs:List AV) (qR:List Value) (tm:rM) (t:Array Value),bN g w vs qR→ds.length=vs.length→(∀d∈ds,d<t.size)→(∀k,VA g w (look tm k) (t.getD k undef)) →
  (∀k,VA g w (look (CW tm ds vs) k) (((ds.zip qR).foldl (fun t (q:Nat×Value)=>t.setIfInBounds q.1 q.2) t).getD k undef))∧((ds.zip qR).foldl (fun t (q:Nat×Value)=>t.setIfInBounds q.1 q.2) t).size=t.size
 |[],[],[],tm,t,_,_,_,h=>⟨h,rfl⟩
 |d::ds,v::vs,cv::qR,tm,t,hv,hl,hd,h=>by
  have hdt:=hd d (.head _)
  obtain⟨q1,q2⟩:=qW ds vs qR ((d,v)::tm) (t.setIfInBounds d cv) hv.2 (by simpa using hl) (fun d' hd'=>by simpa using hd d' (.tail _ hd')) fun k=>by
   simp only[jx]
   by_cases hk:d=k
   · subst hk
     simp only[if_true,PQ,Array.getElem?_setIfInBounds_self_of_lt hdt,kp]
     exact hv.1
   · simp only[hk,if_false,PQ]
     rw[Array.getElem?_setIfInBounds_ne hk,←PQ]
     exact h k
  exact⟨q1,q2.trans (by simp)⟩
 |[],_::_,_,_,_,_,hl,_,_=>by simp at hl
 |_::_,[],_,_,_,_,hl,_,_=>by simp at hl
 |[],[],_::_,_,_,h,_,_,_=>h.elim
 |_::_,_::_,[],_,_,h,_,_,_=>h.elim
theorem kW {args:List AV} {m:Mem} {c:bB} {v:AV} {m':Mem} (hi:Bp args m=some c) (h:dK P E c (.ret v m')):Ef P E args m v m':=by
 intro g w i l xs JD d cs hargs hr hl hx hg
 subst hargs
 unfold Bp at hi
 dsimp only at hi
 split at hi
 · rename_i f ps as bd s pd vals hb
   cases hc:(be xs.length ps.toList.length&&iP ps.toList vals.length) with
   |false=>rw[hc] at hi;cases hi
   |true=>
    rw[hc] at hi
    simp only[cond_true,dC] at hi
    simp only[dv] at hc
    have hlen:=bm hc.1
    have hlt:=fH hc.2
    have hib:=getD_some hb (by simp)
    obtain⟨c0,ob,vs,k1,k2,k3,k4,_⟩:=hr.obs i _ _ hib
    rw[hl] at k1;cases k1
    obtain⟨D,rfl⟩:=k4
    have hxl:=hx.len
    simp only[jb] at hxl
    have hvl:=k3.len
    have Dq:=run_yield (P:=P) (args:=JD) k2 (by show JD.size=ps.size;simp at hlen;omega)
    dsimp only at Dq
    have D4:(ps.zip JD).foldl (fun tmps (t,a)=>tmps.setIfInBounds t a) vs.toArray=(ps.toList.zip JD.toList).foldl (fun t (q:Nat×Value)=>t.setIfInBounds q.1 q.2) vs.toArray:=by
     rw[←Array.foldl_toList,Array.toList_zip]
    rw[D4] at Dq
    obtain⟨t1,t2⟩:=qW ps.toList xs JD.toList ((upTo vals.length).zip vals) vs.toArray hx hlen.symm (fun d hd=>by have:=hlt d hd;simp;omega) fun k=>by
     rw[pR,Vv,pT]
     simp only[Vr,if_true,VD]
     rcases ik k vals.length with hk | hk
     · rw[dt,dp hk]
       have hk':k<vs.length:=by omega
       have:=k3.get k hk hk'
       simp only[kp,PQ]
       simpa[hk'] using this
     · rw[dt,fg hk]
       exact .af _
    generalize (ps.toList.zip JD.toList).foldl (fun t (q:Nat×Value)=>t.setIfInBounds q.1 q.2) vs.toArray=T at *
    let b:Frame:={(default:Frame) with fn:=f,kind:= .normal,roundOf:=some l}
    have OD:VF l f T as bd .normal=b.atR {tmps:=T,defers:=[]} (dz c.todo):=by
     rw[←hi]
     simp[VF,U1,dz,er,b]
    have hJ:cm P E g c (VF l f T as bd .normal) w:=by
     rw[OD]
     subst hi
     exact cm.mk (nf trivial (nf trivial (nf trivial fun _ h=>by cases h))) rfl ⟨rfl,l,hl,rfl⟩ trivial ⟨t1,by rw[t2];simp;omega,hr,df _,hg⟩
    have hm:c.st.mem=m∧c.st.fix=m.length∧c.st.bK = .round i:=by subst hi;exact⟨rfl,rfl,rfl⟩
    obtain⟨e1,e2,e3⟩:=hm
    obtain⟨g',fr',w',cv,w2,q1,q2,q3,q4,q5,q6,q7,q8⟩:=h g _ w (d::cs) hJ
    rw[e1] at q6;rw[e2] at q7 q8;rw[e3] at q2
    exact⟨f,T,as,bd,w2,g',cv,Dq,q1.trans (q2 d cs),q4,q5,q6,q7,q8⟩
 · cases hi
theorem sC {c:bB} {o:Out} (h:Am.step P E c = .done o):dK P E c o:=by
 intro g fr w cs hc
 have hs:=hG hc
 rw[h] at hs
 cases o with
 |ret v m'=>
  obtain⟨h1,rfl,cv,w2,h2,h3,h4,h6,h5⟩:=hs
  exact⟨g,fr,w,cv,w2,Vu _ _,h2,h1,h3,h4,h6,bn.refl _ _,h5⟩
 |ot v m'=>
  obtain⟨h1,rfl,cv,h2,h3,h4,h5⟩:=hs
  exact⟨g,fr,w,cv,Vu _ _,h2,h1,h3,h4,cr.refl _ _ _,bn.refl _ _,h5⟩
theorem lH {c c':bB} (h:Am.step P E c = .next c') : ∀g fr w,cm P E g c fr w→ef P E g c fr w c':=by
 intro g fr w hc
 have hs:=hG hc
 rw[h] at hs;exact hs
theorem sD {c c':bB} (h:Am.step P E c = .must true c') : ∀g fr w,cm P E g c fr w→ef P E g c fr w c':=by
 intro g fr w hc
 have hs:=hG hc
 rw[h] at hs;exact hs rfl
theorem sG {c y z:bB} {b:Bool} (h:Am.step P E c = .test b y z) : ∀g fr w,cm P E g c fr w→ef P E g c fr w (match b with | true=>y | false=>z):=by
 intro g fr w hc
 have hs:=hG hc
 rw[h] at hs
 cases b with
 |true=>exact hs.1 rfl
 |false=>exact hs.2 rfl
theorem gH {c c':bB} {f:FuncId} {args:List AV} {m:Mem} {ord:List Nat} {dst:Option Tmp} {v:AV} {m1:Mem} (h:Am.step P E c = .call f args m ord dst c') (hd:aG P E f args m v m1) :
  ∀g fr w,cm P E g c fr w→ef P E g c fr w {c' with st:=back ord dst c'.st v m1}:=by
 intro g fr w hc
 have hs:=hG hc
 rw[h] at hs
 exact hs.1 v m1 hd
theorem nN {c c':bB} {f:FuncId} {args:List AV} {m:Mem} {ord:List Nat} {dst:Option Tmp} {v:AV} {m1:Mem} (h:Am.step P E c = .call f args m ord dst c') (hd:GS P E f args m v m1) :
  ∀g fr w,cm P E g c fr w→ef P E g c fr w (m6 ord c' v m1):=by
 intro g fr w hc
 have hs:=hG hc
 rw[h] at hs
 exact hs.2 v m1 hd
theorem sH {c c':bB} {f:FuncId} {args:List AV} {m:Mem} {ord:List Nat} {pv:Option AV} {m1:Mem} (h:Am.step P E c = .late f args m ord pv c') (hd:GV P E f args m pv m1) :
  ∀g fr w,cm P E g c fr w→ef P E g c fr w {c' with st:=back ord none c'.st (.bk []) m1}:=by
 intro g fr w hc
 have hs:=hG hc
 rw[h] at hs
 exact hs m1 hd
theorem jV {b:Frame} {a:Act} {cs:List Frame} {w:World} : ∀(n:Nat) (t t':List It),vq n t=some t'→(∀x∈t,It.pl x)→Steps P (lone (b.atR a (dz t)) cs w) (lone (b.atR a (dz t')) cs w) ∧ ∀x∈t',It.pl x
 |0,_,_,h,_=>by cases h
 |n+1,t,t',h,hp=>by
  unfold vq at h
  split at h
  · simp only[dC] at h;subst h
    exact⟨Vu _ _,hp⟩
  · obtain⟨h1,h2⟩:=jV n _ t' h (nf trivial (nf trivial fun y hy=>hp y (.tail _ hy)))
    exact⟨.head stepR_seq h1,h2⟩
  · rename_i id ops k
    obtain⟨h1,h2⟩:=jV n _ t' h (nf trivial fun y hy=>hp y (.tail _ hy))
    refine⟨.head ?_ h1,h2⟩
    have:=stepR_region (P:=P) (b:=b) (a:=a) (k:=dz k) (cs:=cs) (w:=w) (ops:=ops) (id:=id)
    simpa[dz,er,Vv] using this
  · obtain⟨h1,h2⟩:=jV n _ t' h (nf trivial (nf trivial fun y hy=>hp y (.tail _ hy)))
    exact⟨.head (step_lone_go (by simp[stepG,stepG.exec,U1,dz,er])) h1,h2⟩
  · obtain⟨h1,h2⟩:=jV n _ t' h (nf trivial (nf trivial fun y hy=>hp y (.tail _ hy)))
    exact⟨.head stepR_block h1,h2⟩
  · cases h
theorem AI {b:Frame} {a:Act} {k:List Item} {c0:Frame} {cs:List Frame} {w:World} {ops:Array Oper} {i:Nat} {rest:List Nat} {o:Oper} {qK:Option Value} (hk:b.kind = .deferred) (hb:b.roundOf=none) (ho:ops[i]? = some o) (hr:isRec o=true)
  (h0:c0.mode=cJ qK false) :
  _root_.Go.step P (lone (b.atR a (.inRegion ops (i::rest)::k)) (c0::cs) w) = .next (lone (b.atR (a.put o.dst (qK.getD .nilIface)) (.inRegion ops rest::k)) ({c0 with mode:=cJ qK true}::cs) w):=by
 unfold isRec at hr
 split at hr
 · rename_i c hop hgd
   split at hr
   · rename_i yh Re
     have kj:c.args = #[]:=by have:=congrArg List.toArray Re;simpa using this
     have hw:Region.wanted o (yielded ops a.tmps)=true:=by unfold Region.wanted;rw[hgd]
     have hg:=stepGR_op (P:=P) (b:=b) (k:=k) (cs:=c0::cs) (w:=w) (rest:=rest) ho hw
     have hrun:(o.semAt b.roundOf a.eval).run P w = .ok .recover w:=by
      rw[hb]
      simp only[Oper.semAt,execOp,hop,resolve,yh,kj,la,lh,lj,invoke,builtin]
     have nD : ∀v,(b.atR a (.inRegion ops (i::rest)::k)).finish v=b.atR (a.put o.dst v) (.inRegion ops rest::k):=fun v=>by rw[Frame.finish_atR,ho];rfl
     have hkk:(b.atR a (.inRegion ops (i::rest)::k)).kind = .deferred:=hk
     have NR:=tryRecover_deferred hkk (c0::cs)
     have hro:(b.atR a (.inRegion ops (i::rest)::k)).roundOf=none:=hb
     refine step_lone_go ?_
     rw[hg]
     cases qK with
     |none=>
      have e:recoverD (c0::cs)=none:=by unfold recoverD;simp only[h0,cJ]
      rw[e] at NR
      have TG:({c0 with mode:=cJ none true}:Frame)=c0:=by rw[show cJ none true=c0.mode from h0.symm]
      rw[TG]
      simp only[stepG.apply,VB,hrun,hro,NR,GStep.bare_after,GStep.bare_go,nD,Option.getD_none,if_true]
     |some v=>
      have e:recoverD (c0::cs)=some (v,{c0 with mode:=cJ (some v) true}::cs):=by unfold recoverD;simp only[h0,cJ]
      rw[e] at NR
      simp only[stepG.apply,VB,hrun,hro,NR,GStep.bare_after,GStep.bare_go,nD,kp,if_true]
   · cases hr
 · cases hr
theorem kX (hN:eZ P) {f:FuncId} {args:List AV} {m:Mem} {pv:Option AV} {c:bB} {v:AV} {m':Mem} (hi:Br P f args m pv=some c) (h:dK P E c (.ret v m')):GV P E f args m pv m':=by
 unfold Br at hi
 split at hi
 · rename_i c0 yM
   split at hi
   · rename_i t1 hi1
     refine⟨sA hN yM,fun g w cK qK SG cs h0 BF hr ha hg=> ?_⟩
     obtain⟨e1,e2,e3,_⟩:=qV yM
     have OD:=cm.G8 (P:=P) true yM hr ha hg
     have OE : ∃body,c0.todo=[.code 0 body]:=by
      unfold init at yM
      split at yM
      · split at yM
        · simp only[dC] at yM;subst yM;exact⟨_,rfl⟩
        · cases yM
      · cases yM
     obtain⟨body,hbody⟩:=OE
     obtain⟨f0,t0,gq⟩:=c0
     simp only at hbody e1 e2 e3 hi1 hi
     subst hbody
     obtain⟨b,a,hfr,h1,h2,h3,h4,hk⟩:=OD
     simp only at h1 h2 h3 h4 hk
     obtain⟨Mg,Fa⟩:=jV (P:=P) (b:=b) (a:=a) (cs:=SG::cs) (w:=w) 20 _ _ hi1 hk
     have Rf:QP P f cK .deferred=b.atR a (dz [It.code 0 body]):=hfr
     rw[Rf]
     unfold Lf at hi
     simp only at hi
     split at hi
     · rename_i bL ops i sure k
       split at hi
       · rename_i o ho
         have hlt:i<ops.size:=by
          rcases ik i ops.size with q | q
          · exact q
          · rw[U4 q] at ho;cases ho
         have hk' : ∀y∈k,It.pl y:=fun y hy=>Fa y (.tail _ hy)
         cases hb:(isRec o&&fits {gq with bK:= .late} o.dst) with
         |false=>rw[hb] at hi;cases hi
         |true=>
          rw[hb] at hi
          simp only[cond_true,dC] at hi
          simp only[dv] at hb
          have hstep:=AI (P:=P) (a:=a) (k:=dz k) (cs:=cs) (w:=w) (rest:=Pl (i+1) (ops.size-(i+1))) (qK:=qK) h2.1 h2.2 ho hb.1 h0
          have xZ:VA g w (pv.getD (.p (.sc .nilIface))) (qK.getD .nilIface):=by
           cases pv with
           |none=>cases qK with
            |none=>exact .p _ _ (.sc _)
            |some _=>exact BF.elim
           |some u=>cases qK with
            |none=>exact BF.elim
            |some cv=>exact BF
          have hput:=h4.put (m':=gq.mem) hb.2 xZ (Ext.refl g w) h4.rel h4.fix
          have TH:cm P E g c (b.atR (a.put o.dst (qK.getD .nilIface)) (.inRegion ops (Pl (i+1) (ops.size-(i+1)))::dz k)) w:=by
           subst hi
           exact cm.mk (c:=⟨f0,.ops bL ops (i+1) false::k,put {gq with bK:= .late} o.dst (pv.getD (.p (.sc .nilIface)))⟩) (nf trivial hk') h1 (by rw[iK];exact h2) (h3.put (st:={gq with bK:= .late}) (st':={gq with bK:= .late}) (Ext.refl g w) rfl) hput
          obtain⟨g2,lG,w2,cv,w3,r1,r2,r3,r4,r5,r6,r7,r8⟩:=h g _ w ({SG with mode:=cJ qK true}::cs) TH
          have hc:c.st.mem=m∧c.st.fix=m.length∧c.st.bK = .late:=by
           subst hi
           refine⟨?_,?_,?_⟩
           · rw[←e1]
             show(put {gq with bK:= .late} o.dst _).mem=gq.mem
             unfold Am.put;cases o.dst<;>rfl
           · rw[←e2]
             show(put {gq with bK:= .late} o.dst _).fix=gq.fix
             unfold Am.put;cases o.dst<;>rfl
           · show(put {gq with bK:= .late} o.dst _).bK = .late
             rw[iK]
          obtain⟨c1,c2,c3⟩:=hc
          rw[c3] at r2
          obtain⟨⟨r2,TI⟩,rfl⟩:=r2
          rw[c1] at r6
          rw[c2] at r7 r8
          refine⟨_,g2,cv,lG,Mg.trans (.head ?_ r1),r2,TI,r5,r6,r7,r8⟩
          have he:dz (.ops bL ops i sure::k) = .inRegion ops (i::Pl (i+1) (ops.size-(i+1)))::dz k:=by
           simp only[dz,er,nC hlt,Vw,Vl]
          rw[he]
          exact hstep
       · cases hi
     · cases hi
   · cases hi
 · cases hi
theorem pV {c c':bB} {args:List AV} {m:Mem} {ord:List Nat} {dst:Option Tmp} {v:AV} {m1:Mem} (h:Am.step P E c = .round args m ord dst c') (hd:Ef P E args m v m1) :
  ∀g fr w,cm P E g c fr w→ef P E g c fr w {c' with st:=back ord dst c'.st v m1}:=by
 intro g fr w hc
 have hs:=hG hc
 rw[h] at hs
 exact hs v m1 hd
theorem jW {c c':bB} {f:FuncId} {args:List AV} {m:Mem} {ord:List Nat} {L:Nat} {v:AV} {m1 m2:Mem} {pd:Option Code} (h:Am.step P E c = .range f args m ord L c') (hd:aG P E f args m v m1)
  (he:fT (back ord none c'.st v m1).mem L=some (m2,pd)) : ∀g fr w,cm P E g c fr w→ef P E g c fr w (behind c' m2 pd):=by
 intro g fr w hc
 have hs:=hG hc
 rw[h] at hs
 exact hs v m1 hd m2 pd he
theorem dK.AJ {c:bB} {l:List bB} {o:Out} (hg : ∀g fr w,cm P E g c fr w→uQ P E g c fr w l) (h : ∀c'∈l,dK P E c' o):dK P E c o:=by
 intro g fr w cs hc
 obtain⟨c',hm,g',fr',w',q1,q2,q3,q4,q5,q6,q7⟩:=hg g fr w hc cs
 cases o with
 |ret v m'=>
  obtain⟨g2,lG,w2,cv,w3,r1,r2,r3,r4,r5,r6,r7,r8⟩:=h c' hm g' fr' w' cs q2
  refine⟨g2,lG,w2,cv,w3,q1.trans r1,by rw[←q7];exact r2,r3.trans q5,r4,r5,q3.trans r6,q4.trans ?_,by rw[←q6];exact r8⟩
  rw[←q6];exact r7
 |ot v m'=>
  obtain⟨g2,lG,w2,cv,r1,r2,r3,r4,r5,r6,r7,r8⟩:=h c' hm g' fr' w' cs q2
  refine⟨g2,lG,w2,cv,q1.trans r1,r2,r3.trans q5,r4,r5,q3.trans r6,q4.trans ?_,by rw[←q6];exact r8⟩
  rw[←q6];exact r7
theorem sJ {c:bB} {l:List bB} (h:Am.step P E c = .fork l) : ∀g fr w,cm P E g c fr w→uQ P E g c fr w l:=by
 intro g fr w hc
 have hs:=hG hc
 rw[h] at hs;exact hs
theorem lI {c c':bB} {bL:Nat} {ops:Array Oper} {O:FuncId→List AV→Mem→Option (AV×Mem)} {st':St} (h:Am.step P E c = .draw bL ops c') (hO : ∀g args m v m1,O g args m=some (v,m1)→aG P E g args m v m1)
  (hq:jJ P E c'.f bL O ops c'.st=some (st',true)) : ∀g fr w,cm P E g c fr w→ef P E g c fr w {c' with st:={st' with bT:=c'.st.bT,bK:=c'.st.bK}}:=by
 intro g fr w hc
 have hs:=hG hc
 rw[h] at hs
 exact hs O st' hO hq
def fu (P:Program) (E:Env) (l:List cF):Prop:= ∀q∈l,aG P E q.g q.args q.m q.v q.m'
theorem qX {K:List cF} (hK:fu P E K) {g:FuncId} {args:List AV} {m:Mem} {r:AV×Mem} (h:lZ K g args m=some r):aG P E g args m r.1 r.2:=by
 induction K with
 |nil=>cases h
 |cons q K ih=>
  simp only[lZ] at h
  cases hb:(be q.g g&&(kG args q.args&&tE m q.m)) with
  |true=>
   rw[hb] at h
   simp only[cond_true,dC] at h
   subst h
   simp only[dv] at hb
   obtain⟨h1,h2,h3⟩:=hb
   have h1:=bm h1
   have h2:=fo h2
   have h3:=m8 h3
   subst h1;subst h2;subst h3
   exact hK q (.head _)
  |false=>
   rw[hb] at h
   exact ih (fun x hx=>hK x (.tail _ hx)) h
theorem G9 {o p:Out} (h:Bq o p=true):o=p:=by
 cases o with
 |ret v m=>cases p with
  |ret u n=>
   simp only[Bq,dv] at h
   rw[l6 h.1,m8 h.2]
  |ot u n=>cases h
 |ot v m=>cases p with
  |ret u n=>cases h
  |ot u n=>
   simp only[Bq,dv] at h
   rw[l6 h.1,m8 h.2]
theorem zl : ∀{l:List (Option Out)} {o:Out},agree l=some o → ∀x∈l,x=some o
 |[],_,h,_,_=>by cases h
 |[x],o,h,y,hy=>by
  cases hy with
  |head=>exact h
  |tail _ hy=>cases hy
 |x::y::r,o,h,z,hz=>by
  simp only[agree] at h
  split at h
  · rename_i o1 p1 h1
    cases hb:Bq o1 p1 with
    |false=>rw[hb] at h;cases h
    |true=>
     rw[hb] at h
     simp only[cond_true,dC] at h
     subst h
     cases hz with
     |head=>rw[G9 hb]
     |tail _ hz=>exact zl h1 z hz
  · cases h
theorem bJ (hN:eZ P) {K:List cF} (hK:fu P E K) : ∀(n:Nat) (c:bB) (o:Out),exec P E K n c=some o→dK P E c o
 |0,_,_,h=>by cases h
 |n+1,c,o,h=>by
  unfold exec at h
  split at h
  · rename_i c' hs;exact dK.au (lH hs) (bJ hN hK n c' o h)
  · rename_i b c' hs
    cases b with
    |false=>cases h
    |true=>exact dK.au (sD hs) (bJ hN hK n c' o h)
  · rename_i b y z hs
    have:=sG hs
    cases b with
    |true=>exact dK.au this (bJ hN hK n y o h)
    |false=>exact dK.au this (bJ hN hK n z o h)
  · rename_i g args m ord dst c' hs
    split at h
    · rename_i v m1 hk
      exact dK.au (gH hs (qX hK hk)) (bJ hN hK n _ o h)
    · split at h
      · rename_i ci hi
        split at h
        · rename_i v m1 he
          have hd:=dA hN hi (bJ hN hK n ci _ he)
          exact dK.au (gH hs hd) (bJ hN hK n _ o h)
        · rename_i u m1 he
          have hd:=kV hN hi (bJ hN hK n ci _ he)
          exact dK.au (nN hs hd) (bJ hN hK n _ o h)
        · cases h
      · cases h
  · rename_i g args m ord pv c' hs
    split at h
    · rename_i ci hi
      split at h
      · rename_i v m1 he
        have hd:=kX hN hi (bJ hN hK n ci _ he)
        exact dK.au (sH hs hd) (bJ hN hK n _ o h)
      · cases h
    · cases h
  · rename_i args m ord dst c' hs
    split at h
    · rename_i ci hi
      split at h
      · rename_i v m1 he
        have hd:=kW hi (bJ hN hK n ci _ he)
        exact dK.au (pV hs hd) (bJ hN hK n _ o h)
      · cases h
    · cases h
  · rename_i g args m ord L c' hs
    split at h
    · rename_i ci hi
      split at h
      · rename_i v m1 he
        split at h
        · rename_i m2 pd hend
          have hd:=dA hN hi (bJ hN hK n ci _ he)
          exact dK.au (jW hs hd hend) (bJ hN hK n _ o h)
        · cases h
      · cases h
    · cases h
  · rename_i bL ops c' hs
    split at h
    · rename_i st' ok hq
      cases ok with
      |false=>cases h
      |true=>
       refine dK.au (lI hs (fun g args m v m1 hO=> ?_) hq) (bJ hN hK n _ o h)
       split at hO
       · rename_i r hk
         simp only[dC] at hO
         subst hO
         exact qX hK hk
       · split at hO
         · rename_i ci hi
           split at hO
           · rename_i v' Fj he
             simp only[dC,kz] at hO
             obtain⟨rfl,rfl⟩:=hO
             exact dA hN hi (bJ hN hK n ci _ he)
           · cases hO
         · cases hO
    · cases h
  · rename_i l hs
    exact dK.AJ (sJ hs) fun c' dJ=>bJ hN hK n c' o (zl h _ (gg.2 ⟨c',dJ,rfl⟩))
  · rename_i o' hs
    simp only[dC] at h;subst h
    exact sC hs
  · cases h
theorem yp (hN:eZ P) {K:List cF} (hK:fu P E K) {n:Nat} {f:FuncId} {args:List AV} {m m':Mem} {v:AV} (h:D3 P E K n f args m=some (.ret v m')):aG P E f args m v m':=by
 unfold D3 at h
 split at h
 · rename_i c hi;exact dA hN hi (bJ hN hK n c _ h)
 · cases h
theorem oI:fu P E []:=fun _ hq=>by cases hq
theorem gA {q:cF} {K:List cF} (h:aG P E q.g q.args q.m q.v q.m') (hK:fu P E K):fu P E (q::K):=by
 intro x hx
 cases hx with
 |head=>exact h
 |tail _ hx=>exact hK x hx
def He (P:Program) (E:Env) (c:bB):Fin→Prop
 |.out o=>dK P E c o
 |.at c'=> ∀o,dK P E c' o→dK P E c o
theorem He.au {c c':bB} {r:Fin} (hg : ∀g fr w,cm P E g c fr w→ef P E g c fr w c') (h:He P E c' r):He P E c r:=by
 cases r with
 |out o=>exact dK.au hg h
 | «at» c2=>exact fun o ho=>dK.au hg (h o ho)
end
end Go.Am
end
section
namespace Go.Am
noncomputable section
abbrev TJ:=Program→(Nat→aH)→Bool→Nat→(Operand→AV)→Oper→kg
def OF (P:Program) (rd:Nat→aH) (wr:Bool) (aO:Nat) (ρ:Operand→AV) (o:Oper):kg:=tG P rd wr aO ρ o
def Lo (x:Operand) (_:Program) (_:Nat→aH) (_:Bool) (_:Nat) (ρ:Operand→AV) (_:Oper):kg:=some (ρ x,[],true)
def OG (t:TypeId) (a:Operand) (P:Program) (rd:Nat→aH) (_:Bool) (_:Nat) (ρ:Operand→AV) (_:Oper):kg:=gV (kS P rd t (ρ a))
def Mh (t:TypeId) (a v:Operand) (P:Program) (rd:Nat→aH) (_:Bool) (_:Nat) (ρ:Operand→AV) (_:Oper):kg:=ql P rd t (ρ a) (ρ v)
def Rg (x:Operand) (P:Program) (_:Nat→aH) (_:Bool) (_:Nat) (ρ:Operand→AV) (o:Oper):kg:=jl (jF P ρ o (ρ x))
def Dr (t:TypeId) (x:Operand) (f:Nat) (P:Program) (_:Nat→aH) (_:Bool) (_:Nat) (ρ:Operand→AV) (_:Oper):kg:=jl (kB P t (ρ x) f)
def Mi (t:TypeId) (x:Operand) (f:Nat) (P:Program) (_:Nat→aH) (_:Bool) (_:Nat) (ρ:Operand→AV) (_:Oper):kg:=gV (uF P t (ρ x) f)
def Ds (t:TypeId) (x i:Operand) (P:Program) (_:Nat→aH) (_:Bool) (_:Nat) (ρ:Operand→AV) (_:Oper):kg:=gV (kC P t (ρ x) (ρ i))
def Mj (t:TypeId) (x i:Operand) (P:Program) (_:Nat→aH) (_:Bool) (_:Nat) (ρ:Operand→AV) (_:Oper):kg:=gV (uG P t (ρ x) (ρ i))
def Hf (s d:TypeId) (x:Operand) (P:Program) (rd:Nat→aH) (_:Bool) (aO:Nat) (ρ:Operand→AV) (o:Oper):kg:=convertOp P rd aO ρ o s d (ρ x)
def Rh (op:BinOp) (t:TypeId) (x y:Operand) (P:Program) (_:Nat→aH) (_:Bool) (_:Nat) (ρ:Operand→AV) (o:Oper):kg:=match rQ y with
    |true=>uJ P op t (ρ x)
    |false=>match DX (ρ x) (ρ y) with
     |true=>DY P op t (ρ x) (ρ y)
     |false=>match uI (ρ x) (ρ y) with
      |true=>oq P op t
      |false=>gV (qm P ρ o op (ρ x) (ρ y))
def TK (op:UnOp) (x:Operand) (P:Program) (_:Nat→aH) (_:Bool) (_:Nat) (ρ:Operand→AV) (o:Oper):kg:=gV (vc P ρ o op (ρ x))
def Ml (t:TypeId) (x:Operand) (lo hi mx:Option Operand) (P:Program) (_:Nat→aH) (_:Bool) (_:Nat) (ρ:Operand→AV) (_:Oper):kg:=gV (om P ρ t (ρ x) lo hi mx)
def Hg (x:Operand) (i:Nat) (_:Program) (_:Nat→aH) (_:Bool) (_:Nat) (ρ:Operand→AV) (_:Oper):kg:=match ρ x with
    |.bk vs=>jl vs[i]?
    |_=>none
def Mm (t:TypeId) (parts:Array (Nat×Operand)) (P:Program) (_:Nat→aH) (_:Bool) (_:Nat) (ρ:Operand→AV) (_:Oper):kg:=gV (uE P t (parts.toList.map fun q=>(q.1,ρ q.2)))
def OH (c a b:Operand) (_:Program) (_:Nat→aH) (_:Bool) (_:Nat) (ρ:Operand→AV) (_:Oper):kg:=match ρ c with
    |.p (.sc (.bool t))=>some (cond t (ρ a) (ρ b),[],true)
    |_=>none
def Ri:Op→TJ
 |.binOp op t x y _=>Rh op t x y
 |.unOp op _ x=>TK op x
 |.slice t x lo hi mx=>Ml t x lo hi mx
 |.extract x i=>Hg x i
 |.build t parts=>Mm t parts
 |.pick c a b=>OH c a b
 |.move x=>Lo x
 |.assign x=>Lo x
 |.load t a=>OG t a
 |.store t a v=>Mh t a v
 |.nilCheck x=>Rg x
 |.fieldAddr t x f=>Dr t x f
 |.field t x f=>Mi t x f
 |.indexAddr t x i=>Ds t x i
 |.index t x i=>Mj t x i
 |.convert s d x=>Hf s d x
 |_=>OF
def Rj (P:Program) (rd:Nat→aH) (wr:Bool) (aO:Nat) (ρ:Operand→AV) (o:Oper):kg:=Ri o.op P rd wr aO ρ o
theorem Mn (P:Program) (rd:Nat→aH) (wr:Bool) (aO:Nat) (ρ:Operand→AV) (o:Oper):Rj P rd wr aO ρ o=tG P rd wr aO ρ o:=by
 obtain⟨dst,op,type,pos,after,guard⟩:=o
 cases op<;>rfl
def Hh (tm:rM) (i:Nat):AV:=Vz (motive:=fun _=>AV) .af (fun p _ ih=>VC (motive:=fun _=>AV) ih p.2 (be p.1 i)) tm
theorem Ca : ∀(tm:rM) (i:Nat),Hh tm i=look tm i
 |[],_=>rfl
 |(k,v)::r,i=>by
  show VC (motive:=fun _=>AV) (Hh r i) v (be k i)=cond (be k i) v (look r i)
  rw[Ca r i]
  cases be k i<;>rfl
def OI (t:Nat) (_:Env) (tm:rM):AV:=Hh tm t
def Mo (x:Operand) (E:Env) (tm:rM):AV:=ev E tm x
def Rk:Operand→Env→rM→AV
 |.tmp t=>OI t
 |.const v=>fun _ _=>DU v
 |x=>Mo x
def OJ (E:Env) (tm:rM) (x:Operand):AV:=Rk x E tm
theorem Hi (E:Env) (tm:rM):OJ E tm=ev E tm:=by
 funext x
 cases x with
 |tmp t=>exact Ca tm t
 |const v=>rfl
 |global g=>rfl
 |func f=>rfl
def Dt:Op→Bool
 |.call _ | .defer _ | .panic _=>true
 |_=>false
def AK:Op→Bool
 |.alloc _ | .box .. | .buildSlice .. | .makeSlice .. | .convert .. | .makeMap .. | .range .. =>true
 |.call c=>makes ⟨none,.call c,0,"",#[],none⟩
 |_=>false
def JQ (ops:Array Oper) (i:Nat):Option Oper:=Vz (motive:=fun _=>Nat→Option Oper) (fun _=>none) (fun a _ ih i=>VE (motive:=fun _=>Option Oper) (some a) (fun j _=>ih j) i) ops.toList i
theorem JR (ops:Array Oper) (i:Nat):JQ ops i=ops[i]? :=by
 have : ∀(l:List Oper) (i:Nat),Vz (motive:=fun _=>Nat→Option Oper) (fun _=>none) (fun a _ ih i=>VE (motive:=fun _=>Option Oper) (some a) (fun j _=>ih j) i) l i=l[i]? :=by
  intro l
  induction l with
  |nil=>intro i;rfl
  |cons a l ih=>
   intro i
   cases i with
   |zero=>rfl
   |succ i=>exact(ih i).trans (by simp)
 rw[JQ,this]
 simp
def Em:kg→Ev→Option Tmp→FuncId→List It→rM→Nat→Mem→Nat→List Mark→Ld→Ev
 |none=>fun e _ _ _ _ _ _ _ _ _=>e
 |some (v,[],ok)=>fun _ dst f k tm nt mem fix bT bK=>VG (motive:=fun _=>Ev) (.must (ok&&true) ⟨f,k,⟨tm,nt,mem,fix,bT,bK⟩⟩) (fun d=> .must (ok&&bx d nt) ⟨f,k,⟨(d,v)::tm,nt,mem,fix,bT,bK⟩⟩) dst
 |some (v,us,ok)=>fun _ dst f k tm nt mem fix bT bK=>VG (motive:=fun _=>Ev) (.must (ok&&true) ⟨f,k,⟨tm,nt,apply mem us,fix,bT,bK⟩⟩) (fun d=> .must (ok&&bx d nt) ⟨f,k,⟨(d,v)::tm,nt,apply mem us,fix,bT,bK⟩⟩) dst
abbrev CJ (α:Type):=Program→Env→FuncId→rM→Nat→Mem→Nat→List Mark→Ld→α
def wI (todo:List It):CJ Ev:=fun P E f tm nt mem fix bT bK=>step P E ⟨f,todo,⟨tm,nt,mem,fix,bT,bK⟩⟩
def JS (o:Oper) (bL:Nat) (ops:Array Oper) (i:Nat) (sure:Bool) (k:List It):CJ Ev:=fun P E f tm nt mem fix bT bK=>
 Em (Rj P (fun i=>mem.getD i .dead) (E.wr f (o.dst.getD 0)) mem.length (OJ E tm) o) (step P E ⟨f,.ops bL ops i sure::k,⟨tm,nt,mem,fix,bT,bK⟩⟩) o.dst f (.ops bL ops (i+1) false::k) tm nt mem fix bT bK
def Mp (_:Oper) (bL:Nat) (ops:Array Oper) (i:Nat) (sure:Bool) (k:List It):CJ Ev:=wI (.ops bL ops i sure::k)
abbrev TL:=Oper→Nat→Array Oper→Nat→Bool→List It→CJ Ev
def Lp:Bool→Bool→Option (Nat×Bool)→TL
 |false,false,none=>JS
 |_,_,_=>Mp
def Hj:Option Oper→Nat→Array Oper→Nat→Bool→List It→CJ Ev
 |none=>fun _ _ _ _ k _ _ f tm nt mem fix bT bK=> .next ⟨f,k,⟨tm,nt,mem,fix,bT,bK⟩⟩
 |some o=>Lp (Dt o.op) (AK o.op) o.guard o
def Mq (i:Nat) (c:Code) (k:List It):CJ Ev:=wI (.code i c::k)
def Mr (_:Nat) (k:List It):CJ Ev:=fun _ _ f tm nt mem fix bT bK=> .next ⟨f,k,⟨tm,nt,mem,fix,bT,bK⟩⟩
def OK (id:Nat) (ops:Array Oper) (_:Nat) (k:List It):CJ Ev:=fun _ _ f tm nt mem fix bT bK=> .next ⟨f,.ops id ops 0 false::k,⟨tm,nt,mem,fix,bT,bK⟩⟩
def OL (a b:Code) (i:Nat) (k:List It):CJ Ev:=fun _ _ f tm nt mem fix bT bK=> .next ⟨f,.code i a :: .code (i+nodes a) b::k,⟨tm,nt,mem,fix,bT,bK⟩⟩
def JT (id:Nat) (b:Code) (i:Nat) (k:List It):CJ Ev:=fun _ _ f tm nt mem fix bT bK=> .next ⟨f,.code i b :: .inBlock id::k,⟨tm,nt,mem,fix,bT,bK⟩⟩
def Hl:AV→bB→bB→Ev
 |.p (.sc (.bool t))=>fun y z=> .test t y z
 |_=>fun _ _=> .fail
def Ms (x:Operand) (a b:Code) (i:Nat) (k:List It):CJ Ev:=fun _ E f tm nt mem fix bT bK=>
 Hl (OJ E tm x) ⟨f,.code (i+1) a::eC (E.keep f (2*i)) k,⟨tm,nt,mem,fix,bT,bK⟩⟩ ⟨f,.code (i+1+nodes a) b::eC (E.keep f (2*i)) k,⟨tm,nt,mem,fix,bT,bK⟩⟩
def Mt (id:Nat) (i:Nat) (k:List It):CJ Ev:=fun P E f tm nt mem fix bT bK=>VG (motive:=fun _=>Ev) (wI (.code i (.exit id)::k) P E f tm nt mem fix bT bK) (fun k'=> .next ⟨f,k',⟨tm,nt,mem,fix,bT,bK⟩⟩) (bQ id k)
def Mu:Code→Nat→List It→CJ Ev
 |.block id b=>JT id b
 |.cond x a b=>Ms x a b
 |.exit id=>Mt id
 |.skip=>Mr
 |.seq a b=>OL a b
 |.region id ops false=>OK id ops
 |c=>fun i k=>Mq i c k
def Ho (k:List It):CJ Ev:=fun _ _ f tm nt mem fix bT bK=> .next ⟨f,k,⟨tm,nt,mem,fix,bT,bK⟩⟩
def Rl:It→List It→CJ Ev
 |.inBlock _=>Ho
 |.inScope _=>Ho
 |.ops bL ops i sure=>fun k=>Hj (JQ ops i) bL ops i sure k
 |.code i c=>fun k=>Mu c i k
 |x=>fun k=>wI (x::k)
def Mv:List It→CJ Ev
 |[]=>wI []
 |x::k=>Rl x k
def Hp (P:Program) (E:Env) (c:bB):Ev:=bB.rec (motive:=fun _=>Ev) (fun f todo st=>St.rec (motive:=fun _=>Ev) (fun tm nt mem fix bT bK=>Mv todo P E f tm nt mem fix bT bK) st) c
theorem Fx (o:Oper):AK o.op=makes o:=by
 obtain⟨dst,op,type,pos,after,guard⟩:=o
 cases op<;>rfl
theorem Hq (P:Program) (E:Env) (c:bB):Hp P E c=step P E c:=by
 obtain⟨f,todo,tm,nt,mem,fix,bT,bK⟩:=c
 cases todo with
 |nil=>rfl
 |cons x k=>
  cases x with
  |code i c=>
   cases c with
   |region id ops b=>cases b<;>rfl
   |cond x a b=>
    show Hl (OJ E tm x) _ _=_
    rw[Hi]
    simp only[step]
    split
    · rename_i t ht;rw[ht];rfl
    · rename_i hne
      generalize ev E tm x=v at hne
      cases v with
      |p v=>cases v with
       |sc v=>cases v with
        |bool t=>exact absurd rfl (hne t)
        |_=>rfl
       |_=>rfl
      |_=>rfl
   |exit id=>
    show VG (motive:=fun _=>Ev) _ _ (bQ id k)=_
    cases he:bQ id k with
    |none=>rfl
    |some k'=>simp only[step,he]
   |_=>rfl
  |ops bL ops i sure=>
   show Hj (JQ ops i) bL ops i sure k P E f tm nt mem fix bT bK=_
   rw[JR]
   cases ho:ops[i]? with
   |none=>simp only[Hj,step,ho]
   |some o=>
    show Lp (Dt o.op) (AK o.op) o.guard o bL ops i sure k P E f tm nt mem fix bT bK=_
    cases h1:Dt o.op with
    |true=>rfl
    |false=>
     cases h2:AK o.op with
     |true=>rfl
     |false=>
      cases h3:o.guard with
      |some q=>rfl
      |none=>
       rw[Fx] at h2
       have ht:target (ev E tm) o=none:=by
        obtain⟨dst,op,type,pos,after,guard⟩:=o
        cases op<;>first | rfl | cases h1
       have hy:uK (ev E tm) o=none:=by
        obtain⟨dst,op,type,pos,after,guard⟩:=o
        cases op<;>first | rfl | cases h1
       show Em (Rj P (fun i=>mem.getD i .dead) (E.wr f (o.dst.getD 0)) mem.length (OJ E tm) o) (step P E ⟨f,.ops bL ops i sure::k,⟨tm,nt,mem,fix,bT,bK⟩⟩) o.dst f (.ops bL ops (i+1) false::k) tm nt mem fix bT bK=_
       rw[Mn,Hi]
       have hr:reserve o mem=mem:=by simp[reserve,h2]
       cases hop:tG P (fun i=>mem.getD i .dead) (E.wr f (o.dst.getD 0)) mem.length (ev E tm) o with
       |none=>rfl
       |some r=>
        simp only[step,ho,dP,h3,Gt,ht,hy,hr,hop]
        obtain⟨v,us,ok⟩:=r
        cases us with
        |nil=>cases hd:o.dst<;>simp[Em,fits,put,apply]
        |cons u us=>cases hd:o.dst<;>simp[Em,fits,put]
  |_=>rfl
abbrev RunT:=Program→Env→List cF→(bB→Option Out)→Option Out
def OM (c:bB):RunT:=fun _ _ _ ih=>ih c
def ON (b:Bool) (c:bB):RunT:=fun _ _ _ ih=>VC (motive:=fun _=>Option Out) none (ih c) b
def OO (b:Bool) (y z:bB):RunT:=fun _ _ _ ih=>VC (motive:=fun _=>Option Out) (ih z) (ih y) b
def OP (g:FuncId) (args:List AV) (m:Mem) (ord:List Nat) (dst:Option Tmp) (c:bB):RunT:=fun P _ K ih=>match lZ K g args m with
     |some (v,m1)=>ih {c with st:=back ord dst c.st v m1}
     |none=>match init P g args m with
      |some ci=>match ih ci with
       |some (.ret v m1)=>ih {c with st:=back ord dst c.st v m1}
       |some (.ot u m1)=>ih (m6 ord c u m1)
       |none=>none
      |none=>none
def OQ (g:FuncId) (args:List AV) (m:Mem) (ord:List Nat) (pv:Option AV) (c:bB):RunT:=fun P _ _ ih=>match Br P g args m pv with
     |some ci=>match ih ci with
      |some (.ret _ m1)=>ih {c with st:=back ord none c.st (.bk []) m1}
      |_=>none
     |none=>none
def Mw (args:List AV) (m:Mem) (ord:List Nat) (dst:Option Tmp) (c:bB):RunT:=fun _ _ _ ih=>match Bp args m with
     |some ci=>match ih ci with
      |some (.ret v m1)=>ih {c with st:=back ord dst c.st v m1}
      |_=>none
     |none=>none
def Mx (g:FuncId) (args:List AV) (m:Mem) (ord:List Nat) (L:Nat) (c:bB):RunT:=fun P _ _ ih=>match init P g args m with
     |some ci=>match ih ci with
      |some (.ret v m1)=>match fT (back ord none c.st v m1).mem L with
       |some (m2,pd)=>ih (behind c m2 pd)
       |none=>none
      |_=>none
     |none=>none
def OR (bL:Nat) (ops:Array Oper) (c:bB):RunT:=fun P E K ih=>match jJ P E c.f bL (fun g args m=>match lZ K g args m with
       |some r=>some r
       |none=>match init P g args m with
        |some ci=>match ih ci with
         |some (.ret v m1)=>some (v,m1)
         |_=>none
        |none=>none) ops c.st with
     |some (st,ok)=>cond ok (ih {c with st:={st with bT:=c.st.bT,bK:=c.st.bK}}) none
     |none=>none
def OS (l:List bB):RunT:=fun _ _ _ ih=>agree (l.map ih)
def OT (o:Out):RunT:=fun _ _ _ _=>some o
def OU:RunT:=fun _ _ _ _=>none
def Lq:Ev→RunT
 |.next c=>OM c
 |.must b c=>ON b c
 |.test b y z=>OO b y z
 |.call g args m ord dst c=>OP g args m ord dst c
 |.round args m ord dst c=>Mw args m ord dst c
 |.range g args m ord L c=>Mx g args m ord L c
 |.draw bL ops c=>OR bL ops c
 |.fork l=>OS l
 |.late g args m ord pv c=>OQ g args m ord pv c
 |.done o=>OT o
 |.fail=>OU
def Hr (P:Program) (E:Env) (K:List cF) (n:Nat):bB→Option Out:=
 VE (motive:=fun _=>bB→Option Out) (fun _=>none) (fun _ ih c=>Lq (Hp P E c) P E K ih) n
theorem Cb (P:Program) (E:Env) (K:List cF) : ∀n,Hr P E K n=exec P E K n
 |0=>by funext c;rfl
 |n+1=>by
  funext c
  show Lq (Hp P E c) P E K (Hr P E K n)=exec P E K (n+1) c
  rw[Hq,Cb P E K n]
  unfold exec
  cases step P E c with
  |must b c=>cases b<;>rfl
  |test b y z=>cases b<;>rfl
  |_=>rfl
def Du (P:Program) (E:Env) (K:List cF) (n:Nat) (g:FuncId) (args:List AV) (m:Mem):Option Out:=
 match init P g args m with
 |some c=>Hr P E K n c
 |none=>none
theorem Fy (P:Program) (E:Env) (K:List cF) (n:Nat) (g:FuncId) (args:List AV) (m:Mem):Du P E K n g args m=D3 P E K n g args m:=by
 unfold Du D3
 rw[Cb]
 cases init P g args m<;>rfl
theorem fI {P:Program} {E:Env} (hN:eZ P) {K:List cF} (hK:fu P E K) {n:Nat} {f:FuncId} {args:List AV} {m m':Mem} {v:AV} (h:Du P E K n f args m=some (.ret v m')):aG P E f args m v m':=
 yp hN hK (n:=n) (by rw[←Fy];exact h)
end
open Go.RowKit
inductive aN where
 |out (o:Out)
 |at(c:bB)
 |must (b:Bool) (t:aN)
 |need (p:Prop) (t:aN)
 |test (b:Bool) (y z:aN)
 |call (q:cF) (t:aN)
 |both (y z:aN)
 |stuck
structure gQ where
 call:FuncId→List AV→Mem→Option (AV×Mem)
 Jh:FuncId→List AV→Mem→Option (AV×Mem):=fun _ _ _=>none
 cut:FuncId→Nat→Bool
 fork:FuncId→Nat→Nat→Bool
 hard:FuncId→Nat→Nat→Bool
 shape:FuncId→Nat→Nat→Option (AV→AV)
def place (c:bB):Nat×Nat:=match c.todo with
 |.code i _::_=>(0,i)
 |.ops bL _ k _::_=>(bL+1,k)
 |_=>(0,0)
def cutAt (O:gQ) (c:bB):Bool:=match c.todo with
 |.inLoop i _::_=>O.cut c.f i
 |.code i (.loop _)::_=>O.cut c.f i
 |_=>false
def Dv (c:bB):Option Tmp:=match c.todo with
 |.ops _ ops k _::_=>match ops[k]? with
  |some o=>o.dst
  |none=>none
 |_=>none
def Hs (c:bB):Bool:=match c.todo with
 |.ops .. :: _=>true
 |_=>false
def reshape (sh:AV→AV) (d:Tmp) (c:bB):bB:={c with st:=put c.st (some d) (sh (look c.st.tm d))}
def shaped (sh:Option (AV→AV)) (d:Option Tmp) (c:bB) (k:bB→aN):aN:=
 match sh,d,Hs c with
 |some sh,some d,true=> .need (look c.st.tm d=sh (look c.st.tm d)) (k (reshape sh d c))
 |_,_,_=>k c
def wJ (m:Mem) (i:Nat):List AV:=match m.getD i .dead with
 |.ob _ l=>l
 |_=>[]
def AL (i:Nat) (l:List AV) (m:Mem):Mem:=match m.getD i .dead with
 |.ob k _=>m.set i (.ob k l)
 |_=>m
def qO (sh:Option (AV→AV)) (c:bB) (k:bB→aN):aN:=match sh with
 |none=>k c
 |some sh=>match sh .af with
  |.fn (.func i) _ l=> .need (wJ c.st.mem i=l) (k {c with st:={c.st with mem:=AL i l c.st.mem}})
  |_=>k c
def wK (h b:Bool) (t:aN):aN:=
 match h with
 |true=> .must b t
 |false=>match b with
  |true=>t
  |false=> .stuck
inductive Sc where
 |fork (y z:Sc)
 |yes (s:Sc)
 |no (s:Sc)
 |lit (s:Sc)
 |ans (g:FuncId) (v:AV) (m:Mem) (s:Sc)
 |Jh (f bL:Nat) (L:FuncId→List AV→Mem→Option (AV×Mem)) (s:Sc)
 |fin
def JU (g:FuncId):Sc→Option (AV×Mem×Sc)
 |.ans h v m s=>cond (be h g) (some (v,m,s)) none
 |_=>none
def JV (f bL:Nat):Sc→Option ((FuncId→List AV→Mem→Option (AV×Mem))×Sc)
 |.Jh f' Rm L s=>cond (be f f'&&be bL Rm) (some (L,s)) none
 |_=>none
def nO (E:Env) (O:FuncId→List AV→Mem→Option (AV×Mem)) (o:Oper) (st:St):List cF:=
 match target (ev E st.tm) o with
 |some (g,args)=>match O g (eA (idx (close st.mem 0 args)) args) (pack st.mem (close st.mem 0 args)) with
  |some (v,m1)=>[⟨g,eA (idx (close st.mem 0 args)) args,pack st.mem (close st.mem 0 args),v,m1⟩]
  |none=>[]
 |none=>[]
def o7 (P:Program) (E:Env) (f bL:Nat) (O:FuncId→List AV→Mem→Option (AV×Mem)) (ops:Array Oper):List Oper→Nat→St→List cF
 |[],_,_=>[]
 |o::r,nx,st=>
  let skip:=o7 P E f bL O ops r nx (put st o.dst (.bk []))
  let qp:=nO E O o st++match jd P E f bL O nx o st with
   |some (d,jI,_)=>o7 P E f bL O ops r jI (put {st with mem:=apply st.mem d.us} o.dst d.v)
   |none=>[]
  match dP ops st.tm o with
  |.yes=>qp
  |.no=>skip
  |.ask _ b want=>match b==want with
   |true=>qp
   |false=>skip
  |.lost=>[]
def asked (P:Program) (E:Env) (f bL:Nat) (O:FuncId→List AV→Mem→Option (AV×Mem)) (ops:Array Oper) (st:St):List cF:=
 o7 P E f bL O ops (ops.toList.take (gp ops)) st.mem.length {st with mem:=st.mem++bC (60+ops.size)}
def wL:List cF→aN→aN
 |[],t=>t
 |q::r,t=> .call q (wL r t)
def grow (P:Program) (E:Env) (O:gQ):Nat→Bool→bB→Sc→(Out→Sc→aN)→aN
 |0,_,_,_,_=> .stuck
 |n+1,top,c,s,K=>match cutAt O c with
  |true=>match top,step P E c with
   |true,.next c'=> .at c'
   |_,_=> .stuck
  |false=>match step P E c with
   |.next c'=>grow P E O n top c' s K
   |.must b c'=>
    wK (O.hard c.f (place c).1 (place c).2) b (shaped (O.shape c.f (place c).1 (place c).2) (Dv c) c' fun c1=>qO (O.shape c.f ((place c).1+1000) (place c).2) c1 fun c2=>grow P E O n top c2 s K)
   |.test b y z=>match O.fork c.f (place c).1 (place c).2 with
    |true=>match s with
     |.fork s s'=> .test b (grow P E O n top y s K) (grow P E O n top z s' K)
     |.yes s=> .must b (grow P E O n top y s K)
     |.no s=> .must (!b) (grow P E O n top z s K)
     |.lit s=>match b with
      |true=>grow P E O n top y s K
      |false=>grow P E O n top z s K
     |s=> .test b (grow P E O n top y s K) (grow P E O n top z s K)
    |false=>match b with
     |true=>grow P E O n top y s K
     |false=>grow P E O n top z s K
   |.call g args m ord dst c'=>match JU g s with
    |some (v,m1,s)=> .call ⟨g,args,m,v,m1⟩ (shaped (O.shape c.f (place c).1 (place c).2) (Dv c) {c' with st:=back ord dst c'.st v m1} fun c=>grow P E O n top c s K)
    |none=>match O.call g args m with
     |some (v,m1)=> .call ⟨g,args,m,v,m1⟩ (shaped (O.shape c.f (place c).1 (place c).2) (Dv c) {c' with st:=back ord dst c'.st v m1} fun c=>grow P E O n top c s K)
     |none=>match init P g args m with
      |some ci=>grow P E O n false ci s fun o s=>match o with
       |.ret v m1=>grow P E O n top {c' with st:=back ord dst c'.st v m1} s K
       |.ot u m1=>grow P E O n top (m6 ord c' u m1) s K
      |none=> .stuck
   |.late g args m ord pv c'=>match Br P g args m pv with
    |some ci=>grow P E O n false ci s fun o s=>match o with
     |.ret _ m1=>grow P E O n top {c' with st:=back ord none c'.st (.bk []) m1} s K
     |.ot .. => .stuck
    |none=> .stuck
   |.round args m ord dst c'=>match Bp args m with
    |some ci=>grow P E O n false ci s fun o s=>match o with
     |.ret v m1=>grow P E O n top {c' with st:=back ord dst c'.st v m1} s K
     |.ot .. => .stuck
    |none=> .stuck
   |.range g args m ord L c'=>match O.call g args m with
    |some (v,m1)=>match fT (back ord none c'.st v m1).mem L with
      |some (m2,pd)=> .call ⟨g,args,m,v,m1⟩ (grow P E O n top (behind c' m2 pd) s K)
      |none=> .stuck
    |none=>match init P g args m with
     |some ci=>grow P E O n false ci s fun o s=>match o with
      |.ret v m1=>match fT (back ord none c'.st v m1).mem L with
       |some (m2,pd)=>grow P E O n top (behind c' m2 pd) s K
       |none=> .stuck
      |.ot .. => .stuck
     |none=> .stuck
   |.draw bL ops c'=>match JV c'.f bL s with
    |some (L,s)=>match jJ P E c'.f bL L ops c'.st with
     |some (st,ok)=>wL (asked P E c'.f bL L ops c'.st) (wK (O.hard c.f (place c).1 (place c).2) ok (qO (O.shape c.f ((place c).1+1000) (place c).2) {c' with st:={st with bT:=c'.st.bT,bK:=c'.st.bK}} fun c2=>grow P E O n top c2 s K))
     |none=> .stuck
    |none=>match jJ P E c'.f bL O.Jh ops c'.st with
     |some (st,ok)=>wL (asked P E c'.f bL O.Jh ops c'.st) (wK (O.hard c.f (place c).1 (place c).2) ok (qO (O.shape c.f ((place c).1+1000) (place c).2) {c' with st:={st with bT:=c'.st.bT,bK:=c'.st.bK}} fun c2=>grow P E O n top c2 s K))
     |none=> .stuck
   |.fork l=>match top,l with
    |true,[y,z]=>match s with
     |.fork s s'=> .both (grow P E O n top y s K) (grow P E O n top z s' K)
     |s=> .both (grow P E O n top y s K) (grow P E O n top z s K)
    |_,_=> .stuck
   |.done o=>K o s
   |_=> .stuck
def aN.ok (P:Program) (E:Env) (o:Out):aN→Prop
 |.out o'=>o'=o
 |.at c=>dK P E c o
 |.must b t=>b=true∧t.ok P E o
 |.need p t=>p∧t.ok P E o
 |.test b y z=>(b=true→y.ok P E o)∧(b=false→z.ok P E o)
 |.call q t=>aG P E q.g q.args q.m q.v q.m'∧t.ok P E o
 |.both y z=>y.ok P E o∧z.ok P E o
 |.stuck=>False
section
variable {P:Program} {E:Env}
theorem wM {sh:AV→AV} {d:Tmp} {c:bB} {o:Out} (hin:Hs c=true) (h:look c.st.tm d=sh (look c.st.tm d)) (hg:dK P E (reshape sh d c) o):dK P E c o:=by
 intro g fr w cs hc
 have dJ:cm P E g (reshape sh d c) fr w:=by
  obtain⟨f,todo,st⟩:=c
  cases todo with
  |nil=>cases hin
  |cons x k=>
   cases x with
   |ops bL ops i sure=>
    obtain⟨b,a,q1,q2,q3,q4,q5,q6⟩:=hc
    exact⟨b,a,q1,q2,q3,q4,q5.known (h▸q5.tm d),q6⟩
   |_=>cases hin
 exact hg g fr w cs dJ
theorem sK {h b:Bool} {t:aN} {o:Out} (k:(wK h b t).ok P E o):b=true∧t.ok P E o:=by
 cases h with
 |true=>exact k
 |false=>cases b with
  |true=>exact⟨rfl,k⟩
  |false=>exact k.elim
def dI (P:Program) (E:Env) (top:Bool) (c:bB) (K:Out→Sc→aN) (o:Out):Prop:=(∃o1 s1,dK P E c o1∧(K o1 s1).ok P E o)∨(top=true∧dK P E c o)
theorem dI.au {top:Bool} {c c':bB} {K:Out→Sc→aN} {o:Out} (hg : ∀g fr w,cm P E g c fr w→ef P E g c fr w c') (h:dI P E top c' K o):dI P E top c K o:=by
 rcases h with⟨o1,s1,h1,h2⟩ | ⟨h1,h2⟩
 · exact .inl ⟨o1,s1,dK.au hg h1,h2⟩
 · exact .inr ⟨h1,dK.au hg h2⟩
theorem mz {top:Bool} {sh:Option (AV→AV)} {d:Option Tmp} {c:bB} {k:bB→aN} {K:Out→Sc→aN} {o:Out} (hk : ∀c,(k c).ok P E o→dI P E top c K o) (h:(shaped sh d c k).ok P E o):dI P E top c K o:=by
 unfold shaped at h
 split at h
 · rename_i hin
   rcases hk _ h.2 with⟨o1,s1,h1,h2⟩ | ⟨h1,h2⟩
   · exact .inl ⟨o1,s1,wM hin h.1 h1,h2⟩
   · exact .inr ⟨h1,wM hin h.1 h2⟩
 · exact hk c h
theorem qY {i:Nat} {l:List AV} {m:Mem} (h:wJ m i=l):AL i l m=m:=by
 subst h
 unfold AL wJ
 split
 · rename_i k l' hk
   refine List.ext_getElem? fun j=> ?_
   by_cases hj:i=j
   · subst hj
     rw[dt] at hk
     cases hm:m[i]? with
     |none=>rw[hm] at hk;cases hk
     |some x=>
      rw[hm] at hk
      have hk:x = .ob k l':=hk
      subst hk
      have hlt:i<m.length:=(List.getElem?_eq_some_iff.1 hm).1
      rw[oT hlt]
   · rw[ph hj]
 · rfl
theorem nQ {top:Bool} {sh:Option (AV→AV)} {c:bB} {k:bB→aN} {K:Out→Sc→aN} {o:Out} (hk : ∀c,(k c).ok P E o→dI P E top c K o) (h:(qO sh c k).ok P E o):dI P E top c K o:=by
 unfold qO at h
 split at h
 · exact hk c h
 · split at h
   · obtain⟨h1,h2⟩:=h
     rw[qY h1] at h2
     exact hk c h2
   · exact hk c h
def OV (P:Program) (E:Env) (call:FuncId→List AV→Mem→Option (AV×Mem)):Prop:= ∀g args m v m1,call g args m=some (v,m1)→aG P E g args m v m1
theorem oJ {t:aN} {o:Out} : ∀{l:List cF},(wL l t).ok P E o→fu P E l∧t.ok P E o
 |[],h=>⟨fun _ hq=>(by cases hq),h⟩
 |q::l,h=>⟨fun q' hq=>by
   cases hq with
   |head=>exact h.1
   |tail _ hq=>exact(oJ (l:=l) h.2).1 q' hq,(oJ (l:=l) h.2).2⟩
open Classical in
def only(O:FuncId→List AV→Mem→Option (AV×Mem)) (l:List cF) (g:FuncId) (args:List AV) (m:Mem):Option (AV×Mem):=
 if ∃q∈l,q.g=g∧q.args=args∧q.m=m then O g args m else none
theorem JW {O:FuncId→List AV→Mem→Option (AV×Mem)} {l:List cF} {g:FuncId} {args:List AV} {m:Mem} (h : ∃q∈l,q.g=g∧q.args=args∧q.m=m):only O l g args m=O g args m:=by
 unfold only;rw[if_pos h]
theorem AM {f bL:Nat} {O O':FuncId→List AV→Mem→Option (AV×Mem)} {nx:Nat} {o:Oper} {st:St} (h : ∀q∈nO E O o st,O' q.g q.args q.m=O q.g q.args q.m) {r:gD×Nat×Bool} (hr:ox P E f bL O nx o st=some r):ox P E f bL O' nx o st=some r:=by
 unfold ox at hr ⊢
 unfold nO at h
 cases ht:target (ev E st.tm) o with
 |none=>simp only[ht] at hr ⊢;exact hr
 |some ga=>
  obtain⟨g,args⟩:=ga
  simp only[ht] at hr h ⊢
  cases hO:O g (eA (idx (close st.mem 0 args)) args) (pack st.mem (close st.mem 0 args)) with
  |none=>simp only[hO] at hr;cases hr
  |some vm=>
   obtain⟨v,m1⟩:=vm
   simp only[hO] at h hr
   have:=h _ (.head _)
   simp only at this
   rw[this,hO]
   exact hr
theorem Cc {f bL:Nat} {O O':FuncId→List AV→Mem→Option (AV×Mem)} {nx:Nat} {o:Oper} {st:St} (h : ∀q∈nO E O o st,O' q.g q.args q.m=O q.g q.args q.m) {r:gD×Nat×Bool} (hr:jd P E f bL O nx o st=some r):jd P E f bL O' nx o st=some r:=by
 unfold jd at hr ⊢
 cases hl:ox P E f bL O nx o st with
 |none=>
  rw[hl] at hr
  unfold D2 at hr
  split at hr<;>cases hr
 |some x=>
  rw[AM h hl]
  rw[hl] at hr
  exact hr
theorem pW {f bL:Nat} {O O':FuncId→List AV→Mem→Option (AV×Mem)} {ops:Array Oper} : ∀(l:List Oper) (nx:Nat) (st:St) (r:St×Nat×List gD×Bool),(∀q∈o7 P E f bL O ops l nx st,O' q.g q.args q.m=O q.g q.args q.m)→iA P E f bL O ops l nx st=some r→iA P E f bL O' ops l nx st=some r
 |[],_,_,_,_,h=>h
 |o::l,nx,st,r,ha,h=>by
  unfold iA at h ⊢
  unfold o7 at ha
  have Lr : ∀r,(∀q∈o7 P E f bL O ops l nx (put st o.dst (.bk [])),O' q.g q.args q.m=O q.g q.args q.m) →
    (match iA P E f bL O ops l nx (put st o.dst (.bk [])) with
      |some (st',oS,ds,ok)=>some (st',oS,(⟨.bk [],[],[],fun _ _=>false⟩:gD)::ds,fits st o.dst&&ok)
      |none=>none)=some r →
    (match iA P E f bL O' ops l nx (put st o.dst (.bk [])) with
      |some (st',oS,ds,ok)=>some (st',oS,(⟨.bk [],[],[],fun _ _=>false⟩:gD)::ds,fits st o.dst&&ok)
      |none=>none)=some r:=by
   intro r hq hr
   cases hg:iA P E f bL O ops l nx (put st o.dst (.bk [])) with
   |none=>rw[hg] at hr;cases hr
   |some x=>rw[pW l nx _ x hq hg];rw[hg] at hr;exact hr
  have L7 : ∀r,(∀q∈nO E O o st++(match jd P E f bL O nx o st with
        |some (d,jI,_)=>o7 P E f bL O ops l jI (put {st with mem:=apply st.mem d.us} o.dst d.v)
        |none=>[]),O' q.g q.args q.m=O q.g q.args q.m) →
    (match jd P E f bL O nx o st with
      |some (d,jI,ok)=>match iA P E f bL O ops l jI (put {st with mem:=apply st.mem d.us} o.dst d.v) with
       |some (st',oS,ds,ok')=>some (st',oS,d::ds,ok&&(fits st o.dst&&ok'))
       |none=>none
      |none=>none)=some r →
    (match jd P E f bL O' nx o st with
      |some (d,jI,ok)=>match iA P E f bL O' ops l jI (put {st with mem:=apply st.mem d.us} o.dst d.v) with
       |some (st',oS,ds,ok')=>some (st',oS,d::ds,ok&&(fits st o.dst&&ok'))
       |none=>none
      |none=>none)=some r:=by
   intro r hq hr
   cases h1:jd P E f bL O nx o st with
   |none=>rw[h1] at hr;cases hr
   |some x=>
    obtain⟨d,jI,ok⟩:=x
    rw[Cc (fun q hm=>hq q (pn.2 (.inl hm))) h1]
    rw[h1] at hr hq
    dsimp only at hr hq ⊢
    cases hg:iA P E f bL O ops l jI (put {st with mem:=apply st.mem d.us} o.dst d.v) with
    |none=>rw[hg] at hr;cases hr
    |some y=>rw[pW l jI _ y (fun q hm=>hq q (pn.2 (.inr hm))) hg];rw[hg] at hr;exact hr
  dsimp only at h ha ⊢
  cases hw:dP ops st.tm o with
  |yes=>simp only[hw] at h ha ⊢;exact L7 r ha h
  |no=>simp only[hw] at h ha ⊢;exact Lr r ha h
  |lost=>simp only[hw] at h;cases h
  |ask d b want=>
   simp only[hw] at h ha ⊢
   cases hb:b==want with
   |true=>simp only[hb] at h ha ⊢;exact L7 r ha h
   |false=>simp only[hb] at h ha ⊢;exact Lr r ha h
theorem oK {f bL:Nat} {O:FuncId→List AV→Mem→Option (AV×Mem)} {ops:Array Oper} {st:St} {r:St×Bool} (h:jJ P E f bL O ops st=some r):jJ P E f bL (only O (asked P E f bL O ops st)) ops st=some r:=by
 unfold jJ at h ⊢
 cases hg:iA P E f bL O ops (ops.toList.take (gp ops)) st.mem.length {st with mem:=st.mem++bC (60+ops.size)} with
 |none=>rw[hg] at h;cases h
 |some x=>
  rw[pW (O':=only O (asked P E f bL O ops st)) _ _ _ x (fun q hq=>JW ⟨q,hq,rfl,rfl,rfl⟩) hg]
  rw[hg] at h;exact h
theorem Fz {O:FuncId→List AV→Mem→Option (AV×Mem)} {o:Oper} {st:St} {q:cF} (h:q∈nO E O o st):O q.g q.args q.m=some (q.v,q.m'):=by
 unfold nO at h
 split at h
 · split at h
   · rename_i hO
     cases h with
     |head=>exact hO
     |tail _ h=>cases h
   · cases h
 · cases h
theorem qZ {f bL:Nat} {O:FuncId→List AV→Mem→Option (AV×Mem)} {ops:Array Oper} : ∀(l:List Oper) (nx:Nat) (st:St) (q:cF),q∈o7 P E f bL O ops l nx st→O q.g q.args q.m=some (q.v,q.m')
 |[],_,_,_,h=>by cases h
 |o::l,nx,st,q,h=>by
  unfold o7 at h
  have L7:q∈nO E O o st++(match jd P E f bL O nx o st with
        |some (d,jI,_)=>o7 P E f bL O ops l jI (put {st with mem:=apply st.mem d.us} o.dst d.v)
        |none=>[])→O q.g q.args q.m=some (q.v,q.m'):=by
   intro h
   rcases pn.1 h with h | h
   · exact Fz h
   · split at h
     · exact qZ l _ _ q h
     · cases h
  dsimp only at h
  split at h
  · exact L7 h
  · exact qZ l _ _ q h
  · split at h
    · exact L7 h
    · exact qZ l _ _ q h
  · cases h
theorem mA {f bL:Nat} {O:FuncId→List AV→Mem→Option (AV×Mem)} {ops:Array Oper} {st:St} (h:fu P E (asked P E f bL O ops st)):OV P E (only O (asked P E f bL O ops st)):=by
 intro g args m v m1 hO
 unfold only at hO
 split at hO
 · rename_i hq
   obtain⟨q,hm,rfl,rfl,rfl⟩:=hq
   have:=qZ _ _ _ q hm
   rw[this] at hO
   obtain⟨rfl,rfl⟩:q.v=v∧q.m'=m1:=by simpa using hO
   exact h q hm
 · cases hO
theorem aT (hN:eZ P) {O:gQ} {o:Out} : ∀(n:Nat) (top:Bool) (c:bB) (s:Sc) (K:Out→Sc→aN),(top=true → ∀o1 s1,(K o1 s1).ok P E o→o1=o)→(grow P E O n top c s K).ok P E o→dI P E top c K o
 |0,_,_,_,_,_,h=>h.elim
 |n+1,top,c,s,K,hK,h=>by
  unfold grow at h
  split at h
  · split at h
    · rename_i c' hs;exact .inr ⟨rfl,dK.au (lH hs) h⟩
    · exact h.elim
  · split at h
    · rename_i c' hs;exact dI.au (lH hs) (aT hN n top c' s K hK h)
    · rename_i b c' hs
      obtain⟨rfl,hb⟩:=sK h
      exact dI.au (sD hs) (mz (fun c=>nQ fun c=>aT hN n top c s K hK) hb)
    · rename_i b y z hs
      have gt:=sG hs
      split at h
      · split at h
        · cases b with
          |true=>exact dI.au gt (aT hN n top y _ K hK (h.1 rfl))
          |false=>exact dI.au gt (aT hN n top z _ K hK (h.2 rfl))
        · obtain⟨rfl,h⟩:=h
          exact dI.au gt (aT hN n top y _ K hK h)
        · obtain⟨hb,h⟩:=h
          cases b with
          |true=>cases hb
          |false=>exact dI.au gt (aT hN n top z _ K hK h)
        · cases b with
          |true=>exact dI.au gt (aT hN n top y _ K hK h)
          |false=>exact dI.au gt (aT hN n top z _ K hK h)
        · cases b with
          |true=>exact dI.au gt (aT hN n top y _ K hK (h.1 rfl))
          |false=>exact dI.au gt (aT hN n top z _ K hK (h.2 rfl))
      · cases b with
        |true=>exact dI.au gt (aT hN n top y _ K hK h)
        |false=>exact dI.au gt (aT hN n top z _ K hK h)
    · rename_i f args m ord dst c' hs
      split at h
      · rename_i v m1 s' _
        exact dI.au (gH hs h.1) (mz (fun c=>aT hN n top c s' K hK) h.2)
      split at h
      · exact dI.au (gH hs h.1) (mz (fun c=>aT hN n top c s K hK) h.2)
      · split at h
        · rename_i ci hi
          rcases aT hN n false ci s _ nofun h with⟨o1,s1,h1,h2⟩ | ⟨h1,_⟩
          · cases o1 with
            |ret v m1=>exact dI.au (gH hs (dA hN hi h1)) (aT hN n top _ s1 K hK h2)
            |ot v m1=>exact dI.au (nN hs (kV hN hi h1)) (aT hN n top _ s1 K hK h2)
          · cases h1
        · exact h.elim
    · rename_i g args m ord pv c' hs
      split at h
      · rename_i ci hi
        rcases aT hN n false ci s _ nofun h with⟨o1,s1,h1,h2⟩ | ⟨h1,_⟩
        · cases o1 with
          |ret v m1=>exact dI.au (sH hs (kX hN hi h1)) (aT hN n top _ s1 K hK h2)
          |ot v m1=>exact h2.elim
        · cases h1
      · exact h.elim
    · rename_i args m ord dst c' hs
      split at h
      · rename_i ci hi
        rcases aT hN n false ci s _ nofun h with⟨o1,s1,h1,h2⟩ | ⟨h1,_⟩
        · cases o1 with
          |ret v m1=>exact dI.au (pV hs (kW hi h1)) (aT hN n top _ s1 K hK h2)
          |ot v m1=>exact h2.elim
        · cases h1
      · exact h.elim
    · rename_i g args m ord L c' hs
      split at h
      · split at h
        · rename_i m2 pd hend
          exact dI.au (jW hs h.1 hend) (aT hN n top _ s K hK h.2)
        · exact h.elim
      split at h
      · rename_i ci hi
        rcases aT hN n false ci s _ nofun h with⟨o1,s1,h1,h2⟩ | ⟨h1,_⟩
        · cases o1 with
          |ret v m1=>
           dsimp only at h2
           split at h2
           · rename_i m2 pd hend
             exact dI.au (jW hs (dA hN hi h1) hend) (aT hN n top _ s1 K hK h2)
           · exact h2.elim
          |ot v m1=>exact h2.elim
        · cases h1
      · exact h.elim
    · rename_i bL ops c' hs
      split at h
      · rename_i L s' _
        split at h
        · rename_i st ok hq
          obtain⟨hcs,h⟩:=oJ h
          obtain⟨rfl,hb⟩:=sK h
          exact dI.au (lI hs (mA hcs) (oK hq)) (nQ (fun c=>aT hN n top c s' K hK) hb)
        · exact h.elim
      split at h
      · rename_i st ok hq
        obtain⟨hcs,h⟩:=oJ h
        obtain⟨rfl,hb⟩:=sK h
        exact dI.au (lI hs (mA hcs) (oK hq)) (nQ (fun c=>aT hN n top c s K hK) hb)
      · exact h.elim
    · rename_i l hs
      have both : ∀{y z:bB} {sy sz:Sc},top=true→l=[y,z]→(grow P E O n top y sy K).ok P E o→(grow P E O n top z sz K).ok P E o→dI P E top c K o:=by
       intro y z sy sz ht hl h1 h2
       subst hl
       have one : ∀{x:bB} {sx:Sc},(grow P E O n top x sx K).ok P E o→dK P E x o:=fun hx=>by
        rcases aT hN n top _ _ K hK hx with⟨o1,s1,k1,k2⟩ | ⟨_,k1⟩
        · exact hK ht o1 s1 k2▸k1
        · exact k1
       refine .inr ⟨ht,dK.AJ (sJ hs) fun c' dJ=> ?_⟩
       simp only[List.mem_cons,List.not_mem_nil,or_false] at dJ
       rcases dJ with rfl | rfl
       · exact one h1
       · exact one h2
      split at h
      · split at h
        · exact both rfl rfl h.1 h.2
        · exact both rfl rfl h.1 h.2
      · exact h.elim
    · rename_i o' hs
      exact .inl ⟨o',s,sC hs,h⟩
    · exact h.elim
def atEnd (o:Out) (_:Sc):aN:= .out o
theorem aC (hN:eZ P) {O:gQ} {n:Nat} {c:bB} {s:Sc} {t:aN} {o:Out} (ht:grow P E O n true c s atEnd=t) (h:t.ok P E o):dK P E c o:=by
 subst ht
 rcases aT hN n true c s atEnd (fun _ _ _ h=>h) h with⟨o1,s1,h1,h2⟩ | ⟨_,h1⟩
 · have:o1=o:=h2
   exact this▸h1
 · exact h1
def dF (P:Program) (E:Env) (O:gQ) (n:Nat) (f:FuncId) (args:List AV) (m:Mem) (s:Sc):aN:=
 match init P f args m with
 |some c=>grow P E O n true c s atEnd
 |none=> .stuck
theorem ak (hN:eZ P) {O:gQ} {n:Nat} {f:FuncId} {args:List AV} {m m':Mem} {s:Sc} {v:AV} {t:aN} (ht:dF P E O n f args m s=t) (h:t.ok P E (.ret v m')):aG P E f args m v m':=by
 subst ht
 unfold dF at h
 split at h
 · rename_i c hi;exact dA hN hi (aC hN rfl h)
 · exact h.elim
theorem Dw {P:Program} (h:(P.funcs.toList.all fun fn=> !(fn.name == "runtime.NumGoroutine"))=true):eZ P:=by
 intro f fn hf
 rw[List.all_eq_true] at h
 have:=h fn (by rw[←Array.getElem?_toList] at hf;exact pb hf)
 simpa using this
def iW (E:Env) (f t:Nat):Code→Nat→List It→Option (Code×List It)
 |.loop b,i,k=>match be i t with
  |true=>some (b,k)
  |false=>iW E f t b (i+1) (.inLoop i b::eC (E.keep f (2*i+1)) k)
 |.seq a b,i,k=>match iW E f t a i (.code (i+nodes a) b::k) with
  |some r=>some r
  |none=>iW E f t b (i+nodes a) k
 |.cond _ a b,i,k=>match iW E f t a (i+1) (eC (E.keep f (2*i)) k) with
  |some r=>some r
  |none=>iW E f t b (i+1+nodes a) (eC (E.keep f (2*i)) k)
 |.block id b,i,k=>iW E f t b i (.inBlock id::k)
 |.scope b,i,k=>iW E f t b i (.inScope b::k)
 |_,_,_=>none
def aj (P:Program) (E:Env) (f t:Nat) (vs:List AV) (m:Mem) (fix nt:Nat):bB:=
 match P.funcs[f]? with
 |some fn=>match fn.body with
  |some c=>match iW E f t c 0 [] with
   |some (b,k)=>⟨f,.code (t+1) b :: .inLoop t b::eC (E.keep f (2*t+1)) k,⟨((E.keep f (2*t)).getD []).zip vs,nt,m,fix,[],.call⟩⟩
   |none=>⟨f,[],⟨[],0,[],0,[],.call⟩⟩
  |none=>⟨f,[],⟨[],0,[],0,[],.call⟩⟩
 |none=>⟨f,[],⟨[],0,[],0,[],.call⟩⟩
def Dx (l:List (Nat×Nat×Nat)) (f a b:Nat):Bool:=match l with
 |[]=>false
 |(f',a',b')::r=>cond (be f f') (cond (be a a') (cond (be b b') true (Dx r f a b)) (Dx r f a b)) (Dx r f a b)
def En (l:List (Nat×Nat)) (f a:Nat):Bool:=match l with
 |[]=>false
 |(f',a')::r=>cond (be f f') (cond (be a a') true (En r f a)) (En r f a)
def Dy (rows:List (Nat×Nat×List Nat)) (f j:Nat):Option (List Nat):=match rows with
 |[]=>none
 |(f',j',l)::r=>cond (be f f'&&be j j') (some l) (Dy r f j)
def cC (_:FuncId) (_:List AV) (_:Mem):Option (AV×Mem):=none
def fy (call Jh:FuncId→List AV→Mem→Option (AV×Mem)) (My:List (Nat×Nat)) (Ht Hu:List (Nat×Nat×Nat)):gQ where
 call:=call
 Jh:=Jh
 cut:=En My
 fork:=Dx Ht
 hard:=Dx Hu
 shape _ _ _:=none
def eF (l:List (Nat×Nat×Nat×AV)) (f a b:Nat):Option (AV→AV):=match l with
 |[]=>none
 |(f',a',b',v)::r=>cond (be f f'&&(be a a'&&be b b')) (some fun _=>v) (eF r f a b)
def pY (call Jh:FuncId→List AV→Mem→Option (AV×Mem)) (My:List (Nat×Nat)) (Ht Hu:List (Nat×Nat×Nat)) (shape:FuncId→Nat→Nat→Option (AV→AV)):gQ where
 call:=call
 Jh:=Jh
 cut:=En My
 fork:=Dx Ht
 hard:=Dx Hu
 shape:=shape
def gI (t:Nat):Code→Nat→Option (Array Tmp×Code×Code)
 |.rangeFunc _ ps as bd,i=>cond (be i t) (some (ps,as,bd)) none
 |.seq a b,i=>match gI t a i with
  |some r=>some r
  |none=>gI t b (i+nodes a)
 |.cond _ a b,i=>match gI t a (i+1) with
  |some r=>some r
  |none=>gI t b (i+1+nodes a)
 |.block _ b,i=>gI t b i
 |.scope b,i=>gI t b i
 |.loop b,i=>gI t b (i+1)
 |_,_=>none
def jX (P:Program) (f t:Nat) (st:LoopState) (pd:Option Code):fR:=
 match P.funcs[f]? with
 |some fn=>match fn.body with
  |some c=>match gI t c 0 with
   |some (ps,as,bd)=> .loop f ps as bd st pd
   |none=> .Lb
  |none=> .Lb
 |none=> .Lb
end
end Go.Am
end
