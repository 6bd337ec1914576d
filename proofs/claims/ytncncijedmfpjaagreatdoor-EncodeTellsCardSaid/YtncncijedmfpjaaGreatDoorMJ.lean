import Derived.Test.YtncncijedmfpjaaGreatDoorMG
import Derived.Test.YtncncijedmfpjaaGreatDoorMI
open Nat renaming ble_eq→ajp,le_refl→c9,beq→ba,eq_of_beq_eq_true→be,and_two_pow_sub_one_eq_mod→ajq,zero_add→pn,div_lt_of_lt_mul→ajr,sub_self→H2,pow_succ→ajs,mul_comm→ajt,zero_le→H5
open List renaming length_append→dC,length_cons→ml,length_nil→aeK,drop_eq_getElem_cons→agj,nil_append→Hm,map_cons→s0,map_nil→ta,getElem?_append_right→yr,drop_eq_nil_of_le→agp,getElem?_set_ne→mc,flatMap_cons→aju,getElem_mem→en,drop_zero→aeI
open Go.Fn renaming func→ajv
open Go.Proofs.Tryz renaming prog→ae
open Go.IntKind renaming u32→aeG,u8→ajw,i64→re,i32→ajx
open BitVec renaming ofInt→df,toNat_ofInt→ajy,toNat_and→ajz
open Option renaming some→ae2
open Int renaming fdiv_eq_ediv_of_nonneg→ajA,lt_of_le_of_lt→ajB,toNat_natCast→afm,pow_succ→ajC,mul_comm→ajD
open Bool renaming and_eq_true→di,true_eq_false→ajE,false_eq_true→o0
open Go.Value renaming int→sb
noncomputable section
section
namespace Go.Am
open Go.RowKit
abbrev aah:=Int→Nat
abbrev aal:=Int→List PV
abbrev aaI:=ByteArray→Nat
abbrev abs:=ByteArray→List PV
section
variable {P:Program} {E:Env} {g:Gh} {m:Mem} {w:World}
theorem Rel.Ut (h:Rel g m w) {i:Nat} {l l':List AV} (hb:m[i]? = some (.ac l)) (hl : ∀vs,dj g w l vs→dj g w l' vs) :
  Rel g (m.set i (.ac l')) w∧dF g m w g (m.set i (.ac l')) w:=by
 have own : ∀(j:Nat) (x:bq),(m.set i (.ac l'))[j]? = some x→x.dc=true → ∃y:bq,m[j]? = some y∧y.dc=true:=fun j x hj ho=>by
  rcases aY hj with⟨rfl,_⟩ | ⟨_,q⟩
  · exact⟨_,hb,rfl⟩
  · exact⟨x,q,ho⟩
 refine⟨⟨fun j hj=>h.tA j (by simpa using hj),fun j hj=> ?_,fun j x cs hj hx=> ?_,fun j c hj hc=> ?_,fun j q x x' c hj hq ho ho' hc fk=> ?_,h.there,fun j k1 l1 hj=> ?_⟩,
  ⟨c9 _,fun _ _ _=>rfl,fun _ _ p=>⟨p,rfl⟩,fun _ _ p=> .inl p,fun c ho=> ?_,rfl,rfl,rfl⟩⟩
 · rcases aY hj with⟨_,q⟩ | ⟨_,q⟩
   · cases q
   · exact h.free j q
 · rcases aY hj with⟨rfl,rfl⟩ | ⟨_,q⟩
   · simp only[bq.cells?,Option.some.injEq] at hx
     subst hx
     obtain⟨c',cs',e,q,k1,k2,k3,k4,k5⟩:=h.cells _ _ _ hb rfl
     exact⟨c',cs',e,q,k1,k2,k3,⟨hl _ k4.1,k4.2⟩,k5⟩
   · exact h.cells j x cs q hx
 · rcases aY hj with⟨_,q⟩ | ⟨_,q⟩
   · cases q
   · exact h.tok j c q hc
 · obtain⟨y,y1,y2⟩:=own j x hj ho
   obtain⟨z,z1,z2⟩:=own q x' hq ho'
   exact h.inj j q y z c y1 z1 y2 z2 hc fk
 · rcases aY hj with⟨_,q⟩ | ⟨_,q⟩
   · cases q
   · exact h.obs j k1 l1 q
 · obtain⟨j,x,hj,hx,hc⟩:=ho
   obtain⟨y,y1,y2⟩:=own j x hj hx
   exact .inl ⟨j,y,y1,y2,hc⟩
def Gh.oH (g:Gh) (b bF:Nat):Gh:=match g.bX b with
 |some c=>g.put bF c (g.lo b) (g.hi b)
 |none=>g
theorem Gh.Br {b bF:Nat} (hf:g.bX bF=none):Ext g w (g.oH b bF) w:=by
 unfold Gh.oH
 cases hc:g.bX b with
 |none=>exact Ext.refl g w
 |some c=>
  refine⟨fun j c' hj=> ?_,fun _ _ p=>⟨p,rfl⟩⟩
  have:j≠bF:=fun e=>by subst e;rw[hf] at hj;cases hj
  simp[Gh.put,this,hj]
theorem Rel.Uu (h:Rel g m w) {b bF:Nat} (hb:m[b]? = some .tok) (hn:m[bF]? = some .free) :
  Rel (g.oH b bF) ((m.set b .dead).set bF .tok) w∧dF g m w (g.oH b bF) ((m.set b .dead).set bF .tok) w:=by
 have hf:=h.free bF hn
 have ext:=Gh.Br (g:=g) (w:=w) (b:=b) hf
 have hne:b≠bF:=fun e=>by subst e;rw[hb] at hn;cases hn
 cases hc:g.bX b with
 |none=>
  obtain⟨k1,k2⟩:=h.kill b
  have hn':(m.set b .dead)[bF]? = some .free:=by rw[mc hne];exact hn
  obtain⟨t1,t2⟩:=k1.rE hn'
  have e:g.oH b bF=g:=by unfold Gh.oH;rw[hc]
  rw[e]
  exact⟨t1,k2.trans t2⟩
 |some c=>
  have em:g.oH b bF=g.put bF c (g.lo b) (g.hi b):=by unfold Gh.oH;rw[hc]
  rw[em] at ext ⊢
  have get : ∀j x,((m.set b .dead).set bF .tok)[j]? = some x→(j=bF∧x = .tok)∨x = .dead∨(j≠bF∧j≠b∧m[j]? = some x):=by
   intro j x hj
   rcases aY hj with⟨e,q⟩ | ⟨hjn,q⟩
   · exact .inl ⟨e,q⟩
   · rcases aY q with⟨_,q⟩ | ⟨rN,q⟩
     · exact .inr (.inl q)
     · exact .inr (.inr ⟨hjn,rN,q⟩)
  have bo : ∀j,j≠bF→(g.put bF c (g.lo b) (g.hi b)).bX j=g.bX j:=fun j hj=>by simp[Gh.put,hj]
  have bi:(g.put bF c (g.lo b) (g.hi b)).bX bF=some c:=by simp[Gh.put]
  have ne : ∀j x c',j≠b→m[j]? = some x→x.dc=true→g.bX j=some c'→c'≠c:=fun j x c' rN hj ho fk e=>rN (h.inj j b x _ c hj hb ho rfl (e▸fk) hc)
  refine⟨⟨fun j hj=> ?_,fun j hj=> ?_,fun j x kk hj hk=> ?_,fun j c' hj fk=> ?_,fun j q x x' c' hj hk ho ho' gu gQ=> ?_,h.there,fun j kk ll hj=> ?_⟩,⟨c9 _,fun _ _ _=>rfl,fun _ _ p=>⟨p,rfl⟩,fun _ _ p=> .inl p,fun c' ho=> ?_,rfl,rfl,rfl⟩⟩
  · have hl:=bS hn
    simp only[List.length_set] at hj
    rw[bo j (by omega)];exact h.tA j hj
  · rcases get j _ hj with⟨_,e⟩ | e | ⟨hjn,_,e⟩
    · cases e
    · cases e
    · rw[bo j hjn];exact h.free j e
  · rcases get j _ hj with⟨_,e⟩ | e | ⟨hjn,rN,e⟩
    · subst e;cases hk
    · subst e;cases hk
    · obtain⟨c1,cs1,e1,n1,q1,q2,q3,q4,q5⟩:=h.cells j x kk e hk
      exact⟨c1,cs1,e1,n1,(bo j hjn).trans q1,q2,q3,q4.mono ext,q5⟩
  · rcases get j _ hj with⟨rfl,e⟩ | e | ⟨hjn,rN,e⟩
    · rw[bi] at fk
      cases fk
      obtain⟨cs1,e1,n1,q2,q3,q4,q5⟩:=h.tok b c hb hc
      have e1:(g.put j c (g.lo b) (g.hi b)).hi j=g.hi b:=by simp[Gh.put]
      have e2:(g.put j c (g.lo b) (g.hi b)).lo j=g.lo b:=by simp[Gh.put]
      rw[e1,e2]
      exact⟨cs1,_,n1,q2,q3,q4,q5⟩
    · cases e
    · rw[bo j hjn] at fk
      obtain⟨cs1,e1,n1,q2,q3,q4,q5⟩:=h.tok j c' e fk
      have e1:(g.put bF c (g.lo b) (g.hi b)).hi j=g.hi j:=by simp[Gh.put,hjn]
      have e2:(g.put bF c (g.lo b) (g.hi b)).lo j=g.lo j:=by simp[Gh.put,hjn]
      rw[e1,e2]
      exact⟨cs1,_,n1,q2,q3,q4,q5⟩
  · rcases get j _ hj with⟨rfl,e⟩ | e | ⟨hjn,rN,e⟩
    · rcases get q _ hk with⟨rfl,_⟩ | e' | ⟨YH,hqb,e'⟩
      · rfl
      · subst e';simp[bq.dc] at ho'
      · rw[bi] at gu;cases gu
        rw[bo q YH] at gQ
        exact absurd rfl (ne q x' _ hqb e' ho' gQ)
    · subst e;simp[bq.dc] at ho
    · rcases get q _ hk with⟨rfl,_⟩ | e' | ⟨YH,hqb,e'⟩
      · rw[bi] at gQ;cases gQ
        rw[bo j hjn] at gu
        exact absurd rfl (ne j x _ rN e ho gu)
      · subst e';simp[bq.dc] at ho'
      · rw[bo j hjn] at gu;rw[bo q YH] at gQ
        exact h.inj j q x x' c' e e' ho ho' gu gQ
  · rcases get j _ hj with⟨rfl,e⟩ | e | ⟨hjn,rN,e⟩
    · cases e
    · cases e
    · obtain⟨c1,o1,vs1,q1,q2,q3,q4,q5,q6⟩:=h.obs j kk ll e
      exact⟨c1,o1,vs1,(bo j hjn).trans q1,q2,q3.mono ext,q4,q5,by simpa[Gh.put,hjn] using q6⟩
  · obtain⟨j,x,hj,hx,HH⟩:=ho
    rcases get j _ hj with⟨rfl,e⟩ | e | ⟨hjn,rN,e⟩
    · rw[bi] at HH;cases HH
      exact .inl ⟨b,_,hb,rfl,hc⟩
    · subst e;simp[bq.dc] at hx
    · rw[bo j hjn] at HH
      exact .inl ⟨j,x,e,hx,HH⟩
theorem aU.PU {c:cm} {len sz:Nat} {X:List PV} {r:Mem} {o:Out} (hm:c.st.mem = .tok :: .ac [.os (some 0) len sz X]::r) (hc:gU c=true)
  (h:aU P E {c with st:={c.st with mem:= .dead :: .ac [.os (some (r.length+2)) len sz X]::r++[.tok]}} o):aU P E c o:=by
 refine aU.bI (fun g fr w hr cs=> ?_) h
 obtain⟨f,todo,st⟩:=c
 obtain⟨tm,nt,mem,fix,cT,cL⟩:=st
 dsimp only at hm
 subst hm
 match todo,hc with
 |.code i x::k,_=>
  obtain⟨b,a,q1,q2,q3,q4,q5,q6⟩:=hr
  have xH:Rel g (.tok :: .ac [.os (some 0) len sz X]::r) w:=q5.rel
  obtain⟨f1,f2⟩:=xH.cR 1
  have hb:((.tok :: .ac [.os (some 0) len sz X]::r:Mem)++cR 1)[0]? = some .tok:=rfl
  have hlen:(.tok :: .ac [.os (some 0) len sz X]::r:Mem).length=r.length+2:=rfl
  have hn:((.tok :: .ac [.os (some 0) len sz X]::r:Mem)++cR 1)[r.length+2]? = some .free:=by
   rw[yr (by rw[hlen];exact c9 _),hlen,H2];rfl
  have hf:=f1.free _ hn
  have ext:=Gh.Br (g:=g) (w:=w) (b:=0) hf
  obtain⟨m1,m2⟩:=f1.Uu hb hn
  have OF:((((.tok :: .ac [.os (some 0) len sz X]::r:Mem)++cR 1).set 0 .dead).set (r.length+2) .tok)[1]? = some (.ac [.os (some 0) len sz X]):=by
   rw[mc (by omega)];rfl
  obtain⟨z1,z2⟩:=m1.Ut OF (l':=[.os (some (r.length+2)) len sz X]) fun vs hv=>by
   match vs,hv with
   |[v],hv=>
    refine⟨?_,trivial⟩
    have hv1:VA (g.oH 0 (r.length+2)) w (.os (some 0) len sz X) v:=hv.1
    cases hv1 with
    |os _ _ _ _ a' cap h' hr'=>
     refine .os _ _ _ _ a' cap h' ?_
     rcases hr' with hr' | ⟨t,b',o',e1,e2,e3,e4,e5,e6⟩
     · exact .inl hr'
     · cases e1
       unfold Gh.oH at e3 e4 e5 ⊢
       cases hc0:g.bX 0 with
       |none=>
        rw[hc0] at e3
        dsimp only at e3
        rw[hc0] at e3;cases e3
       |some c0=>
        rw[hc0] at e3 e4 e5
        dsimp only at e3 e4 e5 ⊢
        have h0:(0:Nat)≠r.length+2:=by omega
        simp only[Gh.put,h0,if_false] at e3 e4 e5
        rw[hc0] at e3
        cases e3
        exact .inr ⟨_,_,o',rfl,e2,by simp[Gh.put],by simpa[Gh.put] using e4,by simpa[Gh.put] using e5,e6⟩
  have hmem:((((.tok :: .ac [.os (some 0) len sz X]::r:Mem)++cR 1).set 0 .dead).set (r.length+2) .tok).set 1 (.ac [.os (some (r.length+2)) len sz X]) = .dead :: .ac [.os (some (r.length+2)) len sz X]::r++[.tok]:=by
   simp[cR]
  rw[hmem] at z1 z2
  refine⟨_,fr,w,Steps.refl _ _,⟨b,a,q1,q2,q3.ext (fun i c q=>(ext.bX i c q).1),q4.ext (fun i c q=>(ext.bX i c q).1),⟨fun k=>(q5.tm k).mono ext,q5.nt,z1,?_,q5.ec.mono fun c o p=>(ext.pure c o p)⟩,q6⟩,(f2.trans m2).trans z2,fun k c' hk fk=> ?_,rfl,rfl,rfl⟩
  · have:=q5.fix
    simp only[dC,ml,aeK] at this ⊢
    omega
  · have:=(ext.bX k c' fk)
    exact this
theorem az.kJ {f:FuncId} {args:List AV} {sz:Nat} {v:AV} {m':Mem} (hz:1≤sz) (h:az P E f (.os (some 0) 0 sz []::args) [.tok] v m'):az P E f (.os none 0 0 []::args) [] v m':=by
 refine⟨h.1,fun g w cS cs hr hv hg=> ?_⟩
 have hf:g.bX 0=none:=hr.tA 0 (c9 _)
 have YX:Rel g [.tok] w:=by
  have h1:=(hr.cR 1).1
  have h2:=(h1.rE (i:=0) rfl).1
  exact h2
 have own : ∀c,¬fH g ([.tok]:Mem) c:=fun c ho=>by
  obtain⟨i,b,hi,_,hc⟩:=ho
  match i,hi with
  |0,_=>rw[hf] at hc;cases hc
 match hl:cS.toList,hv with
 |x::xs,hv=>
  have hx:VA g w (.os (some 0) 0 sz []) x:=by
   have h1:VA g w (.os none 0 0 []) x:=hv.1
   cases h1 with
   |os _ _ _ _ a cap h' hr'=>
    have hcap:cap=0:=by
     rcases hr' with h | ⟨t,b,o,e,_⟩
     · exact h
     · cases e
    subst hcap
    exact .os _ _ _ _ a 0 (.qA sz a 0 (.inl hz)) (.inl rfl)
  obtain⟨w',g',cv,fr,s1,s2,s3,s4,s5,s6,s7,s8⟩:=h.2 g w cS cs YX (by rw[hl];exact⟨hx,hv.2⟩) hg
  refine⟨w',g',cv,fr,s1,s2,s3,s4,s5,⟨s6.size,fun c hc ho=>s6.keep c hc (own c),s6.pure,fun c o hp=> ?_,fun c ho=> ?_,s6.os,s6.tape,s6.output⟩,fun k c hk hc=>absurd hk (Nat.not_lt_zero _),H5 _⟩
  · rcases s6.fresh c o hp with q | q | q
    · exact .inl q
    · exact absurd q (own c)
    · exact .inr (.inr q)
  · rcases s6.owned c ho with q | q
    · exact absurd q (own c)
    · exact .inr q
def xZ (n sz j:Nat):pZ→pZ
 |[]=>[]
 |(k,v)::r=>(k,cond (ba k j) (.os (some n) 0 sz []) v)::xZ n sz j r
theorem VA.kJ {t sz:Nat} {x:Value} (hz:1≤sz) (h:VA g w (.os none 0 0 []) x):VA g w (.os (some t) 0 sz []) x:=by
 cases h with
 |os _ _ _ _ a cap h' hr'=>
  have hcap:cap=0:=by
   rcases hr' with h | ⟨t,b,o,e,_⟩
   · exact h
   · cases e
  subst hcap
  exact .os _ _ _ _ a 0 (.qA sz a 0 (.inl hz)) (.inl rfl)
theorem qQ {n sz j:Nat} : ∀{tm:pZ},look tm j = .os none 0 0 [] → ∀k,look (xZ n sz j tm) k=look tm k∨(look tm k = .os none 0 0 []∧look (xZ n sz j tm) k = .os (some n) 0 sz [])
 |[],_,_=> .inl rfl
 |(i,v)::r,h,k=>by
  simp only[look,xZ] at h ⊢
  cases hi:ba i j with
  |true=>
   rw[hi] at h
   cases hk:ba i k with
   |true=>exact .inr ⟨h,rfl⟩
   |false=>
    simp only[cond_false]
    clear h
    obtain rfl:=be hi
    by_cases hr:look r i = .os none 0 0 []
    · exact qQ hr k
    · exact .inl (x7 hk)
  |false=>
   rw[hi] at h
   cases hk:ba i k with
   |true=>exact .inl rfl
   |false=>exact qQ h k
where
 x7 {n sz i k:Nat} (hk:ba i k=false) : ∀{r:pZ},look (xZ n sz i r) k=look r k
  |[]=>rfl
  |(a,v)::r=>by
   simp only[look,xZ]
   cases ha:ba a k with
   |true=>
    obtain rfl:=be ha
    have:ba a i=false:=by
     cases hai:ba a i with
     |false=>rfl
     |true=>obtain rfl:=be hai;rw[Nat.beq_refl] at hk;cases hk
    rw[this];rfl
   |false=>exact x7 hk
theorem aU.kJ {c:cm} {o:Out} (j sz:Nat) (hz:1≤sz) (hj:look c.st.tm j = .os none 0 0 []) (hc:gU c=true)
  (h:aU P E {c with st:={c.st with tm:=xZ c.st.mem.length sz j c.st.tm,mem:=c.st.mem++[.tok]}} o):aU P E c o:=by
 refine aU.bI (fun g fr w hr cs=> ?_) h
 obtain⟨f,todo,st⟩:=c
 obtain⟨tm,nt,mem,fix,cT,cL⟩:=st
 dsimp only at hj h ⊢
 match todo,hc with
 |.code i x::k,_=>
  obtain⟨b,a,q1,q2,q3,q4,q5,q6⟩:=hr
  have xH:Rel g mem w:=q5.rel
  obtain⟨f1,f2⟩:=xH.cR 1
  have hn:(mem++cR 1)[mem.length]? = some .free:=by rw[yr (c9 _),H2];rfl
  obtain⟨z1,z2⟩:=f1.rE hn
  have hmem:(mem++cR 1).set mem.length .tok=mem++[.tok]:=by simp[cR]
  rw[hmem] at z1 z2
  refine⟨g,fr,w,Steps.refl _ _,⟨b,a,q1,q2,q3,q4,⟨fun k=> ?_,q5.nt,z1,?_,q5.ec⟩,q6⟩,f2.trans z2,bZ.refl _ _,rfl,rfl,rfl⟩
  · rcases qQ (n:=mem.length) (sz:=sz) hj k with e | ⟨e1,e2⟩
    · dsimp only;rw[e];exact q5.tm k
    · dsimp only;rw[e2]
      have:=q5.tm k
      dsimp only at this
      rw[e1] at this
      exact VA.kJ hz this
  · have:=q5.fix
    dsimp only at this ⊢
    rw[dC]
    omega
theorem aU.Az {c c':cm} {o:Out} (h:c'=c) (k:aU P E c o):aU P E c' o:=by subst h;exact k
end
end Go.Am
end
section
set_option linter.unusedSimpArgs false
set_option linter.unusedVariables false
namespace Go.Proofs.YtncncijedmfpjaaGreatDoor.N
open Go Go.Am
def puC (n:Int) (k:Nat) (X:List PV) (f:FuncId) (_:List AV) (m:Mem):Option (AV×Mem):=cond (ba f 97) (some (.p (.ps k 1 X),m)) none
def psC (n:Int) (k:Nat) (X:List PV) (f:FuncId) (_:List AV) (m:Mem):Option (AV×Mem):=cond (ba f 150) (some (.p (.ps k 1 X),m)) none
def af3 (n:Int) (k:Nat) (X:List PV):bA:=aM (puC n k X) aC [] [] []
def akO:Sc:= .fin
def PW (n:Int) (k:Nat) (X:List PV):aA:=
 (.call ⟨97,[sI .u32 n,.fn (ajv 98) [] []],[],.p (.ps k 1 X),[]⟩
 (.out (.ret (.p (.ps k 1 X)) [])))
theorem Uv (n:Int) (k:Nat) (X:List PV):aI ae env (af3 n k X) 1000000 45 ([sI aeG n]) ([]) akO=PW n k X:=by kernel_rfl
def Z9:bA:=aM aE aC [(52,0)] [] []
def af4:Sc:= .fin
def Dx (n:Int):aA:=
 (.at (ah ae env 52 0 [sI .u32 n,bB] ([]) 0 20))
theorem FI (n:Int):aI ae env Z9 1000000 52 ([sI aeG n]) ([]) af4=Dx n:=by kernel_rfl
def af5:bA:=aM aE aC [(97,0)] [] []
def akP:Sc:= .fin
def IG (n:Int):aA:=
 (.at (ah ae env 97 0 [sI .u32 n,.fn (ajv 98) [] [],bB] ([]) 0 25))
theorem Kj (n:Int):aI ae env af5 1000000 97 ([sI aeG n,AV.fn (ajv 98) [] []]) ([]) akP=IG n:=by kernel_rfl
def aaa:bA:=aM aE aC [(97,0)] [(97,0,1)] [(97,6,3),(97,7,4)]
def af6:Sc:= .fin
def Dy (n:Int) (k:Nat) (X:List PV):aA:=
 (.test (n.fdiv 128==0)
 (.must (((k+1)*1).ble aR&&(k+1).ble aR&&true)
 (.out (.ret (.os (some 0) (k+1) 1 (X++[.sc (.int .u8 (ajw.wrap (aeG.wrap (↑(df 32 n&&&df 32 127).toNat:Int))))])) [.tok])))
 (.must (((k+1)*1).ble aR&&(k+1).ble aR&&true)
 (.at (ah ae env 97 0 [sI .u32 (n.fdiv 128),.fn (ajv 98) [] [],.os (some 0) (k+1) 1 (X++[.sc (.int .u8 (ajw.wrap (↑(df 8 (ajw.wrap (aeG.wrap (↑(df 32 n&&&df 32 127).toNat:Int)))|||df 8 128).toNat:Int)))])] ([.tok]) 0 25))))
theorem FJ (n:Int) (k:Nat) (X:List PV):grow ae env aaa 1000000 true (ah ae env 97 0 ([sI aeG n,AV.fn (ajv 98) [] [],AV.os (ae2 0) k 1 X]) ([bq.tok]) 0 25) af6 atEnd=Dy n k X:=by kernel_rfl
def Uw:bA:=aM aE aC [(52,0)] [(52,0,1)] [(52,4,6),(52,6,4)]
def aab:Sc:= .fin
def x8 (n:Int) (k:Nat) (X:List PV):aA:=
 (.test (decide (n≥128))
 (.must (((k+1)*1).ble aR&&(k+1).ble aR&&true)
 (.at (ah ae env 52 0 [sI .u32 (aeG.wrap (n.tdiv 128)),.os (some 0) (k+1) 1 (X++[.sc (.int .u8 (ajw.wrap (ajw.wrap (n.tmod 128)+128)))])] ([.tok]) 0 20)))
 (.must (((k+1)*1).ble aR&&(k+1).ble aR&&true)
 (.out (.ret (.os (some 0) (k+1) 1 (X++[.sc (.int .u8 (ajw.wrap n))])) [.tok]))))
theorem Bs (n:Int) (k:Nat) (X:List PV):grow ae env Uw 1000000 true (ah ae env 52 0 ([sI aeG n,AV.os (ae2 0) k 1 X]) ([bq.tok]) 0 20) aab atEnd=x8 n k X:=by kernel_rfl
def af7 (n:Int) (k:Nat) (X:List PV):bA:=aM (psC n k X) aC [] [] []
def akQ:Sc:= .fin
def PX (n:Int) (k:Nat) (X:List PV):aA:=
 (.call ⟨150,[sI .i32 n,.fn (ajv 151) [] []],[],.p (.ps k 1 X),[]⟩
 (.out (.ret (.p (.ps k 1 X)) [])))
theorem Ux (n:Int) (k:Nat) (X:List PV):aI ae env (af7 n k X) 1000000 138 ([sI ajx n]) ([]) akQ=PX n k X:=by kernel_rfl
def af8:bA:=aM aE aC [(150,0)] [] []
def akR:Sc:= .fin
def PY (n:Int):aA:=
 (.at (ah ae env 150 0 [sI .i32 n,.fn (ajv 151) [] [],bB] ([]) 0 25))
theorem Uy (n:Int):aI ae env af8 1000000 150 ([sI ajx n,AV.fn (ajv 151) [] []]) ([]) akR=PY n:=by kernel_rfl
def aac:bA:=aM aE aC [(148,0)] [] []
def af9:Sc:= .fin
def Kk (n:Int):aA:=
 (.at (ah ae env 148 0 [bB,sI .i64 (re.wrap n)] ([]) 0 28))
theorem PZ (n:Int):aI ae env aac 1000000 148 ([sI ajx n]) ([]) af9=Kk n:=by kernel_rfl
def aad:bA:=aM aE aC [(150,0)] [(151,2,3),(151,2,8),(151,2,11),(150,0,1)] [(150,6,3),(150,7,4)]
def aga:Sc:=(.fork (.fork (.lit .fin) (.no (.lit .fin))) (.lit (.fork .fin (.lit .fin))))
def iW (n:Int) (k:Nat) (X:List PV):aA:=
 (.must (((k+1)*1).ble aR&&(k+1).ble aR&&true) (.at (ah ae env 150 0 [sI .i32 (n.fdiv 128),.fn (ajv 151) [] [],.os (some 0) (k+1) 1 (X++[.sc (.int .u8 (ajw.wrap (↑(df 8 (ajw.wrap (ajx.wrap (↑(df 32 n&&&df 32 127).toNat:Int)))|||df 8 128).toNat:Int)))])] ([.tok]) 0 25)))
def j5 (n:Int) (k:Nat) (X:List PV):aA:=
 (.must (((k+1)*1).ble aR&&(k+1).ble aR&&true) (.out (.ret (.os (some 0) (k+1) 1 (X++[.sc (.int .u8 (ajw.wrap (ajx.wrap (↑(df 32 n&&&df 32 127).toNat:Int))))])) [.tok])))
def sv (n:Int) (k:Nat) (X:List PV):aA:=
 (.test (n.fdiv 128==0)
 (.test (ajw.wrap (↑(df 8 (ajw.wrap (ajx.wrap (↑(df 32 n&&&df 32 127).toNat:Int)))&&&df 8 64).toNat:Int)==0)
 (j5 n k X)
 (.must (!(n.fdiv 128 == -1))
 (iW n k X)))
 (.test (n.fdiv 128 == -1)
 (.test (ajw.wrap (↑(df 8 (ajw.wrap (ajx.wrap (↑(df 32 n&&&df 32 127).toNat:Int)))&&&df 8 64).toNat:Int) != 0)
 (j5 n k X)
 (iW n k X))
 (iW n k X)))
theorem FK (n:Int) (k:Nat) (X:List PV):grow ae env aad 1000000 true (ah ae env 150 0 ([sI ajx n,AV.fn (ajv 151) [] [],AV.os (ae2 0) k 1 X]) ([bq.tok]) 0 25) aga atEnd=sv n k X:=by kernel_rfl
def Uz:bA:=aM aE aC [(148,0)] [(148,4,3),(148,0,1)] [(148,5,6),(148,7,5)]
def aae:Sc:=(.fork (.lit .fin) .fin)
def m6 (n:Int) (k:Nat) (X:List PV):aA:=
 (.must (((k+1)*1).ble aR&&(k+1).ble aR&&true) (.at (ah ae env 148 0 [.os (some 0) (k+1) 1 (X++[.sc (.int .u8 (ajw.wrap (ajw.wrap (re.wrap (↑(df 64 n&&&df 64 127).toNat:Int))+128)))]),sI .i64 (n.fdiv 128)] ([.tok]) 0 28)))
def x9 (n:Int) (k:Nat) (X:List PV):aA:=
 (.test (decide (n < -64))
 (m6 n k X)
 (.test (decide (n>63))
 (m6 n k X)
 (.must (((k+1)*1).ble aR&&(k+1).ble aR&&true)
 (.out (.ret (.os (some 0) (k+1) 1 (X++[.sc (.int .u8 (ajw.wrap (re.wrap (↑(df 64 n&&&df 64 127).toNat:Int))))])) [.tok])))))
theorem Bt (n:Int) (k:Nat) (X:List PV):grow ae env Uz 1000000 true (ah ae env 148 0 ([AV.os (ae2 0) k 1 X,sI re n]) ([bq.tok]) 0 28) aae atEnd=x9 n k X:=by kernel_rfl
def bt (l:List Nat):List PV:=l.map fun(c:Nat)=> .sc (.int .u8 (c:Int))
theorem aT (l:List Nat):(bt l).length=l.length:=by simp[bt]
theorem aS (a b:List Nat):bt (a++b)=bt a++bt b:=by simp[bt]
theorem vN (X:List PV) (c:Nat) (l:List Nat):(X++[.sc (.int .u8 (c:Int))])++bt l=X++bt (c::l):=by simp[bt]
def pU:Nat→Nat→List Nat
 |0,n=>[n%128]
 |f+1,n=>if n / 128=0 then[n%128] else(n%128+128)::pU f (n / 128)
def pS:Nat→Int→List Nat
 |0,n=>[(n%128).toNat]
 |f+1,n=>if -64≤n∧n≤63 then[(n%128).toNat] else((n%128).toNat+128)::pS f (n / 128)
theorem kK : ∀(f n:Nat),(pU f n).length≤f+1
 |0,_=>c9 _
 |f+1,n=>by
  unfold pU
  split
  · simp
  · simp only[ml];have:=kK f (n / 128);omega
theorem II : ∀(f:Nat) (n:Int),(pS f n).length≤f+1
 |0,_=>c9 _
 |f+1,n=>by
  unfold pS
  split
  · simp
  · simp only[ml];have:=II f (n / 128);omega
theorem ue (n:Int):(df 32 n&&&df 32 127).toNat=(n%128).toNat:=by
 rw[ajz,ajy,ajy,show((127:Int)%((2 ^ 32:Nat):Int)).toNat=2 ^ 7-1 from by decide,ajq]
 omega
theorem Kl (n:Int):(df 64 n&&&df 64 127).toNat=(n%128).toNat:=by
 rw[ajz,ajy,ajy,show((127:Int)%((2 ^ 64:Nat):Int)).toNat=2 ^ 7-1 from by decide,ajq]
 omega
theorem P0 : ∀m:Nat,m<128→(df 8 (m:Int)|||df 8 128).toNat=m+128:=by decide +kernel
theorem Yi : ∀m:Nat,m<128→(df 8 (m:Int)&&&df 8 64).toNat=(if m<64 then 0 else 64):=by decide +kernel
theorem ya {n:Int} (h0:0≤n) (h1:n<256):ajw.wrap n=n:=by rw[wU8];omega
theorem Km {n:Int} (h0 : -2147483648≤n) (h1:n<2147483648):ajx.wrap n=n:=by rw[akv];omega
theorem Kn : ∀(f n:Nat) (X:List PV),n<128 ^ (f+1)→n<4294967296→X.length+f≤1000000000000→f≤100 →
  aU ae env (ah ae env 97 0 [sI .u32 n,.fn (.func 98) [] [],.os (some 0) X.length 1 X] [.tok] 0 25) (.ret (.os (some 0) (X++bt (pU f n)).length 1 (X++bt (pU f n))) [.tok]):=by
 have bw:aR=70368744177664:=rfl
 intro f
 induction f with
 |zero=>
  intro n X h1 h2 h3 _
  have h1':n<128:=by simpa using h1
  have d:(n:Int).fdiv 128=0:=by rw[ajA _ (by decide)];omega
  have e1:(((n:Int)%128).toNat:Int)=((n%128:Nat):Int):=by omega
  refine af aH (FJ n X.length X) ?_
  simp(disch:=omega) only[Dy,aA.ok,d,ue,e1,uQ,ya,bw,ajp,di,and_true,pU,bt,s0,ta,dC,ml,aeK]
  simp only[beq_self_eq_true,ajE,false_implies,true_implies,and_true]
  exact⟨by omega,by omega⟩
 |succ f ih=>
  intro n X h1 h2 h3 hf
  have d:(n:Int).fdiv 128=((n / 128:Nat):Int):=by rw[ajA _ (by decide)];omega
  have e1:(((n:Int)%128).toNat:Int)=((n%128:Nat):Int):=by omega
  have e2:=P0 (n%128) (by omega)
  refine af aH (FJ n X.length X) ?_
  simp(disch:=omega) only[Dy,aA.ok,d,ue,e1,e2,uQ,ya,bw,ajp,di,and_true]
  refine⟨fun h=>⟨⟨by omega,by omega⟩,?_⟩,fun h=>⟨⟨by omega,by omega⟩,?_⟩⟩
  · have h0:n / 128=0:=by have:=eq_of_beq h;omega
    simp[pU,h0,bt]
  · have h0 : ¬n / 128=0:=by intro e;rw[e] at h;cases h
    have k:=ih (n / 128) (X++[.sc (.int .u8 ((n%128+128:Nat):Int))]) (by rw[ajs] at h1;exact ajr (by rw[ajt];exact h1)) (by omega) (by simp only[dC,ml,aeK];omega) (by omega)
    have e3:pU (f+1) n=(n%128+128)::pU f (n / 128):=by rw[pU,if_neg h0]
    rw[vN] at k
    rw[e3]
    simpa only[dC,ml,aeK,pn] using k
theorem FL : ∀(f n:Nat) (X:List PV),n<128 ^ (f+1)→n<4294967296→X.length+f≤1000000000000→f≤100 →
  aU ae env (ah ae env 52 0 [sI .u32 n,.os (some 0) X.length 1 X] [.tok] 0 20) (.ret (.os (some 0) (X++bt (pU f n)).length 1 (X++bt (pU f n))) [.tok]):=by
 have bw:aR=70368744177664:=rfl
 intro f
 induction f with
 |zero=>
  intro n X h1 h2 h3 _
  have h1':n<128:=by simpa using h1
  have d:decide ((n:Int)≥128)=false:=decide_eq_false (by omega)
  have e1:n%128=n:=by omega
  refine af aH (Bs n X.length X) ?_
  simp(disch:=omega) only[x8,aA.ok,d,e1,uQ,ya,bw,ajp,di,and_true,pU,bt,s0,ta,dC,ml,aeK,o0,false_implies,true_implies,true_and]
  exact⟨by omega,by omega⟩
 |succ f ih=>
  intro n X h1 h2 h3 hf
  have d:(n:Int).tdiv 128=((n / 128:Nat):Int):=by rw[Uf (by omega)];omega
  have e1:(n:Int).tmod 128=((n%128:Nat):Int):=by rw[Ue (by omega)];omega
  have e2:((n%128:Nat):Int)+128=((n%128+128:Nat):Int):=by omega
  refine af aH (Bs n X.length X) ?_
  simp(disch:=omega) only[x8,aA.ok,d,e1,e2,uQ,ya,bw,ajp,di,and_true,decide_eq_true_eq,decide_eq_false_iff_not]
  refine⟨fun h=>⟨⟨by omega,by omega⟩,?_⟩,fun h=>⟨⟨by omega,by omega⟩,?_⟩⟩
  · have h0 : ¬n / 128=0:=by omega
    have k:=ih (n / 128) (X++[.sc (.int .u8 ((n%128+128:Nat):Int))]) (by rw[ajs] at h1;exact ajr (by rw[ajt];exact h1)) (by omega) (by simp only[dC,ml,aeK];omega) (by omega)
    have e3:pU (f+1) n=(n%128+128)::pU f (n / 128):=by rw[pU,if_neg h0]
    rw[vN] at k
    rw[e3]
    simpa only[dC,ml,aeK,pn] using k
  · have h0:n / 128=0:=by omega
    have e3:n%128=n:=by omega
    simp(disch:=omega) [pU,h0,bt,e3,ya]
theorem az.yc {f:FuncId} {args:List AV} {n:Nat} {X:List PV} (h:az ae env f args [] (.os (some 0) n 1 X) [.tok]):az ae env f args [] (.p (.ps n 1 X)) []:=az.pure h
theorem Bu (n:Nat) (h:n<4294967296):az ae env 45 [sI .u32 n] [] (.p (.ps (pU 4 n).length 1 (bt (pU 4 n)))) []:=by
 refine aa aH (Uv n (pU 4 n).length (bt (pU 4 n))) ?_
 simp only[PW,aA.ok,and_true]
 refine az.yc (aa aH (Kj n) ?_)
 simp only[IG,aV,aA.ok]
 have k:=Kn 4 n [] (by omega) h (by simp) (by omega)
 rw[Hm,aT] at k
 exact aU.kJ 5 1 (c9 1) (by kernel_rfl) (by kernel_rfl) (aU.Az (by kernel_rfl) k)
theorem yd (n:Nat) (h:n<4294967296):az ae env 52 [sI .u32 n] [] (.p (.ps (pU 4 n).length 1 (bt (pU 4 n)))) []:=by
 refine az.yc (aa aH (FI n) ?_)
 simp only[Dx,aV,aA.ok]
 have k:=FL 4 n [] (by omega) h (by simp) (by omega)
 rw[Hm,aT] at k
 exact aU.kJ 3 1 (c9 1) (by kernel_rfl) (by kernel_rfl) (aU.Az (by kernel_rfl) k)
theorem UA : ∀(f:Nat) (n:Int) (X:List PV),-(64*128 ^ f)≤n→n<64*128 ^ f → -2147483648≤n→n<2147483648→X.length+f≤1000000000000→f≤100 →
  aU ae env (ah ae env 150 0 [sI .i32 n,.fn (.func 151) [] [],.os (some 0) X.length 1 X] [.tok] 0 25) (.ret (.os (some 0) (X++bt (pS f n)).length 1 (X++bt (pS f n))) [.tok]):=by
 have bw:aR=70368744177664:=rfl
 intro f
 induction f with
 |zero=>
  intro n X h1 h2 h4 h5 h3 _
  have d:n.fdiv 128=n / 128:=ajA _ (by decide)
  obtain⟨m,hm⟩ : ∃m:Nat,(n%128).toNat=m:=⟨_,rfl⟩
  have hm1:n=128*(n / 128)+m∧m<128:=by omega
  have e1:=Yi m hm1.2
  have e2:=P0 m hm1.2
  refine af aH (FK n X.length X) ?_
  by_cases h6:m<64
  · have h7:n / 128=0:=by omega
    rw[if_pos h6] at e1
    simp(disch:=omega) only[sv,iW,j5,aA.ok,d,ue,hm,Km,ya,e1,e2,bw,ajp,di,and_true,h7,show((0:Int)==0)=true from rfl,ajE,false_implies,true_implies,show(((0:Nat):Int)==0)=true from rfl,pS,bt,s0,ta,dC,ml,aeK]
    exact⟨by omega,by omega⟩
  · have h7:n / 128 = -1:=by omega
    rw[if_neg h6] at e1
    simp(disch:=omega) only[sv,iW,j5,aA.ok,d,ue,hm,Km,ya,e1,e2,bw,ajp,di,and_true,h7,show((-1:Int)==0)=false from rfl,show((-1:Int) == -1)=true from rfl,ajE,o0,false_implies,true_implies,true_and,show(((64:Nat):Int) != 0)=true from rfl,pS,bt,s0,ta,dC,ml,aeK]
    exact⟨by omega,by omega⟩
 |succ f ih=>
  intro n X h1 h2 h4 h5 h3 hf
  have d:n.fdiv 128=n / 128:=ajA _ (by decide)
  obtain⟨m,hm⟩ : ∃m:Nat,(n%128).toNat=m:=⟨_,rfl⟩
  have hm1:n=128*(n / 128)+m∧m<128:=by omega
  have e1:=Yi m hm1.2
  have e2:=P0 m hm1.2
  have hb:(X.length+1)*1≤70368744177664∧X.length+1≤70368744177664:=⟨by omega,by omega⟩
  have more : ¬(-64≤n∧n≤63)→aU ae env (ah ae env 150 0 [sI .i32 (n / 128),.fn (.func 151) [] [],.os (some 0) (X.length+1) 1 (X++[.sc (.int .u8 ((m+128:Nat):Int))])] [.tok] 0 25) (.ret (.os (some 0) (X++bt (pS (f+1) n)).length 1 (X++bt (pS (f+1) n))) [.tok]):=fun h0=>by
   have hp:(128:Int) ^ (f+1)=128*128 ^ f:=by rw[ajC,ajD]
   have k:=ih (n / 128) (X++[.sc (.int .u8 ((m+128:Nat):Int))]) (by rw[hp] at h1;omega) (by rw[hp] at h2;omega) (by omega) (by omega) (by simp only[dC,ml,aeK];omega) (by omega)
   have e3:pS (f+1) n=(m+128)::pS f (n / 128):=by rw[pS,if_neg h0,hm]
   rw[vN] at k
   rw[e3]
   simpa only[dC,ml,aeK,pn] using k
  have last:(-64≤n∧n≤63)→Out.ret (.os (some 0) (X.length+1) 1 (X++[.sc (.int .u8 (m:Int))])) [.tok] = .ret (.os (some 0) (X++bt (pS (f+1) n)).length 1 (X++bt (pS (f+1) n))) [.tok]:=fun h0=>by
   rw[pS,if_pos h0,hm];simp[bt]
  refine af aH (FK n X.length X) ?_
  by_cases h6:m<64
  · rw[if_pos h6] at e1
    simp(disch:=omega) only[sv,iW,j5,aA.ok,d,ue,hm,Km,ya,e1,e2,bw,ajp,di,and_true,ajE,o0,false_implies,true_implies,true_and,show(((0:Nat):Int)==0)=true from rfl,show(((0:Nat):Int) != 0)=false from rfl]
    refine⟨fun h=>⟨hb,last ?_⟩,fun h=>⟨fun _=>⟨hb,more ?_⟩,fun _=>⟨hb,more ?_⟩⟩⟩
    · have:n / 128=0:=eq_of_beq h
      omega
    · have : ¬n / 128=0:=fun e=>by rw[e] at h;cases h
      omega
    · have : ¬n / 128=0:=fun e=>by rw[e] at h;cases h
      omega
  · rw[if_neg h6] at e1
    simp(disch:=omega) only[sv,iW,j5,aA.ok,d,ue,hm,Km,ya,e1,e2,bw,ajp,di,and_true,ajE,o0,false_implies,true_implies,true_and,show(((64:Nat):Int)==0)=false from rfl,show(((64:Nat):Int) != 0)=true from rfl]
    refine⟨fun h=>⟨?_,hb,more ?_⟩,fun _=>⟨fun h=>⟨hb,last ?_⟩,fun h=>⟨hb,more ?_⟩⟩⟩
    · have:n / 128=0:=eq_of_beq h
      rw[this];rfl
    · have:n / 128=0:=eq_of_beq h
      omega
    · have:n / 128 = -1:=eq_of_beq h
      omega
    · have : ¬n / 128 = -1:=fun e=>by rw[e] at h;cases h
      omega
theorem P1 : ∀(f:Nat) (n:Int) (X:List PV),-(64*128 ^ f)≤n→n<64*128 ^ f → -2147483648≤n→n<2147483648→X.length+f≤1000000000000→f≤100 →
  aU ae env (ah ae env 148 0 [.os (some 0) X.length 1 X,sI .i64 n] [.tok] 0 28) (.ret (.os (some 0) (X++bt (pS f n)).length 1 (X++bt (pS f n))) [.tok]):=by
 have bw:aR=70368744177664:=rfl
 intro f
 induction f with
 |zero=>
  intro n X h1 h2 h4 h5 h3 _
  have d1:decide (n < -64)=false:=decide_eq_false (by omega)
  have d2:decide (n>63)=false:=decide_eq_false (by omega)
  refine af aH (Bt n X.length X) ?_
  simp(disch:=omega) only[x9,m6,aA.ok,d1,d2,Kl,aQ,ya,bw,ajp,di,and_true,pS,bt,s0,ta,dC,ml,aeK,o0,false_implies,true_implies,true_and]
  exact⟨by omega,by omega⟩
 |succ f ih=>
  intro n X h1 h2 h4 h5 h3 hf
  have d:n.fdiv 128=n / 128:=ajA _ (by decide)
  have e2:(((n%128).toNat:Nat):Int)+128=(((n%128).toNat+128:Nat):Int):=by omega
  refine af aH (Bt n X.length X) ?_
  simp(disch:=omega) only[x9,m6,aA.ok,d,Kl,aQ,ya,e2,bw,ajp,di,and_true,decide_eq_true_eq,decide_eq_false_iff_not]
  have hb:(X.length+1)*1≤70368744177664∧X.length+1≤70368744177664:=⟨by omega,by omega⟩
  have more : ¬(-64≤n∧n≤63)→aU ae env (ah ae env 148 0 [.os (some 0) (X.length+1) 1 (X++[.sc (.int .u8 (((n%128).toNat+128:Nat):Int))]),sI .i64 (n / 128)] [.tok] 0 28) (.ret (.os (some 0) (X++bt (pS (f+1) n)).length 1 (X++bt (pS (f+1) n))) [.tok]):=fun h0=>by
   have hp:(128:Int) ^ (f+1)=128*128 ^ f:=by rw[ajC,ajD]
   have k:=ih (n / 128) (X++[.sc (.int .u8 (((n%128).toNat+128:Nat):Int))]) (by rw[hp] at h1;omega) (by rw[hp] at h2;omega) (by omega) (by omega) (by simp only[dC,ml,aeK];omega) (by omega)
   have e3:pS (f+1) n=((n%128).toNat+128)::pS f (n / 128):=by rw[pS,if_neg h0]
   rw[vN] at k
   rw[e3]
   simpa only[dC,ml,aeK,pn] using k
  refine⟨fun h=>⟨hb,more (by omega)⟩,fun h=>⟨fun h'=>⟨hb,more (by omega)⟩,fun h'=>⟨hb,?_⟩⟩⟩
  rw[pS,if_pos (by omega)];simp[bt]
theorem Ma (n:Int) (h0 : -2147483648≤n) (h:n<2147483648):az ae env 138 [sI .i32 n] [] (.p (.ps (pS 4 n).length 1 (bt (pS 4 n)))) []:=by
 refine aa aH (Ux n (pS 4 n).length (bt (pS 4 n))) ?_
 simp only[PX,aA.ok,and_true]
 refine az.yc (aa aH (Uy n) ?_)
 simp only[PY,aV,aA.ok]
 have k:=UA 4 n [] (by omega) (by omega) h0 h (by simp) (by omega)
 rw[Hm,aT] at k
 exact aU.kJ 5 1 (c9 1) (by kernel_rfl) (by kernel_rfl) (aU.Az (by kernel_rfl) k)
theorem IJ (n:Int) (h0 : -2147483648≤n) (h:n<2147483648):az ae env 148 [sI .i32 n] [] (.p (.ps (pS 4 n).length 1 (bt (pS 4 n)))) []:=by
 refine az.yc (aa aH (PZ n) ?_)
 simp(disch:=omega) only[Kk,aV,aA.ok,aQ]
 have k:=P1 4 n [] (by omega) (by omega) h0 h (by simp) (by omega)
 rw[Hm,aT] at k
 exact aU.kJ 3 1 (c9 1) (by kernel_rfl) (by kernel_rfl) (aU.Az (by kernel_rfl) k)
end Go.Proofs.YtncncijedmfpjaaGreatDoor.N
end
section
namespace Go.Proofs.YtncncijedmfpjaaGreatDoor.N
open Go Go.Am
mutual
def gZ:Ins→List Nat
 |.mk op r a b nn tg ll le=>(op%256).toNat::(if kT op=true then(if r=1 then 127 else 64)::(nJ ll++((if le.length=0 then[] else 5::nJ le)++[11]))
    else if op=17 then pU 4 a.toNat++[0]
    else if lQ op=true then pU 4 a.toNat
    else if op=14 then pU 4 tg.length++(tg.flatMap (fun t=>pU 4 t.toNat)++pU 4 a.toNat)
    else if op=63∨op=64 then[0]
    else if op=65 then pS 4 nn
    else if iB op=true then pU 4 a.toNat++pU 4 b.toNat
    else[])
def nJ:List Ins→List Nat
 |[]=>[]
 |x::r=>gZ x++nJ r
end
theorem FM : ∀tg:List Int,(tg.flatMap (fun t=>pU 4 t.toNat)).length≤5*tg.length
 |[]=>c9 _
 |t::r=>by
  have:=kK 4 t.toNat
  have:=FM r
  simp only[aju,dC,ml]
  omega
mutual
theorem Dz : ∀x:Ins,(gZ x).length≤20*jr x
 |.mk op r a b nn tg ll le=>by
  have h1:=iC ll
  have h2:=iC le
  have h3:=kK 4 a.toNat
  have h4:=kK 4 b.toNat
  have h5:=II 4 nn
  have h6:=kK 4 tg.length
  have h7:=FM tg
  simp only[gZ,jr,ml]
  repeat' split
  all_goals (try simp only[dC,ml,aeK])
  all_goals omega
theorem iC : ∀l:List Ins,(nJ l).length≤20*cz l
 |[]=>H5 _
 |x::r=>by
  have h1:=Dz x
  have h2:=iC r
  simp only[nJ,cz,dC]
  omega
end
theorem lR {a:Int} (h:(Lit.int .u32 a).wf=true):0≤a∧a<4294967296:=by
 have h:aeG.min≤a∧a≤aeG.max:=by simpa[Lit.wf] using h
 exact⟨h.1,ajB h.2 (by decide)⟩
theorem P2 {a:Int} (h:(Lit.int .i32 a).wf=true) : -2147483648≤a∧a<2147483648:=by
 have h:ajx.min≤a∧a≤ajx.max:=by simpa[Lit.wf] using h
 exact⟨h.1,ajB h.2 (by decide)⟩
theorem bW (n:Int):ajw.wrap n=((n%256).toNat:Int):=by rw[wU8];omega
def jU (n:Int):Nat:=(pU 4 n.toNat).length
def qU (n:Int):List PV:=bt (pU 4 n.toNat)
def jS (n:Int):Nat:=(pS 4 n).length
def qS (n:Int):List PV:=bt (pS 4 n)
def qL (cs:List PV):List PV:=fI [] (fun l=>bt (nJ l)) cs
def jL (cs:List PV):Nat:=fI 0 (fun l=>(nJ l).length) cs
theorem lH (l:List Ins):qL (aj l)=bt (nJ l):=iV _ _ l
theorem iJ (l:List Ins):jL (aj l)=(nJ l).length:=iV _ _ l
theorem hG {a:Int} (h:0≤a∧a<4294967296):az ae env 45 [sI .u32 a] [] (.p (.ps (jU a) 1 (qU a))) []:=by
 have:=Bu a.toNat (by omega)
 rwa [show((a.toNat:Nat):Int)=a by omega] at this
theorem gV {a:Int} (h:0≤a∧a<4294967296):az ae env 52 [sI .u32 a] [] (.p (.ps (jU a) 1 (qU a))) []:=by
 have:=yd a.toNat (by omega)
 rwa [show((a.toNat:Nat):Int)=a by omega] at this
theorem Mb {a:Int} (h : -2147483648≤a∧a<2147483648):az ae env 138 [sI .i32 a] [] (.p (.ps (jS a) 1 (qS a))) []:=Ma a h.1 h.2
theorem IK {a:Int} (h : -2147483648≤a∧a<2147483648):az ae env 148 [sI .i32 a] [] (.p (.ps (jS a) 1 (qS a))) []:=IJ a h.1 h.2
theorem qo (n:Int):jU n≤5:=kK 4 _
theorem Yj (n:Int):jS n≤5:=II 4 _
end Go.Proofs.YtncncijedmfpjaaGreatDoor.N
end
section
set_option linter.unusedSimpArgs false
set_option linter.unusedVariables false
namespace Go.Proofs.YtncncijedmfpjaaGreatDoor.N
open Go Go.Am
def akS (l:List Ins) (k:Nat) (X:List PV) (i:Nat) (op r a b nn:Int) (tg:List Int) (ll le:List Ins) (w:Nat) (W:List PV):FuncId→Nat→Nat→Option (AV→AV):=bJ [(123,6,4,nI op r a b nn tg ll le),(123,5,1,sI .i64 ((i+1:Nat):Int))]
def akT (l:List Ins) (k:Nat) (X:List PV) (i:Nat) (op r a b nn:Int) (tg:List Int) (ll le:List Ins) (w:Nat) (W:List PV) (f:FuncId) (args:List AV) (m:Mem):Option (AV×Mem):=cond (ba f 133) (some (.p (.ps w 1 W),m)) none
def roC (op r a b nn:Int) (tg:List Int) (ll le:List Ins) (al:Int) (st li wh:Bool) (J J':aah) (Q Q':aal) (JJ:List PV→Nat) (QQ:List PV→List PV) (f:FuncId) (args:List AV) (m:Mem):Option (AV×Mem):=
 cond (ba f 52) (match args with | [.p (.sc (.int _ n))]=>some (.p (.ps (J n) 1 (Q n)),m) | _=>none)
 (cond (ba f 148) (match args with | [.p (.sc (.int _ n))]=>some (.p (.ps (J' n) 1 (Q' n)),m) | _=>none)
 (cond (ba f 123) (match args with | [.p (.ps _ _ cs)]=>some (.p (.ps (JJ cs) 1 (QQ cs)),m) | _=>none)
 (cond (ba f 145) (some (.aK [sI .u32 al,sB st],m)) (cond (ba f 146) (some (sB li,m)) (cond (ba f 147) (some (sB wh,m)) none)))))
def rtC (k:Nat) (X:List PV) (j:Nat) (op r a b nn:Int) (tg:List Int) (ll le:List Ins) (t:Int) (J:aah) (Q:aal) (f:FuncId) (args:List AV) (m:Mem):Option (AV×Mem):=
 cond (ba f 52) (match args with | [.p (.sc (.int _ n))]=>some (.p (.ps (J n) 1 (Q n)),m) | _=>none) none
def rtS (k:Nat) (X:List PV) (j:Nat) (op r a b nn:Int) (tg:List Int) (ll le:List Ins) (t:Int) (J:aah) (Q:aal):FuncId→Nat→Nat→Option (AV→AV):=bJ [(133,21,5,sI .u32 t),(133,20,1,sI .i64 ((j+1:Nat):Int))]
def agb:bA:=aM aE aC [(123,0)] [] []
def akU:Sc:= .fin
def P3 (l:List Ins):aA:=
 (.at (ah ae env 123 0 [.p (.ps l.length 8 (aj l)),bB,sI .i64 0] ([]) 0 19))
theorem UB (l:List Ins):aI ae env agb 1000000 123 ([aL l]) ([]) akU=P3 l:=by kernel_rfl
def aaf (l:List Ins) (k:Nat) (X:List PV) (i:Nat) (op r a b nn:Int) (tg:List Int) (ll:List Ins) (le:List Ins) (w:Nat) (W:List PV):bA:=dY (akT l k X i op r a b nn tg ll le w W) aC [(123,0)] [(123,0,1)] [(123,6,3),(123,6,4),(123,6,6)] (akS l k X i op r a b nn tg ll le w W)
def agc:Sc:= .fin
def DA (l:List Ins) (k:Nat) (X:List PV) (i:Nat) (op r a b nn:Int) (tg:List Int) (ll:List Ins) (le:List Ins) (w:Nat) (W:List PV):aA:=
 (.test (decide ((↑i:Int)<(↑l.length:Int)))
 (.must (aP (↑i:Int) l.length&&true&&true)
 (.must (isInt re (aq (aj l) (aB i*8))&&(isInt re (aq (aj l) (aB i*8+1))&&(isInt aeG (aq (aj l) (aB i*8+1+1))&&(isInt aeG (aq (aj l) (aB i*8+1+1+1))&&(isInt ajx (aq (aj l) (aB i*8+1+1+1+1))&&(aO (aq (aj l) (aB i*8+1+1+1+1+1))&&(aO (aq (aj l) (aB i*8+1+1+1+1+1+1))&&(aO (aq (aj l) (aB i*8+1+1+1+1+1+1+1))&&true)))))))&&true)
 (.need (AV.agg [sI .i64 (au (aq (aj l) (aB i*8))),sI .i64 (au (aq (aj l) (aB i*8+1))),sI .u32 (au (aq (aj l) (aB i*8+1+1))),sI .u32 (au (aq (aj l) (aB i*8+1+1+1))),sI .i32 (au (aq (aj l) (aB i*8+1+1+1+1))),AV.p (PV.ps (an (aq (aj l) (aB i*8+1+1+1+1+1))) (aD (aq (aj l) (aB i*8+1+1+1+1+1))) (ak (aq (aj l) (aB i*8+1+1+1+1+1)))),AV.p (PV.ps (an (aq (aj l) (aB i*8+1+1+1+1+1+1))) (aD (aq (aj l) (aB i*8+1+1+1+1+1+1))) (ak (aq (aj l) (aB i*8+1+1+1+1+1+1)))),AV.p (PV.ps (an (aq (aj l) (aB i*8+1+1+1+1+1+1+1))) (aD (aq (aj l) (aB i*8+1+1+1+1+1+1+1))) (ak (aq (aj l) (aB i*8+1+1+1+1+1+1+1))))]=nI op r a b nn tg ll le)
 (.call ⟨133,[.agg [sI .i64 op,sI .i64 r,sI .u32 a,sI .u32 b,sI .i32 nn,.p (.ps tg.length 1 (bN aeG tg)),.p (.ps ll.length 8 (aj ll)),.p (.ps le.length 8 (aj le))]],[],.p (.ps w 1 W),[]⟩
 (.must (((k+w)*1).ble aR&&(k+w).ble aR&&true)
 (.need (sI .i64 (re.wrap ((↑i:Int)+1))=sI re (↑(i+1):Int))
 (.at (ah ae env 123 0 [.p (.ps l.length 8 (aj l)),.os (some 0) (k+w) 1 (X++W),sI .i64 (↑(i+1):Int)] ([.tok]) 0 19))))))))
 (.out (.ret (.os (some 0) k 1 X) [.tok])))
theorem FN (l:List Ins) (k:Nat) (X:List PV) (i:Nat) (op r a b nn:Int) (tg:List Int) (ll:List Ins) (le:List Ins) (w:Nat) (W:List PV):grow ae env (aaf l k X i op r a b nn tg ll le w W) 1000000 true (ah ae env 123 0 ([aL l,AV.os (ae2 0) k 1 X,sI re (↑i:Int)]) ([bq.tok]) 0 19) agc atEnd=DA l k X i op r a b nn tg ll le w W:=by kernel_rfl
def agd (op r a b nn:Int) (tg:List Int) (ll:List Ins) (le:List Ins) (al:Int) (st:Bool) (li:Bool) (wh:Bool) (J:aah) (J':aah) (Q:aal) (Q':aal) (JJ:List PV→Nat) (QQ:List PV→List PV):bA:=aM (roC op r a b nn tg ll le al st li wh J J' Q Q' JJ QQ) (roC op r a b nn tg ll le al st li wh J J' Q Q' JJ QQ) [(133,5)] [(133,0,0),(133,0,1),(133,0,2),(133,0,3),(133,0,4),(133,0,7),(133,26,4),(133,0,8),(133,0,9)] [(133,5,4),(133,5,5),(133,6,4),(133,8,2),(133,9,4),(133,10,2),(133,12,4),(133,13,2),(133,15,4),(133,17,6),(133,24,4),(133,25,4),(133,29,4)]
def akV:Sc:=(.fork .fin (.fork .fin (.fork .fin (.fork .fin (.fork .fin (.fork (.lit .fin) .fin))))))
def kL (op r a b nn:Int) (tg:List Int) (ll:List Ins) (le:List Ins) (al:Int) (st:Bool) (li:Bool) (wh:Bool) (J:aah) (J':aah) (Q:aal) (Q':aal) (JJ:List PV→Nat) (QQ:List PV→List PV):aA:=
 (.call ⟨145,[sI .i64 op],[],.aK [sI .u32 al,.p (.sc (.bool st))],[]⟩
 (.call ⟨146,[sI .i64 op],[],.p (.sc (.bool li)),[]⟩
 (.test (li)
 (.must (aP r 2&&true&&true)
 (.must (isInt ajw (aq [.sc (.int .u8 64),.sc (.int .u8 127)] (r.toNat*1))&&true)
 (.call ⟨123,[.p (.ps ll.length 8 (aj ll))],[],.p (.ps (JJ (aj ll)) 1 (QQ (aj ll))),[]⟩
 (.must (((2+JJ (aj ll))*1).ble aR&&(2+JJ (aj ll)).ble aR&&true)
 (.test (decide ((↑le.length:Int)>0))
 (.must (((2+JJ (aj ll)+1)*1).ble aR&&(2+JJ (aj ll)+1).ble aR&&true)
 (.call ⟨123,[.p (.ps le.length 8 (aj le))],[],.p (.ps (JJ (aj le)) 1 (QQ (aj le))),[]⟩
 (.must (((2+JJ (aj ll)+1+JJ (aj le))*1).ble aR&&(2+JJ (aj ll)+1+JJ (aj le)).ble aR&&true)
 (.must (((2+JJ (aj ll)+1+JJ (aj le)+1)*1).ble aR&&(2+JJ (aj ll)+1+JJ (aj le)+1).ble aR&&true)
 (.out (.ret (.os (some 0) (2+JJ (aj ll)+1+JJ (aj le)+1) 1 (.sc (.int .u8 (ajw.wrap op)) :: .sc (.int .u8 (au (aq [.sc (.int .u8 64),.sc (.int .u8 127)] (r.toNat*1))))::((([].append (QQ (aj ll))).append [.sc (.int .u8 5)]).append (QQ (aj le))).append [.sc (.int .u8 11)])) [.tok]))))))
 (.must (((2+JJ (aj ll)+1)*1).ble aR&&(2+JJ (aj ll)+1).ble aR&&true)
 (.out (.ret (.os (some 0) (2+JJ (aj ll)+1) 1 (.sc (.int .u8 (ajw.wrap op)) :: .sc (.int .u8 (au (aq [.sc (.int .u8 64),.sc (.int .u8 127)] (r.toNat*1))))::([].append (QQ (aj ll))).append [.sc (.int .u8 11)])) [.tok]))))))))
 (.test (op==17)
 (.call ⟨52,[sI .u32 a],[],.p (.ps (J a) 1 (Q a)),[]⟩
 (.must (((1+J a)*1).ble aR&&(1+J a).ble aR&&true)
 (.must (((1+J a+1)*1).ble aR&&(1+J a+1).ble aR&&true)
 (.out (.ret (.os (some 0) (1+J a+1) 1 (.sc (.int .u8 (ajw.wrap op))::([].append (Q a)).append [.sc (.int .u8 0)])) [.tok])))))
 (.call ⟨147,[sI .i64 op],[],.p (.sc (.bool wh)),[]⟩
 (.test (wh)
 (.call ⟨52,[sI .u32 a],[],.p (.ps (J a) 1 (Q a)),[]⟩
 (.must (((1+J a)*1).ble aR&&(1+J a).ble aR&&true)
 (.out (.ret (.os (some 0) (1+J a) 1 (.sc (.int .u8 (ajw.wrap op))::[].append (Q a))) [.tok]))))
 (.test (op==14)
 (.call ⟨52,[sI .u32 (aeG.wrap (↑tg.length:Int))],[],.p (.ps (J (aeG.wrap (↑tg.length:Int))) 1 (Q (aeG.wrap (↑tg.length:Int)))),[]⟩
 (.must (((1+J (aeG.wrap (↑tg.length:Int)))*1).ble aR&&(1+J (aeG.wrap (↑tg.length:Int))).ble aR&&true)
 (.at (ah ae env 133 5 [.mp 0 0,.os (some 1) (1+J (aeG.wrap (↑tg.length:Int))) 1 (.sc (.int .u8 (ajw.wrap op))::[].append (Q (aeG.wrap (↑tg.length:Int)))),sI .i64 0] ([.pc [sP op,sP r,.sc (.int .u32 a),.sc (.int .u32 b),.sc (.int .i32 nn),.ps tg.length 1 (bN aeG tg),.ps ll.length 8 (aj ll),.ps le.length 8 (aj le)],.tok]) 0 135))))
 (.test (st)
 (.call ⟨52,[sI .u32 a],[],.p (.ps (J a) 1 (Q a)),[]⟩
 (.must (((1+J a)*1).ble aR&&(1+J a).ble aR&&true)
 (.call ⟨52,[sI .u32 b],[],.p (.ps (J b) 1 (Q b)),[]⟩
 (.must (((1+J a+J b)*1).ble aR&&(1+J a+J b).ble aR&&true)
 (.out (.ret (.os (some 0) (1+J a+J b) 1 (.sc (.int .u8 (ajw.wrap op))::([].append (Q a)).append (Q b))) [.tok]))))))
 (.test (op==63)
 (.out (.ret (.os (some 0) 2 1 [.sc (.int .u8 (ajw.wrap op)),.sc (.int .u8 0)]) [.tok]))
 (.test (op==64)
 (.out (.ret (.os (some 0) 2 1 [.sc (.int .u8 (ajw.wrap op)),.sc (.int .u8 0)]) [.tok]))
 (.test (op==65)
 (.call ⟨148,[sI .i32 nn],[],.p (.ps (J' nn) 1 (Q' nn)),[]⟩
 (.must (((1+J' nn)*1).ble aR&&(1+J' nn).ble aR&&true)
 (.out (.ret (.os (some 0) (1+J' nn) 1 (.sc (.int .u8 (ajw.wrap op))::[].append (Q' nn))) [.tok]))))
 (.out (.ret (.os none 1 1 [.sc (.int .u8 (ajw.wrap op))]) [])))))))))))))
theorem UC (op r a b nn:Int) (tg:List Int) (ll:List Ins) (le:List Ins) (al:Int) (st:Bool) (li:Bool) (wh:Bool) (J:aah) (J':aah) (Q:aal) (Q':aal) (JJ:List PV→Nat) (QQ:List PV→List PV):aI ae env (agd op r a b nn tg ll le al st li wh J J' Q Q' JJ QQ) 1000000 133 ([nI op r a b nn tg ll le]) ([]) akV=kL op r a b nn tg ll le al st li wh J J' Q Q' JJ QQ:=by kernel_rfl
def age (k:Nat) (X:List PV) (j:Nat) (op r a b nn:Int) (tg:List Int) (ll:List Ins) (le:List Ins) (t:Int) (J:aah) (Q:aal):bA:=dY (rtC k X j op r a b nn tg ll le t J Q) aC [(133,5)] [(133,0,6)] [(133,21,4),(133,21,5),(133,21,7),(133,22,4)] (rtS k X j op r a b nn tg ll le t J Q)
def akW:Sc:= .fin
def IL (k:Nat) (X:List PV) (j:Nat) (op r a b nn:Int) (tg:List Int) (ll:List Ins) (le:List Ins) (t:Int) (J:aah) (Q:aal):aA:=
 (.test (decide ((↑j:Int)<(↑tg.length:Int)))
 (.must (aP (↑j:Int) tg.length&&true&&true)
 (.must (isInt aeG (aq (bN aeG tg) (aB j*1))&&true)
 (.need (sI .u32 (au (aq (bN aeG tg) (aB j*1)))=sI aeG t)
 (.call ⟨52,[sI .u32 t],[],.p (.ps (J t) 1 (Q t)),[]⟩
 (.must (((k+J t)*1).ble aR&&(k+J t).ble aR&&true)
 (.need (sI .i64 (re.wrap ((↑j:Int)+1))=sI re (↑(j+1):Int))
 (.at (ah ae env 133 5 [.mp 0 0,.os (some 1) (k+J t) 1 (X++Q t),sI .i64 (↑(j+1):Int)] ([.pc [sP op,sP r,.sc (.int .u32 a),.sc (.int .u32 b),.sc (.int .i32 nn),.ps tg.length 1 (bN aeG tg),.ps ll.length 8 (aj ll),.ps le.length 8 (aj le)],.tok]) 0 135))))))))
 (.call ⟨52,[sI .u32 a],[],.p (.ps (J a) 1 (Q a)),[]⟩
 (.must (((k+J a)*1).ble aR&&(k+J a).ble aR&&true)
 (.out (.ret (.os (some 0) (k+J a) 1 (X++Q a)) [.tok])))))
theorem Ko (k:Nat) (X:List PV) (j:Nat) (op r a b nn:Int) (tg:List Int) (ll:List Ins) (le:List Ins) (t:Int) (J:aah) (Q:aal):grow ae env (age k X j op r a b nn tg ll le t J Q) 1000000 true (ah ae env 133 5 ([AV.mp 0 0,AV.os (ae2 1) k 1 X,sI re (↑j:Int)]) ([bq.pc [PV.sc (sb re op),PV.sc (sb re r),PV.sc (sb aeG a),PV.sc (sb aeG b),PV.sc (sb ajx nn),PV.ps tg.length 1 (bN aeG tg),PV.ps ll.length 8 (aj ll),PV.ps le.length 8 (aj le)],bq.tok]) 0 135) akW atEnd=IL k X j op r a b nn tg ll le t J Q:=by kernel_rfl
theorem vO {tg:List Int} {j:Nat} (h:j<tg.length):(bN .u32 tg).getD (j*1) .bz = .sc (.int .u32 (tg[j]'h)):=by
 simp[bN,List.getD_eq_getElem?_getD,h]
theorem vu {t:Option Nat} {n m:Nat} {X Y:List PV} {mm:Mem} (h:X=Y) (h':n=Y.length) (e:m=Y.length):Out.ret (.os t n 1 X) mm = .ret (.os t m 1 Y) mm:=by subst h;rw[h',e]
theorem aag {op r a b nn:Int} {tg:List Int} {ll le:List Ins} (ha:0≤a∧a<4294967296) (ht : ∀t∈tg,0≤t∧t<4294967296) (hl:tg.length≤1000000) : ∀(n j:Nat) (X:List PV),j+n=tg.length→X.length+5*n≤1000000000 →
  aU ae env (ah ae env 133 5 [.mp 0 0,.os (some 1) X.length 1 X,sI .i64 j] [.pc [.sc (.int .i64 op),.sc (.int .i64 r),.sc (.int .u32 a),.sc (.int .u32 b),.sc (.int .i32 nn),.ps tg.length 1 (bN .u32 tg),.ps ll.length 8 (aj ll),.ps le.length 8 (aj le)],.tok] 0 135)
   (.ret (.os (some 0) (X++(bt ((tg.drop j).flatMap fun t=>pU 4 t.toNat)++qU a)).length 1 (X++(bt ((tg.drop j).flatMap fun t=>pU 4 t.toNat)++qU a))) [.tok]):=by
 have bw:aR=70368744177664:=rfl
 have hja:=qo a
 have hqa:(qU a).length=jU a:=aT _
 intro n
 induction n with
 |zero=>
  intro j X hj hX
  have hd:decide ((j:Int)<(tg.length:Int))=false:=decide_eq_false (by omega)
  refine af aH (Ko X.length X j op r a b nn tg ll le 0 jU qU) ?_
  simp only[IL,aV,aA.ok,hd,bw,ajp,di,and_true,o0,false_implies,true_implies,true_and]
  refine⟨gV ha,⟨by omega,by omega⟩,?_⟩
  rw[agp (by omega)]
  exact vu (by simp[bt]) (by simp[bt,hqa]) rfl
 |succ n ih=>
  intro j X hj hX
  have hjl:j<tg.length:=by omega
  have hd:decide ((j:Int)<(tg.length:Int))=true:=decide_eq_true (by omega)
  have HG:=qo tg[j]
  have hqt:(qU tg[j]).length=jU tg[j]:=aT _
  have w:re.wrap ((j:Int)+1)=((j+1:Nat):Int):=by rw[aQ (by omega) (by omega)];rfl
  refine af aH (Ko X.length X j op r a b nn tg ll le tg[j] jU qU) ?_
  have k:=ih (j+1) (X++qU tg[j]) (by omega) (by rw[dC];omega)
  have e:(X++qU tg[j])++(bt ((tg.drop (j+1)).flatMap fun t=>pU 4 t.toNat)++qU a)=X++(bt ((tg.drop j).flatMap fun t=>pU 4 t.toNat)++qU a):=by
   rw[agj hjl,aju,aS]
   simp[qU]
  rw[e] at k
  have hin:aP (j:Int) tg.length=true:=by simp only[aP,di,decide_eq_true_eq];omega
  simp only[IL,aV,aA.ok,hd,bw,ajp,di,and_true,true_and,ajE,false_implies,true_implies,hin,afm,vO hjl,isInt,au,w,beq_self_eq_true]
  refine⟨gV (ht _ (en hjl)),⟨by omega,by omega⟩,?_⟩
  rw[dC,hqt] at k
  exact k
def qR (l:List Ins):Prop:=az ae env 123 [aL l] [] (.p (.ps (jL (aj l)) 1 (qL (aj l)))) []
set_option maxHeartbeats 4000000 in
theorem P4 {op r a b nn:Int} {tg:List Int} {ll le:List Ins} (hw:Tw (.mk op r a b nn tg ll le)) (hm:kT op=true→r=0∨r=1) (hc:jr (.mk op r a b nn tg ll le)≤1000000) (h1:qR ll) (h2:qR le) :
  az ae env 133 [nI op r a b nn tg ll le] [] (.p (.ps (gZ (.mk op r a b nn tg ll le)).length 1 (bt (gZ (.mk op r a b nn tg ll le))))) []:=by
 have bw:aR=70368744177664:=rfl
 obtain⟨-,-,wa,wb,wn,⟨wt,wt'⟩,-,-,-⟩:=hw
 have wa:=lR wa
 have wb:=lR wb
 have wn:=P2 wn
 have wt' : ∀t∈tg,0≤t∧t<4294967296:=fun t ht=>lR (wt' t ht)
 simp only[jr] at hc
 have k1:jL (aj ll)≤20*cz ll:=by rw[iJ];exact iC ll
 have k2:jL (aj le)≤20*cz le:=by rw[iJ];exact iC le
 have k3:=qo a
 have k4:=qo b
 have k5:=Yj nn
 have k6:=qo tg.length
 have t1:=UC op r a b nn tg ll le (qP op) (iB op) (kT op) (lQ op) jU jS qU qS jL qL
 have q1:(qL (aj ll)).length=jL (aj ll):=by rw[lH,iJ,aT]
 have q2:(qL (aj le)).length=jL (aj le):=by rw[lH,iJ,aT]
 have q3:(qU a).length=jU a:=aT _
 have q4:(qU b).length=jU b:=aT _
 have q5:(qS nn).length=jS nn:=aT _
 have q6:(qU tg.length).length=jU tg.length:=aT _
 have hu:aeG.wrap (tg.length:Int)=tg.length:=uQ (by omega) (by omega)
 have pure : ∀{tok:Option Nat} {m':Mem},az ae env 133 [nI op r a b nn tg ll le] [] (.os tok (gZ (.mk op r a b nn tg ll le)).length 1 (bt (gZ (.mk op r a b nn tg ll le)))) m'→az ae env 133 [nI op r a b nn tg ll le] [] (.p (.ps (gZ (.mk op r a b nn tg ll le)).length 1 (bt (gZ (.mk op r a b nn tg ll le))))) []:=fun h=>az.pure h
 have c0:PV.sc (.int .u8 (ajw.wrap op)) = .sc (.int .u8 ((op%256).toNat:Int)):=by rw[bW]
 cases ia:kT op with
 |true=>
  rw[ia] at t1
  have hr:aP r 2=true∧isInt .u8 ([PV.sc (.int .u8 64),PV.sc (.int .u8 127)].getD (r.toNat*1) .bz)=true∧PV.sc (.int .u8 (au ([PV.sc (.int .u8 64),PV.sc (.int .u8 127)].getD (r.toNat*1) .bz))) = .sc (.int .u8 ((if r=1 then 127 else 64:Nat):Int)):=by
   rcases hm ia with rfl | rfl<;>exact⟨rfl,rfl,rfl⟩
  by_cases hle:le.length=0
  · have hd:decide ((le.length:Int)>0)=false:=decide_eq_false (by omega)
    refine pure (tok:=some 0) (m':=[.tok]) (aa aH t1 ?_)
    simp only[kL,aV,aA.ok,hr.1,hr.2.1,hr.2.2,hd,bw,ajp,di,and_true,true_and,ajE,o0,false_implies,true_implies,c0]
    refine⟨dO op,ia▸eA op,h1,⟨by omega,by omega⟩,⟨by omega,by omega⟩,vu ?_ ?_ (by rw[aT])⟩
    · simp[gZ,ia,hle,bt,lH]
    · simp[gZ,ia,hle,bt,iJ];omega
  · have hd:decide ((le.length:Int)>0)=true:=decide_eq_true (by omega)
    refine pure (tok:=some 0) (m':=[.tok]) (aa aH t1 ?_)
    simp only[kL,aV,aA.ok,hr.1,hr.2.1,hr.2.2,hd,bw,ajp,di,and_true,true_and,ajE,o0,false_implies,true_implies,c0]
    refine⟨dO op,ia▸eA op,h1,⟨by omega,by omega⟩,⟨by omega,by omega⟩,h2,⟨by omega,by omega⟩,⟨by omega,by omega⟩,vu ?_ ?_ (by rw[aT])⟩
    · simp[gZ,ia,hle,bt,lH]
    · simp[gZ,ia,hle,bt,iJ];omega
 |false=>
  rw[ia] at t1
  by_cases qp:op=17
  · refine pure (tok:=some 0) (m':=[.tok]) (aa aH t1 ?_)
    simp only[kL,aV,aA.ok,qp,bw,ajp,di,and_true,true_and,ajE,o0,false_implies,true_implies,beq_self_eq_true]
    refine⟨dO 17,qp▸ia▸eA op,gV wa,⟨by omega,by omega⟩,⟨by omega,by omega⟩,vu ?_ ?_ (by rw[aT])⟩
    · subst qp;simp[gZ,ia,bt,qU,bW]
    · subst qp;simp[gZ,ia,bt,jU];omega
  · have d17:(op==17)=false:=by simpa using qp
    cases qq:lQ op with
    |true=>
     rw[qq] at t1
     refine pure (tok:=some 0) (m':=[.tok]) (aa aH t1 ?_)
     simp only[kL,aV,aA.ok,d17,bw,ajp,di,and_true,true_and,ajE,o0,false_implies,true_implies,c0]
     refine⟨dO op,ia▸eA op,qq▸fU op,gV wa,⟨by omega,by omega⟩,vu ?_ ?_ (by rw[aT])⟩
     · simp[gZ,ia,qp,qq,bt,qU]
     · simp[gZ,ia,qp,qq,bt,jU];omega
    |false=>
     rw[qq] at t1
     by_cases Ez:op=14
     · refine pure (tok:=some 0) (m':=[.tok]) (aa aH t1 ?_)
       simp only[kL,aV,aA.ok,Ez,bw,ajp,di,and_true,true_and,ajE,o0,false_implies,true_implies,beq_self_eq_true,hu,show((14:Int)==17)=false from rfl]
       refine⟨dO 14,Ez▸ia▸eA op,Ez▸qq▸fU op,gV ⟨by omega,by omega⟩,⟨by omega,by omega⟩,?_⟩
       have k:=aag (op:=14) (r:=r) (b:=b) (nn:=nn) (ll:=ll) (le:=le) wa wt' (by omega) tg.length 0 (.sc (.int .u8 (ajw.wrap 14))::qU tg.length) (by omega) (by simp only[ml,q6];omega)
       subst Ez
       have e:(PV.sc (.int .u8 (ajw.wrap 14))::qU tg.length)++(bt ((tg.drop 0).flatMap fun t=>pU 4 t.toNat)++qU a)=bt (gZ (.mk 14 r a b nn tg ll le)):=by
        simp[gZ,ia,qq,bt,qU,bW]
       rw[e,aT] at k
       simp only[ml,q6,Nat.add_comm _ 1] at k
       exact k
     · have d14:(op==14)=false:=by simpa using Ez
       cases hst:iB op with
       |true=>
        rw[hst] at t1
        have n63 : ¬(op=63∨op=64):=fun h=>by rw[sr] at hst;omega
        have PI : ¬op=65:=fun h=>by rw[sr] at hst;omega
        refine pure (tok:=some 0) (m':=[.tok]) (aa aH t1 ?_)
        simp only[kL,aV,aA.ok,d17,d14,bw,ajp,di,and_true,true_and,ajE,o0,false_implies,true_implies,c0]
        refine⟨hst▸dO op,ia▸eA op,qq▸fU op,gV wa,⟨by omega,by omega⟩,gV wb,⟨by omega,by omega⟩,vu ?_ ?_ (by rw[aT])⟩
        · simp[gZ,ia,qp,qq,Ez,n63,PI,hst,bt,qU]
        · simp[gZ,ia,qp,qq,Ez,n63,PI,hst,bt,jU];omega
       |false=>
        rw[hst] at t1
        by_cases h63:op=63
        · refine pure (tok:=some 0) (m':=[.tok]) (aa aH t1 ?_)
          simp only[kL,aV,aA.ok,d17,d14,h63,bw,ajp,di,and_true,true_and,ajE,o0,false_implies,true_implies,beq_self_eq_true,show((63:Int)==17)=false from rfl,show((63:Int)==14)=false from rfl]
          refine⟨h63▸hst▸dO op,h63▸ia▸eA op,h63▸qq▸fU op,vu ?_ ?_ (by rw[aT])⟩
          · subst h63;simp[gZ,ia,qq,bt,bW]
          · subst h63;simp[gZ,ia,qq,bt]
        · by_cases EA:op=64
          · refine pure (tok:=some 0) (m':=[.tok]) (aa aH t1 ?_)
            simp only[kL,aV,aA.ok,d17,d14,EA,bw,ajp,di,and_true,true_and,ajE,o0,false_implies,true_implies,beq_self_eq_true,show((64:Int)==17)=false from rfl,show((64:Int)==14)=false from rfl,show((64:Int)==63)=false from rfl]
            refine⟨EA▸hst▸dO op,EA▸ia▸eA op,EA▸qq▸fU op,vu ?_ ?_ (by rw[aT])⟩
            · subst EA;simp[gZ,ia,qq,bt,bW]
            · subst EA;simp[gZ,ia,qq,bt]
          · have d63:(op==63)=false:=by simpa using h63
            have d64:(op==64)=false:=by simpa using EA
            by_cases EB:op=65
            · refine pure (tok:=some 0) (m':=[.tok]) (aa aH t1 ?_)
              simp only[kL,aV,aA.ok,d17,d14,EB,bw,ajp,di,and_true,true_and,ajE,o0,false_implies,true_implies,beq_self_eq_true,show((65:Int)==17)=false from rfl,show((65:Int)==14)=false from rfl,show((65:Int)==63)=false from rfl,show((65:Int)==64)=false from rfl]
              refine⟨EB▸hst▸dO op,EB▸ia▸eA op,EB▸qq▸fU op,IK wn,⟨by omega,by omega⟩,vu ?_ ?_ (by rw[aT])⟩
              · subst EB;simp[gZ,ia,qq,bt,bW,qS]
              · subst EB;simp[gZ,ia,qq,bt,jS];omega
            · have d65:(op==65)=false:=by simpa using EB
              refine pure (tok:=none) (m':=[]) (aa aH t1 ?_)
              simp only[kL,aV,aA.ok,d17,d14,d63,d64,d65,bw,ajp,di,and_true,true_and,ajE,o0,false_implies,true_implies,c0]
              refine⟨hst▸dO op,ia▸eA op,qq▸fU op,vu ?_ ?_ (by rw[aT])⟩
              · simp[gZ,ia,qp,qq,Ez,h63,EA,EB,hst,bt]
              · simp[gZ,ia,qp,qq,Ez,h63,EA,EB,hst,bt]
theorem FO {l:List Ins} {i:Nat} (h:i<l.length):nJ (l.drop i)=gZ l[i]++nJ (l.drop (i+1)):=by
 rw[agj h,nJ]
theorem DB {p:Ins→Bool} : ∀{l:List Ins} {x:Ins},sW p l=true→x∈l→p x=true∧sW p x.l=true∧sW p x.e=true
 |.mk op r a b n tg ll le::l,x,h,hx=>by
  simp only[sW,okI,di] at h
  cases hx with
  |head=>exact⟨h.1.1,h.1.2.1,h.1.2.2⟩
  |tail _ hx=>exact DB h.2 hx
theorem lF : ∀{l:List Ins} {x:Ins},qn l→x∈l→Tw x
 |y::l,x,h,hx=>by
  simp only[qn] at h
  cases hx with
  |head=>exact h.1
  |tail _ hx=>exact lF h.2 hx
theorem aai {op r a b nn:Int} {tg:List Int} {ll le:List Ins} (h:dQ (.mk op r a b nn tg ll le)=true):r=0∨r=1:=by
 simp only[dQ,ud,di,Bool.not_eq_true',decide_eq_false_iff_not] at h
 omega
theorem IM {l:List Ins} (hw:qn l) (hok:sW dQ l=true) (hc:cz l≤1000000) (IH : ∀x∈l,qR x.l∧qR x.e) : ∀(n i:Nat) (X:List PV),i+n=l.length→X.length+20*cz (l.drop i)≤1000000000 →
  aU ae env (ah ae env 123 0 [aL l,.os (some 0) X.length 1 X,sI .i64 i] [.tok] 0 19) (.ret (.os (some 0) (X++bt (nJ (l.drop i))).length 1 (X++bt (nJ (l.drop i)))) [.tok]):=by
 have bw:aR=70368744177664:=rfl
 have TJ:=jt l
 intro n
 induction n with
 |zero=>
  intro i X hi hX
  have hd:decide ((i:Int)<(l.length:Int))=false:=decide_eq_false (by omega)
  refine af aH (FN l X.length X i 0 0 0 0 0 [] [] [] 0 []) ?_
  simp only[DA,aV,aA.ok,hd,and_true,o0,false_implies,true_implies,true_and]
  rw[agp (by omega)]
  exact vu (by simp[nJ,bt]) (by simp[nJ,bt]) rfl
 |succ n ih=>
  intro i X hi hX
  have nW:i<l.length:=by omega
  have FA:l[i]? = some l[i]:=List.getElem?_eq_getElem nW
  have hmem:l[i]∈l:=en nW
  have hd:decide ((i:Int)<(l.length:Int))=true:=decide_eq_true (by omega)
  have hin:aP (i:Int) l.length=true:=by simp only[aP,di,decide_eq_true_eq];omega
  have hcx:=fS hmem
  have hb:=Dz l[i]
  have hcd:cz (l.drop i)=jr l[i]+cz (l.drop (i+1)):=by rw[agj nW,cz]
  have k:=ih (i+1) (X++bt (gZ l[i])) (by omega) (by rw[dC,aT];omega)
  rw[show(X++bt (gZ l[i]))++bt (nJ (l.drop (i+1)))=X++bt (nJ (l.drop i)) by rw[FO nW,aS,List.append_assoc],dC,aT] at k
  have UD:=lF hw hmem
  have hox:=DB hok hmem
  have pJ:=IH l[i] hmem
  generalize l[i]=x at *
  obtain⟨op,r,a,b,nn,tg,ll,le⟩:=x
  obtain⟨c0,c1,c2,c3,c4,c5,c6,c7⟩:=gE FA
  have w:re.wrap ((i:Int)+1)=((i+1:Nat):Int):=by rw[aQ (by omega) (by omega)];rfl
  refine af aH (FN l X.length X i op r a b nn tg ll le (gZ (.mk op r a b nn tg ll le)).length (bt (gZ (.mk op r a b nn tg ll le)))) ?_
  simp only[DA,aV,aA.ok,hd,bw,ajp,di,and_true,true_and,ajE,false_implies,true_implies,hin,afm,Nat.add_assoc,Nat.reduceAdd,c0,c1,c2,c3,c4,c5,c6,c7,isInt,aO,au,an,aD,ak,w,beq_self_eq_true]
  exact⟨rfl,P4 UD (fun _=>aai hox.1) (by omega) pJ.1 pJ.2,⟨by omega,by omega⟩,k⟩
theorem IN : ∀l:List Ins,qn l→sW dQ l=true→cz l≤1000000→qR l∧az ae env 123 [aL l] [] (.os (some 0) (jL (aj l)) 1 (qL (aj l))) [.tok]:=by
 refine pI fun l IH hw hok hc=> ?_
 have aov:=iC l
 have IH' : ∀x∈l,qR x.l∧qR x.e:=fun x hx=>by
  have h1:=DB hok hx
  have h2:=lF hw hx
  have h3:=fS hx
  have h4:=IH x hx
  obtain⟨op,r,a,b,nn,tg,ll,le⟩:=x
  simp only[Ins.l,Ins.e,jr,Tw] at h1 h2 h3 h4 ⊢
  exact⟨(h4.1 h2.2.2.2.2.2.2.1.2 h1.2.1 (by omega)).1,(h4.2 h2.2.2.2.2.2.2.2.2 h1.2.2 (by omega)).1⟩
 suffices h:az ae env 123 [aL l] [] (.os (some 0) (jL (aj l)) 1 (qL (aj l))) [.tok] from⟨az.yc h,h⟩
 rw[iJ,lH]
 refine aa aH (UB l) ?_
 simp only[P3,aV,aA.ok]
 have k:=IM hw hok hc IH' l.length 0 [] (by omega) (by simp only[aeI,aeK];omega)
 rw[aeI,Hm,aT] at k
 exact aU.kJ 3 1 (c9 1) (by kernel_rfl) (by kernel_rfl) (aU.Az (by kernel_rfl) k)
end Go.Proofs.YtncncijedmfpjaaGreatDoor.N
end
