import Derived.Test.YtjfgfhaoeicpdaaGreatDoorMT
import Derived.Test.YtjfgfhaoeicpdaaGreatDoorMH
import Derived.Test.YtjfgfhaoeicpdaaGreatDoorMP
import Derived.Test.YtjfgfhaoeicpdaaGreatDoorML
open Go.IntKind renaming u32→abb,i64→rn,u64→afo,i32→ae3
open Nat renaming reduceAdd→ab2,add_assoc→fg,beq→ae,le_refl→bj
open List renaming flatMap→aeR,getElem?_eq_getElem→bm,getElem_mem→dE,any_eq_false→ah5,map→abG,mem_append→mi,mem_map→ed,length_nil→abn,length_map→mf,replicate→bx
open Int renaming toNat_natCast→aep
open Bool renaming true_eq_false→afn,false_eq_true→oE,and_eq_true→ch,and_true→aeU,or_eq_false_iff→oT,or_eq_true→ib
open Go.Proofs.Tryz renaming prog→ab5
open Go.Fn renaming func→adL
open Go.Value renaming int→sd,bool→ae6,pointer→ah6
open Option renaming some→acx,none→acb
noncomputable section
section
set_option linter.unusedSimpArgs false
set_option linter.unusedVariables false
namespace Go.Proofs.YtjfgfhaoeicpdaaGreatDoor.N
open Go Go.Am
theorem fU {q k n c c' m:Nat} {d d':Bool} {f:Nat→VR} (h:dK q k n d f = .ok m d' c') : ∃x,f x = .ok m d' c':=by
 unfold dK at h;split at h
 · cases h
 · exact⟨_,h⟩
theorem vY {q r n m c':Nat} {d d':Bool} {f:VR} (h:gM r n d q f = .ok m d' c'):f = .ok m d' c':=by
 unfold gM at h
 obtain⟨x,hx⟩:=fU (c:=0) h
 split at hx
 · cases hx
 · exact hx
theorem FA {V:kg} {ls:List Nat} {op a:Int} {tg:List Int} {n m c c':Nat} {d d':Bool} (h:fW V ls op a tg n d c = .ok m d' c'):c'=c:=by
 unfold fW at h
 split at h
 · split at h
   · cases h
   · obtain⟨x,hx⟩:=fU (c:=0) h
     cases hx;rfl
 split at h
 · split at h
   · cases h
   · obtain⟨x,hx⟩:=fU (c:=0) h
     obtain⟨y,hy⟩:=fU (c:=0) hx
     cases hy;rfl
 split at h
 · split at h
   · cases h
   · obtain⟨x,hx⟩:=fU (c:=0) h
     obtain⟨y,hy⟩:=fU (c:=0) hx
     cases hy;rfl
 split at h
 · obtain⟨x,hx⟩:=fU (c:=0) h
   cases hx;rfl
 split at h
 · split at h
   · cases h
   · obtain⟨x,hx⟩:=fU (c:=0) h
     cases hx;rfl
 split at h
 · split at h
   · cases h
   · obtain⟨x,hx⟩:=fU (c:=0) h
     obtain⟨y,hy⟩:=fU (c:=0) hx
     cases hy;rfl
 split at h
 · cases h
 · obtain⟨x,hx⟩:=fU (c:=0) h
   cases hx;rfl
mutual
theorem qu (V:kg) (ls:List Nat) : ∀(x:Ins) (n:Nat) (d:Bool) (c m:Nat) (d':Bool) (c':Nat),mU V ls x n d c = .ok m d' c'→c≤c'∧c'+1≤c+mw x
 |.mk op r a b nn tg l e,n,d,c,m,d',c',h=>by
  simp only[mU] at h
  simp only[mw]
  split at h
  · cases h;omega
  split at h
  · split at h
    · cases h
    · rename_i n1 d1 c1 h1
      have:=iC V _ l 0 false c n1 d1 c1 h1
      have:=vY h
      cases this;omega
  split at h
  · obtain⟨x,h⟩:=fU (c:=0) h
    split at h
    · cases h
    · rename_i n1 d1 c1 h1
      have:=iC V _ l 0 false c n1 d1 c1 h1
      have h:=vY h
      split at h
      · cases h
      · rename_i n2 d2 c2 h2
        have:=iC V _ e 0 false c1 n2 d2 c2 h2
        have h:=vY h
        cases h;omega
  · have:=FA h
    omega
theorem iC (V:kg) (ls:List Nat) : ∀(l:List Ins) (n:Nat) (d:Bool) (c m:Nat) (d':Bool) (c':Nat),eX V ls l n d c = .ok m d' c'→c≤c'∧c'≤c+cS l
 |[],n,d,c,m,d',c',h=>by simp only[eX] at h;cases h;simp
 |x::r,n,d,c,m,d',c',h=>by
  simp only[eX] at h
  simp only[cS]
  split at h
  · cases h
  · rename_i n1 d1 c1 h1
    have:=qu V ls x n d (c+1) n1 d1 c1 h1
    have:=iC V ls r n1 d1 c1 m d' c' h
    omega
end
theorem BI (V:kg) (ls:List Nat) (x:Ins) (r:List Ins) (n:Nat) (d:Bool) (c:Nat):eX V ls (x::r) n d c=(mU V ls x n d (c+1)).and fun n d c=>eX V ls r n d c:=by
 simp only[eX]
 cases mU V ls x n d (c+1)<;>rfl
theorem iku:(abb==abb)=true:=rfl
theorem iki:(ae3==ae3)=true:=rfl
def aan (x:Ins):Bool:=decide (0≤x.results∧x.results≤1)
structure Fit (l:List Ins) (c k:Nat):Prop where
 res:zY aan l=true
 wf:Ky l
 tag:mz l≤1000000000
 num:c+cS l≤1000000000
 dep:k+gm 1 l≤1000
section
variable {X:Lx} {V:kg} {ll:List Ins}
theorem oJ (o:List Fr) (t:Fr) (d:Bool):bJ (o++[⟨t.op,t.base,t.res,d⟩])=bJ (o++[t]):=by simp[bJ]
def CL (X:Lx) (V:kg) (l:List Ins):Prop:= ∀(R:Rw) (o:List Fr) (t:Fr) (n c:Nat),Fit l c (o.length+1)→dS R o t n c → ∃R',cT X 90 [aL l] R R'∧dx o t R' (eX V (bJ (o++[t])) l n t.dead c)
def CI (X:Lx) (V:kg) (o:List Fr) (t:Fr) (x:Ins):Prop:= ∀(R:Rw) (d:Bool) (n c:Nat),c+mw x≤1000000001→dS R o ⟨t.op,t.base,t.res,d⟩ n c→R.h+1≤c → ∃R',cT X 106 [S6 x,sI .i64 c] R R'∧dx o t R' (mU V (bJ (o++[t])) x n d c)
theorem Rn {R:Rw} (he:R.e≠0) (l:List Ins) (hl:l.length≤1000000000):cT X 90 [aL l] R R:=by
 refine an.settle (l0:=X.M.cells++[sI .i64 X.tP,sI .i64 X.tR,sI .u64 X.own,sI .i64 R.h,.ms 1 0 R.k 4 none,sI .i64 R.e,sI .i64 R.p,sI .i64 R.nx]) ?_ (bj 2)
 refine af aM (zj X R R R R R R R R l) ?_
 simp only[vV,aC.ok,aF]
 have e0:(R.e != 0)=true:=by simpa using he
 cases l with
 |nil=>
  refine ah aM (rW X R R R R R R R R [] 0 0 0 0 0 0 [] [] []) ?_
  simp only[rV,jC,bN,aC.ok,aF,abn]
  exact⟨fun h=>absurd h (by decide),fun _=>trivial⟩
 |cons x r=>
  obtain⟨op,rs,a,b,nn,tg,ll,le⟩:=x
  have hg:(Ins.mk op rs a b nn tg ll le::r)[0]? = some (.mk op rs a b nn tg ll le):=rfl
  obtain⟨c0,c1,c2,c3,c4,c5,c6,c7⟩:=nR hg
  refine ah aM (rW X R R R R R R R R (.mk op rs a b nn tg ll le::r) 0 op rs a b nn tg ll le) ?_
  have g1:decide (((0:Nat):Int)<((Ins.mk op rs a b nn tg ll le::r).length:Int))=true:=by simp
  simp only[rV,jC,bN,aC.ok,aF,g1,e0,aep,fg,ab2,c0,c1,c2,c3,c4,c5,c6,c7,isInt,bB,az,aD,bh,au,bp,ik,iku,iki,afn,false_implies,true_implies,true_and,and_true,aeU,ch,decide_eq_true_eq]
  exact⟨by omega,rfl⟩
theorem LX {o:List Fr} {t:Fr} {xs:List Ins} (hx:xs.length≤1000000000) (IH : ∀x∈xs,CI X V o t x) :
  ∀(m i:Nat),i+m=xs.length → ∀(R:Rw) (v:VR),dx o t R v→(∀n d c,v = .ok n d c→c+cS (xs.drop i)≤1000000000) →
   ∃R',bR ab5 env (ak ab5 env 90 0 [.mp 0 0,aL xs,sI .i64 xs.length,sI .i64 i] (kU X R) 2 32) (.ret (.aA []) (kU X R'))∧dx o t R' (v.and fun n d c=>eX V (bJ (o++[t])) (xs.drop i) n d c):=by
 intro m
 induction m with
 |zero=>
  intro i hi R v hv _
  refine⟨R,ah aM (zk X R R R R R R R R xs i 0 0 0 0 0 [] [] []) ?_,?_⟩
  · have g1:decide ((i:Int)<(xs.length:Int))=false:=by simp;omega
    simp only[vW,lI,bN,aC.ok,aF,g1,oE,false_implies,true_implies,true_and]
  · rw[List.drop_eq_nil_of_le (by omega)]
    cases v with
    |bK e q=>exact hv
    |ok n d c=>exact hv
 |succ m ih=>
  intro i hi R v hv hb
  have hlt:i<xs.length:=by omega
  have vo:xs[i]? = some xs[i]:=bm hlt
  have hdr:xs.drop i=xs[i]::xs.drop (i+1):=List.drop_eq_getElem_cons hlt
  have hmem:xs[i]∈xs:=dE hlt
  generalize xs[i]=x at *
  have Zh:=IH x hmem
  obtain⟨op,rs,a,b,nn,tg,ll,le⟩:=x
  obtain⟨c0,c1,c2,c3,c4,c5,c6,c7⟩:=nR vo
  have g1:decide ((i:Int)<(xs.length:Int))=true:=by simp;omega
  have w1:rn.wrap ((i:Int)+1)=((i+1:Nat):Int):=by rw[aO (by omega) (by omega)];rfl
  cases v with
  |bK e q=>
   have e0:(R.e != 0)=true:=by rw[hv.1];simpa using hv.2.1
   refine⟨R,ah aM (zk X R R R R R R R R xs i op rs a b nn tg ll le) ?_,hv⟩
   simp only[vW,lI,bN,aC.ok,aF,g1,e0,aep,fg,ab2,c0,c1,c2,c3,c4,c5,c6,c7,isInt,bB,az,aD,bh,au,bp,ik,iku,iki,afn,false_implies,true_implies,true_and,and_true,aeU,ch,decide_eq_true_eq]
   exact⟨by omega,rfl⟩
  |ok n d c=>
   have VT:=hb n d c rfl
   rw[hdr] at VT
   have hn1:1≤mw (.mk op rs a b nn tg ll le):=by simp only[mw];omega
   simp only[cS] at VT
   have hg:dS ⟨R.h,R.k,R.cs,R.e,R.p,R.nx+1⟩ o ⟨t.op,t.base,t.res,d⟩ n (c+1):=by
    obtain⟨⟨q1,q2,q3,q4⟩,q5,q6,q8,q7⟩:=hv
    exact⟨⟨q1,q2,q3,q4⟩,q5,by simp only;omega,q8,by simp only;omega⟩
   obtain⟨R1,r1,a1⟩:=Zh _ d n (c+1) (by omega) hg (by have:=hv.le;simp only;omega)
   obtain⟨R',gR,aR⟩:=ih (i+1) (by omega) R1 _ a1 (fun n' d' c' VX=>by
    have:=qu V _ _ _ _ _ _ _ _ VX
    omega)
   refine⟨R',ah aM (zk X R R1 R R R R R R xs i op rs a b nn tg ll le) ?_,?_⟩
   · have e0:(R.e != 0)=false:=by have:=hv.e;simp[this]
     have Si:R.nx=(c:Int):=hv.nx
     have w2:rn.wrap (R.nx+1)=R.nx+1:=aO (by omega) (by omega)
     have Wn:((c+1:Nat):Int)=R.nx+1:=by omega
     rw[Wn] at r1
     simp only[vW,lI,bN,aC.ok,aF,g1,e0,w1,w2,aep,fg,ab2,c0,c1,c2,c3,c4,c5,c6,c7,isInt,bB,az,aD,bh,au,bp,ik,iku,iki,oE,afn,false_implies,true_implies,true_and,and_true,aeU,ch,decide_eq_true_eq]
     exact⟨by omega,rfl,r1,gR⟩
   · rw[hdr]
     show dx o t R' (eX V (bJ (o++[t])) (.mk op rs a b nn tg ll le::xs.drop (i+1)) n d c)
     rw[BI]
     exact aR
theorem Vt {o:List Fr} {t:Fr} {xs:List Ins} (hx:xs.length≤1000000000) (IH : ∀x∈xs,CI X V o t x) {R:Rw} {n c:Nat} (hc:c+cS xs≤1000000000) (g:dS R o t n c) :
  ∃R',cT X 90 [aL xs] R R'∧dx o t R' (eX V (bJ (o++[t])) xs n t.dead c):=by
 cases xs with
 |nil=>
  refine⟨R,?_,by simp only[eX];exact g⟩
  refine an.settle (l0:=X.M.cells++[sI .i64 X.tP,sI .i64 X.tR,sI .u64 X.own,sI .i64 R.h,.ms 1 0 R.k 4 none,sI .i64 R.e,sI .i64 R.p,sI .i64 R.nx]) ?_ (bj 2)
  refine af aM (zj X R R R R R R R R []) ?_
  simp only[vV,aC.ok,aF]
  refine ah aM (rW X R R R R R R R R [] 0 0 0 0 0 0 [] [] []) ?_
  simp only[rV,jC,bN,aC.ok,aF,abn]
  exact⟨fun h=>absurd h (by decide),fun _=>trivial⟩
 |cons x r=>
  have Zh:=IH x (by simp)
  obtain⟨op,rs,a,b,nn,tg,ll,le⟩:=x
  have hn1:1≤mw (.mk op rs a b nn tg ll le):=by simp only[mw];omega
  simp only[cS] at hc
  have vo:(Ins.mk op rs a b nn tg ll le::r)[0]? = some (.mk op rs a b nn tg ll le):=rfl
  obtain⟨c0,c1,c2,c3,c4,c5,c6,c7⟩:=nR vo
  have hg:dS ⟨R.h,R.k,R.cs,R.e,R.p,R.nx+1⟩ o ⟨t.op,t.base,t.res,t.dead⟩ n (c+1):=by
   obtain⟨⟨q1,q2,q3,q4⟩,q5,q6,q8,q7⟩:=g
   exact⟨⟨q1,q2,q3,q4⟩,q5,by simp only;omega,q8,by simp only;omega⟩
  obtain⟨R1,r1,a1⟩:=Zh _ t.dead n (c+1) (by omega) hg (by have:=g.le;simp only;omega)
  obtain⟨R',gR,aR⟩:=LX (V:=V) hx IH r.length 1 (by simp;omega) R1 _ a1 (fun n' d' c' VX=>by
   have:=qu V _ _ _ _ _ _ _ _ VX
   simp only[List.drop_succ_cons,List.drop_zero]
   omega)
  refine⟨R',af aM (zj X R R R R R R R R _) ?_,?_⟩
  · simp only[vV,aC.ok,aF]
    refine ah aM (rW X R R1 R R R R R R (.mk op rs a b nn tg ll le::r) 0 op rs a b nn tg ll le) ?_
    have g1:decide (((0:Nat):Int)<((Ins.mk op rs a b nn tg ll le::r).length:Int))=true:=by simp
    have e0:(R.e != 0)=false:=by have:=g.e;simp[this]
    have Si:R.nx=(c:Int):=g.nx
    have w2:rn.wrap (R.nx+1)=R.nx+1:=aO (by omega) (by omega)
    have Wn:((c+1:Nat):Int)=R.nx+1:=by omega
    rw[Wn] at r1
    simp only[rV,jC,bN,aC.ok,aF,g1,e0,w2,aep,fg,ab2,c0,c1,c2,c3,c4,c5,c6,c7,isInt,bB,az,aD,bh,au,bp,ik,iku,iki,oE,afn,false_implies,true_implies,true_and,and_true,aeU,ch,decide_eq_true_eq]
    exact⟨by omega,rfl,r1,rfl,gR⟩
  · rw[BI]
    exact aR
theorem j6 {o:List Fr} {t:Fr} {d:Bool} {R:Rw} {v:VR} (h:dx o ⟨t.op,t.base,t.res,d⟩ R v):dx o t R v:=by
 cases v with
 |bK e q=>exact h
 |ok n d c=>exact h
theorem tT (MO:CL X V ll) {R:Rw} {o:List Fr} {t:Fr} {n c:Nat} (g:dS R o t n c) {op r:Int} (q:Nat) (hop:op=2∨op=3∨op=4∨op=5) (hr:0≤r) (FO:r≤1) (hh:R.h+1≤c)
  (hfit:Fit ll c (o.length+2)) : ∃R1 R2 R3,cT X 131 [sI .i64 op,sI .i64 r,sI .i64 q] R R1∧an ab5 env 131 [.mp 0 0,sI .i64 op,sI .i64 r,sI .i64 q] (eK X R) (.aA []) [bf X.M X.tP X.tR X.own R1.h 2 R1.k R1.e R1.p R1.nx,dj R.cs,dj R1.cs] ∧
    cT X 90 [aL ll] R1 R2∧cT X 91 [sI .i64 q] R2 R3∧dx o t R3 ((eX V ((if op=3 then 0 else r.toNat)::bJ (o++[t])) ll 0 false c).and fun n1 d1 c1=>gM r.toNat n1 d1 q (.ok (n+r.toNat) t.dead c1)):=by
 have hd:=hfit.dep
 obtain⟨R1,r1,k1,g1⟩:=LM (X:=X) g q hop hr FO (by omega)
 obtain⟨R2,r2,a2⟩:=MO R1 (o++[t]) ⟨op,R.h,r,false⟩ 0 c (by rw[List.length_append];exact hfit) g1
 rw[Q5] at a2
 dsimp only at a2
 cases hv:eX V ((if op=3 then 0 else r.toNat)::bJ (o++[t])) ll 0 false c with
 |bK e p=>
  rw[hv] at a2
  have hb:R2.e≠0:=by rw[a2.1];exact a2.2.1
  exact⟨R1,R2,R2,r1,k1,r2,ZZ hb,a2⟩
 |ok n1 d1 c1=>
  rw[hv] at a2
  have gG:=iC V _ _ _ _ _ _ _ _ hv
  have aei:=hfit.num
  obtain⟨R3,r3,a3⟩:=LN (X:=X) (s:=t) a2 q (by simp only;omega) (by omega)
  refine⟨R1,R2,R3,r1,k1,r2,r3,?_⟩
  have hn:(R.h-t.base).toNat=n:=by have:=g.h;omega
  simp only[hn] at a3
  exact a3
end
theorem JM {p:Ins→Bool} : ∀{l:List Ins},zY p l=true → ∀x∈l,S5 p x=true
 |[],_,_,hx=>by cases hx
 |y::r,h,x,hx=>by
  simp only[zY,ch] at h
  cases hx with
  |head=>exact h.1
  |tail _ hx=>exact JM h.2 x hx
theorem rD : ∀{l:List Ins},Ky l → ∀x∈l,V5 x
 |[],_,_,hx=>by cases hx
 |y::r,h,x,hx=>by
  simp only[Ky] at h
  cases hx with
  |head=>exact h.1
  |tail _ hx=>exact rD h.2 x hx
theorem FB : ∀{l:List Ins},∀x∈l,Gz x≤mz l
 |[],_,hx=>by cases hx
 |y::r,x,hx=>by
  simp only[mz]
  cases hx with
  |head=>omega
  |tail _ hx=>have:=FB x hx;omega
theorem FC {d:Nat} : ∀{l:List Ins},∀x∈l,zZ d x≤gm d l
 |[],_,hx=>by cases hx
 |y::r,x,hx=>by
  simp only[gm]
  cases hx with
  |head=>omega
  |tail _ hx=>have:=FC (d:=d) x hx;omega
theorem JN (l:List Ins):gm 1 l+1≤max 1 (gm 2 l):=by
 by_cases h:l=[]
 · subst h;simp[gm]
 · have h2:gm 2 l=gm 1 l+1:=mA 1 l h
   omega
theorem Ro {r n q a x:Nat} {d b:Bool} {f:VR}:gM r n d q f=(gM r n d q (.ok a b x)).and fun _ _ _=>f:=by
 unfold gM dK
 split
 · rfl
 · dsimp only
   split<;>rfl
theorem Vu {v:VR} {F G:Nat→Bool→Nat→VR}:(v.and F).and G=v.and fun n d c=>(F n d c).and G:=by cases v<;>rfl
section
variable {X:Lx} {V:kg}
theorem LY (hv:Wc X V) {o:List Fr} {t:Fr} (x:Ins) (hl:CL X V x.l) (he:CL X V x.e) (hok:S5 aan x=true) (hwf:V5 x) (ahB:Gz x≤1000000000) (ahC:o.length+1+zZ 1 x≤1000):CI X V o t x:=by
 obtain⟨op,r,a,b,nn,tg,ll,le⟩:=x
 intro R d n c aei g hh
 simp only[Ins.l,Ins.e] at hl he
 simp only[S5,ch] at hok
 obtain⟨hres,ahD,ahE⟩:=hok
 obtain⟨hr0,FO⟩:0≤r∧r≤1:=of_decide_eq_true hres
 simp only[V5] at hwf
 obtain⟨_,_,wa,_,_,⟨wt1,wt2⟩,⟨_,wl⟩,_,we⟩:=hwf
 simp only[Gz] at ahB
 simp only[zZ,ab2] at ahC
 simp only[mw] at aei
 have ha:=Iu wa
 have V6 : ∀x∈tg,0≤x∧x<4294967296:=fun x hx=>by have:=Iu (wt2 x hx);omega
 have d1:=JN ll
 have d2:=JN le
 have Vv:=oJ o t d
 have aej:Fit ll c (o.length+2):=⟨ahD,wl,by omega,by omega,by omega⟩
 show ∃R',cT X 106 [dR op r a b nn tg ll le,sI .i64 c] R R'∧dx o t R' (mU V (bJ (o++[t])) (.mk op r a b nn tg ll le) n d c)
 by_cases o0:op=0
 · subst o0
   obtain⟨R1,r1,a1,_⟩:=Fo (X:=X) g c
   refine⟨R1,Q9 r1,?_⟩
   simp only[mU,if_true]
   exact a1
 by_cases Wa:op=2∨op=3
 · obtain⟨R1,R2,R3,r1,_,r2,r3,a3⟩:=tT hl g (op:=op) (r:=r) c (by omega) hr0 FO hh aej
   refine⟨R3,oI (by omega) (Z9 (by omega) r1 r2 r3),?_⟩
   rw[Vv] at a3
   have e1:mU V (bJ (o++[t])) (.mk op r a b nn tg ll le) n d c=(eX V ((if op=3 then 0 else r.toNat)::bJ (o++[t])) ll 0 false c).and fun n1 d1 c1=>gM r.toNat n1 d1 c (.ok (n+r.toNat) d c1):=by
    simp only[mU]
    rw[if_neg o0,if_pos Wa]
    cases eX V ((if op=3 then 0 else r.toNat)::bJ (o++[t])) ll 0 false c<;>rfl
   rw[e1]
   exact j6 a3
 by_cases o4:op=4
 · subst o4
   obtain⟨R1,r1,a1,h1,x1⟩:=oH (X:=X) g 1 c
   have e1:mU V (bJ (o++[t])) (.mk 4 r a b nn tg ll le) n d c=(dK c 1 n d fun m=> .ok m d c).and fun n0 _ _=>(eX V (r.toNat::bJ (o++[t])) ll 0 false c).and fun n1 d1 c1=>
    gM r.toNat n1 d1 c ((eX V (r.toNat::bJ (o++[t])) le 0 false c1).and fun n2 d2 c2=>gM r.toNat n2 d2 c (.ok (n0+r.toNat) d c2)):=by
    simp only[mU]
    rw[if_neg o0,if_neg Wa,if_true,lJ]
    congr 1
   rw[e1]
   have aek : ∀n0 d0 c0,(dK c 1 n d fun m=> .ok m d c) = .ok n0 d0 c0→d0=d∧c0=c:=fun n0 d0 c0 hp=>by
    obtain⟨m,hm⟩:=fU (c:=0) hp
    cases hm;exact⟨rfl,rfl⟩
   dsimp only at a1
   generalize hvp:(dK c 1 n d fun m=>VR.ok m d c)=vp at a1 aek
   cases vp with
   |bK e q=>
    have hb:R1.e≠0:=by rw[a1.1];exact a1.2.1
    exact⟨R1,oI (by omega) (aaa hb r1 (ahq hb) (Rn hb ll (by have:=kF ll;omega)) (ZZ hb)),a1⟩
   |ok n0 d0 c0=>
    obtain⟨rfl,rfl⟩:=aek _ _ _ rfl
    have Si:=g.nx
    obtain⟨R2,R3,R4,r2,k2,r3,r4,a4⟩:=tT hl a1 (op:=4) (r:=r) c0 (by omega) hr0 FO (by omega) aej
    rw[oJ,oJ,if_neg (by decide)] at a4
    simp only[VR.and]
    show ∃R',_∧dx o t R' ((eX V (r.toNat::bJ (o++[t])) ll 0 false c0).and fun n1 d1 c1=>gM r.toNat n1 d1 c0 ((eX V (r.toNat::bJ (o++[t])) le 0 false c1).and fun n2 d2 c2=>gM r.toNat n2 d2 c0 (.ok (n0+r.toNat) d0 c2)))
    have e2:((eX V (r.toNat::bJ (o++[t])) ll 0 false c0).and fun n1 d1 c1=>gM r.toNat n1 d1 c0 ((eX V (r.toNat::bJ (o++[t])) le 0 false c1).and fun n2 d2 c2=>gM r.toNat n2 d2 c0 (.ok (n0+r.toNat) d0 c2))) =
     ((eX V (r.toNat::bJ (o++[t])) ll 0 false c0).and fun n1 d1 c1=>gM r.toNat n1 d1 c0 (.ok (n0+r.toNat) d0 c1)).and fun _ _ c1=>(eX V (r.toNat::bJ (o++[t])) le 0 false c1).and fun n2 d2 c2=>gM r.toNat n2 d2 c0 (.ok (n0+r.toNat) d0 c2):=by
     rw[Vu]
     cases eX V (r.toNat::bJ (o++[t])) ll 0 false c0 with
     |bK e q=>rfl
     |ok n1 d1 c1=>
      simp only[VR.and]
      rw[Ro (a:=n0+r.toNat) (b:=d0) (x:=c1)]
      unfold gM dK
      split
      · rfl
      · dsimp only
        split<;>rfl
    rw[e2]
    have hc4 : ∀n4 d4 c4,((eX V (r.toNat::bJ (o++[t])) ll 0 false c0).and fun n1 d1 c1=>gM r.toNat n1 d1 c0 (.ok (n0+r.toNat) d0 c1)) = .ok n4 d4 c4→c0≤c4∧c4≤c0+cS ll:=by
     intro n4 d4 c4 h4
     cases hvl:eX V (r.toNat::bJ (o++[t])) ll 0 false c0 with
     |bK e q=>rw[hvl] at h4;cases h4
     |ok n1 d1 c1=>
      rw[hvl] at h4
      have:=vY h4
      cases this
      exact iC V _ _ _ _ _ _ _ _ hvl
    have a4:=j6 a4
    generalize hv4:((eX V (r.toNat::bJ (o++[t])) ll 0 false c0).and fun n1 d1 c1=>gM r.toNat n1 d1 c0 (.ok (n0+r.toNat) d0 c1))=v4 at a4 hc4
    have a4':dx o t R4 v4:=by
     rw[←hv4];rw[←hv4] at a4;exact j6 a4
    cases v4 with
    |bK e q=>
     have hb:R4.e≠0:=by rw[a4'.1];exact a4'.2.1
     exact⟨R4,oI (by omega) (Rc (R5:=R4) (R6:=R4) r1 k2 r3 r4 (fun _=>rfl) (fun h=>absurd h hb) (fun h=>absurd h hb) (fun h=>absurd h hb)),a4'⟩
    |ok n4 d4 c4=>
     obtain⟨aki,akj⟩:=hc4 _ _ _ rfl
     have gS:dS ⟨R1.h,R1.k,R1.cs,R4.e,R4.p,R4.nx⟩ o ⟨t.op,t.base,t.res,d0⟩ n0 c4:=⟨⟨a1.h,a1.k,a1.cs,a1.ok⟩,a4'.e,a4'.nx,a4'.p0,by have:=a1.le;simp only;omega⟩
     obtain⟨R5,R6,R7,r5,_,r6,r7,a7⟩:=tT he gS (op:=5) (r:=r) c0 (by omega) hr0 FO (by simp only;omega) ⟨ahE,we,by omega,by omega,by omega⟩
     rw[oJ,if_neg (by decide)] at a7
     exact⟨R7,oI (by omega) (Rc r1 k2 r3 r4 (fun h=>absurd a4'.e h) (fun _=>r5) (fun _=>r6) (fun _=>r7)),j6 a7⟩
 have e0:mU V (bJ (o++[t])) (.mk op r a b nn tg ll le) n d c=fW V (bJ (o++[t])) op a tg n d c:=by
  simp only[mU]
  rw[if_neg o0,if_neg Wa,if_neg o4]
 rw[e0,←Vv]
 obtain⟨a,rfl⟩:=Int.eq_ofNat_of_zero_le ha.1
 have ha':a<4294967296:=by omega
 have hc9:c≤1000000000:=by omega
 have fin : ∀{R':Rw} {v:VR},cT X 106 [dR op r a b nn tg ll le,sI .i64 c] R R'∧dx o ⟨t.op,t.base,t.res,d⟩ R' v→cT X 106 [dR op r a b nn tg ll le,sI .i64 c] R R'∧dx o t R' v:=fun h=>⟨h.1,j6 h.2⟩
 by_cases o12:op=12
 · subst o12
   obtain⟨R',h⟩:=aal (V:=V) (r:=r) (b:=b) (nn:=nn) (tg:=tg) (ll:=ll) (le:=le) g a ha'
   exact⟨R',fin h⟩
 by_cases o13:op=13
 · subst o13
   obtain⟨R',h⟩:=Rh (V:=V) (r:=r) (b:=b) (nn:=nn) (tg:=tg) (ll:=ll) (le:=le) g hh hc9 a ha'
   exact⟨R',fin h⟩
 by_cases o14:op=14
 · subst o14
   obtain⟨R',h1,h2⟩:=LW (V:=V) (r:=r) (a:=a) (b:=b) (nn:=nn) (tg:=tg) (ll:=ll) (le:=le) g ⟨by omega,by omega⟩ V6 (by omega)
   exact⟨R',fin ⟨LQ h1,h2⟩⟩
 by_cases o15:op=15
 · subst o15
   obtain⟨R',h⟩:=Vl (r:=r) (b:=b) (nn:=nn) (tg:=tg) (ll:=ll) (le:=le) hv g a
   exact⟨R',fin h⟩
 by_cases o16:op=16
 · subst o16
   obtain⟨R',h⟩:=Ri (r:=r) (b:=b) (nn:=nn) (tg:=tg) (ll:=ll) (le:=le) hv g hh hc9 a ha'
   exact⟨R',fin h⟩
 by_cases o17:op=17
 · subst o17
   obtain⟨R',h⟩:=Vm (r:=r) (b:=b) (nn:=nn) (tg:=tg) (ll:=ll) (le:=le) hv g hh hc9 a ha'
   exact⟨R',fin h⟩
 · obtain⟨R',h1,h2⟩:=LS (r:=r) (b:=b) (nn:=nn) (tg:=tg) (ll:=ll) (le:=le) hv g hh hc9 (op:=op) ha'
   refine⟨R',fin ⟨LR (by omega) h1,?_⟩⟩
   have e1:fW V (bJ (o++[⟨t.op,t.base,t.res,d⟩])) op a tg n d c=if dG V op a≠0 then .bK (dG V op a) c else dK c (kR op) n d fun n1=> .ok (n1+jh op) d c:=by
    unfold fW
    rw[if_neg o12,if_neg o13,if_neg o14,if_neg o15,if_neg o16,if_neg o17]
   rw[e1]
   exact h2
theorem Rp (hv:Wc X V) : ∀l:List Ins,CL X V l:=by
 refine Iy fun l hl=> ?_
 intro R o t n c hf g
 refine Vt (V:=V) (by have:=kF l;have:=hf.num;omega) (fun x hx=> ?_) hf.num g
 obtain⟨h1,h2⟩:=hl x hx
 have:=hf.tag
 have:=hf.dep
 have ht:=FB x hx
 have hd:=FC (d:=1) x hx
 exact LY hv x h1 h2 (JM hf.res x hx) (rD hf.wf x hx) (by omega) (by omega)
end
def ahG (X:Lx) (n:Nat) (P Q lo:Int) (l:List Ins) (R1 R2:Rw) (f:FuncId) (_:List AV) (m:Mem):Option (AV×Mem):=cond (ae f 42) (some (.aA [.agg [sI .i64 X.tP,sI .i64 X.tR],sB true],m)) (cond (ae f 90) (some (.aA [],kU X R1)) (cond (ae f 91) (some (.aA [],kU X R2)) none))
def loS (X:Lx) (n:Nat) (P Q lo:Int) (l:List Ins) (R1 R2:Rw):FuncId→Nat→Nat→Option (AV→AV):=cL [(46,7,5,.agg [sI .i64 lo,aL l]),(46,8,8,sI .u64 X.own)]
def aap (X:Lx) (n:Nat) (P Q lo:Int) (l:List Ins) (R1:Rw) (R2:Rw):bD:=fy (ahG X n P Q lo l R1 R2) av [] [(46,0,0),(89,2,3),(89,0,0)] [(46,7,3),(46,7,5)] (loS X n P Q lo l R1 R2)
def ael:Sc:=(.fork .fin (.fork (.lit .fin) .fin))
def tU (X:Lx) (R1:Rw) (R2:Rw):aC:=
 (.call ⟨91,[.mp 0 0,sI .i64 0],[.ac (qo X.M++[sI .i64 X.tP,sI .i64 X.tR,sI .u64 X.own,sI .i64 R1.h,.ms 1 0 R1.k 4 none,sI .i64 R1.e,sI .i64 R1.p,sI .i64 R1.nx]),.ob (aG.gr 185 true) (abG aa (abG aa (abG AV.p R1.cs)))],.aA [],[.ac (qo X.M++[sI .i64 X.tP,sI .i64 X.tR,sI .u64 X.own,sI .i64 R2.h,.ms 2 0 R2.k 4 none,sI .i64 R2.e,sI .i64 R2.p,sI .i64 R2.nx]),.dead,.ob (aG.gr 185 true) (abG AV.p R2.cs)]⟩ (.out (.ret (.aA [sI .i64 R2.e,sI .i64 R2.p]) [])))
def tV (X:Lx) (l:List Ins) (R1:Rw) (R2:Rw):aC:=
 (.call ⟨90,[.mp 0 0,.p (.ps l.length 8 (aq l))],[.ac (qo X.M++[sI .i64 X.tP,sI .i64 X.tR,sI .u64 X.own,sI .i64 0,mq,sI .i64 0,sI .i64 0,sI .i64 0])],.aA [],[.ac (qo X.M++[sI .i64 X.tP,sI .i64 X.tR,sI .u64 X.own,sI .i64 R1.h,.ms 2 0 R1.k 4 none,sI .i64 R1.e,sI .i64 R1.p,sI .i64 R1.nx]),.dead,.ob (aG.gr 185 true) (abG AV.p R1.cs)]⟩ (tU X R1 R2))
def JO (X:Lx) (n:Nat) (P Q lo:Int) (l:List Ins) (R1:Rw) (R2:Rw):aC:=
 (.test (decide ((↑n:Int)≥(↑X.M.vT:Int)))
 (.out (.ret (.aA [sI .i64 6,sI .i64 0]) []))
 (.call ⟨42,[.agg X.M.cells,sI .u32 (abb.wrap (rn.wrap ((↑X.M.uZ:Int)+(↑n:Int))))],[],.aA [.agg [sI .i64 X.tP,sI .i64 X.tR],sB true],[]⟩
 (.must (bp (↑n:Int) X.M.vT&&true&&true)
 (.must (isInt rn (aB X.M.tK (aK n*3+1))&&(bB (aB X.M.tK (aK n*3+1+1))&&true)&&true)
 (.need (AV.agg [sI .i64 (az (aB X.M.tK (aK n*3+1))),AV.p (PV.ps (aD (aB X.M.tK (aK n*3+1+1))) (bh (aB X.M.tK (aK n*3+1+1))) (au (aB X.M.tK (aK n*3+1+1))))]=AV.agg [sI rn lo,aL l])
 (.need (sI .u64 (afo.wrap (afo.wrap X.tP+afo.wrap lo))=sI afo X.own)
 (.test (decide (X.tR<0))
 (tV X l R1 R2)
 (.test (decide (X.tR>1))
 (tV X l R1 R2)
 (.call ⟨90,[.mp 0 0,.p (.ps l.length 8 (aq l))],[.ac (qo X.M++[sI .i64 X.tP,sI .i64 X.tR,sI .u64 X.own,sI .i64 0,.ms 1 0 1 4 none,sI .i64 0,sI .i64 0,sI .i64 0]),.ob (aG.gr 185 true) [sI .i64 0,sI .i64 0,sI .i64 X.tR,sB false]],.aA [],[.ac (qo X.M++[sI .i64 X.tP,sI .i64 X.tR,sI .u64 X.own,sI .i64 R1.h,.ms 2 0 R1.k 4 none,sI .i64 R1.e,sI .i64 R1.p,sI .i64 R1.nx]),.dead,.ob (aG.gr 185 true) (abG AV.p R1.cs)]⟩
 (tU X R1 R2))))))))))
theorem Rq (X:Lx) (n:Nat) (P Q lo:Int) (l:List Ins) (R1:Rw) (R2:Rw):aH ab5 env (aap X n P Q lo l R1 R2) 1000000 46 ([AV.agg X.M.cells,sI rn (↑n:Int)]) ([]) ael=JO X n P Q lo l R1 R2:=by kernel_rfl
theorem LZ {X:Lx} {V:kg} (hv:Wc X V) {n:Nat} {lo:Int} {l:List Ins} (hn:n<X.M.vT) (hf:X.M.vT≤1000000000) (hi:X.M.uZ≤1000000000) (hlo:X.M.tK.getD (n*3+1) .bK = .sc (.int .i64 lo)) (hl:X.M.tK.getD (n*3+2) .bK = .ps l.length 8 (aq l))
  (hp:0≤X.tP∧X.tP≤1000000) (akl:0≤lo∧lo≤1000000) (how:X.own=X.tP+lo) (hty:an ab5 env 42 [.agg X.M.cells,sI .u32 (X.M.uZ+n:Nat)] [] (.aA [.agg [sI .i64 X.tP,sI .i64 X.tR],sB true]) [])
  (hfit:Fit l 0 1):an ab5 env 46 [.agg X.M.cells,sI .i64 n] [] (.aA [sI .i64 (Bp V l).1,sI .i64 ((Bp V l).2:Nat)]) []:=by
 have ahH:=hv.ret
 have aiP:=hv.aef
 have g0:dS ⟨0,1,frC 0 0 X.tR false,0,0,0⟩ [] ⟨0,0,X.tR,false⟩ 0 0:=by
  refine⟨⟨rfl,rfl,⟨[],rfl⟩,?_⟩,rfl,rfl,rfl,by simp⟩
  exact⟨rfl,rfl,by simp only;omega,by simp only;omega,trivial,by simp,by simp,by simp⟩
 obtain⟨R1,r1,a1⟩:=Rp hv l _ [] ⟨0,0,X.tR,false⟩ 0 0 hfit g0
 have Vv:bJ ([]++[(⟨0,0,X.tR,false⟩:Fr)])=[V.ret]:=by simp[bJ,ahH]
 rw[Vv] at a1
 have hres:X.tR.toNat=V.ret:=by omega
 have key : ∃R2,cT X 91 [sI .i64 (0:Nat)] R1 R2∧R2.e=(Bp V l).1∧R2.p=((Bp V l).2:Nat):=by
  unfold Bp
  dsimp only at a1
  cases hvl:eX V [V.ret] l 0 false 0 with
  |bK e p=>
   rw[hvl] at a1
   exact⟨R1,ZZ (by rw[a1.1];exact a1.2.1),a1.1,a1.2.2⟩
  |ok m d c=>
   rw[hvl] at a1
   obtain⟨R2,r2,h2⟩:=LO (X:=X) a1 0
   refine⟨R2,r2,?_⟩
   simp only[hres] at h2
   have hp0:=a1.p0
   cases zx:gM V.ret m d 0 (.ok 0 false 0) with
   |bK e p=>rw[zx] at h2;dsimp only;rw[zx];exact h2
   |ok m' d' c'=>rw[zx] at h2;dsimp only;rw[zx];exact⟨h2.1,by rw[h2.2,hp0];rfl⟩
 obtain⟨R2,r2,e2,p2⟩:=key
 rw[←e2,←p2]
 refine af aM (Rq X n X.tP X.tR lo l R1 R2) ?_
 have w1:rn.wrap ((X.M.uZ:Int)+n)=((X.M.uZ+n:Nat):Int):=by rw[aO (by omega) (by omega)];omega
 have w2:abb.wrap ((X.M.uZ+n:Nat):Int)=((X.M.uZ+n:Nat):Int):=V4 (by omega) (by omega)
 have w3:afo.wrap X.tP=X.tP:=jl (by omega) (by omega)
 have w4:afo.wrap lo=lo:=jl (by omega) (by omega)
 have w5:afo.wrap (X.tP+lo)=X.own:=by rw[jl (by omega) (by omega),how]
 have g1:decide ((n:Int)≥(X.M.vT:Int))=false:=by simp;omega
 have g2:decide (X.tR<0)=false:=by simp;omega
 have g3:decide (X.tR>1)=false:=by simp;omega
 simp only[JO,tU,tV,bN,aC.ok,aF,w1,w2,w3,w4,w5,g1,g2,g3,aep,fg,ab2,hlo,hl,isInt,bB,az,aD,bh,au,ik,bp,oE,afn,false_implies,true_implies,true_and,and_true,aeU,ch,decide_eq_true_eq]
 exact⟨hty,by omega,r1,r2⟩
set_option linter.unusedSectionVars false
def voC (M:Mo) (s e n i a:Int) (f:FuncId) (args:List AV) (m:Mem):Option (AV×Mem):=cond (ae f 35||ae f 40) (some (.agg [sI .i64 e,sI .i64 n,sI .i64 i,sI .i64 a],m)) none
def vlC (f:FuncId) (_:List AV) (m:Mem):Option (AV×Mem):=cond (ae f 42) (some (.aA [.agg [sI .i64 0,sI .i64 0],sB false],m)) none
def aem (M:Mo) (s e n i a:Int):bD:=aQ (voC M s e n i a) av [] [(19,0,0),(19,0,1),(19,0,2),(19,0,3),(19,0,4),(19,0,5),(19,0,6),(19,0,7),(19,0,8)] []
def ahI:Sc:= .fin
def cY (e n i a:Int):aC:=
 (.out (.ret (.agg [sI .i64 e,sI .i64 n,sI .i64 i,sI .i64 a]) []))
def ji (M:Mo) (s e n i a:Int):aC:=
 (.test (s==2)
 (.call ⟨35,[sI .i64 2,sI .i64 (↑M.aZ.length:Int),.fn (adL 36) [] [.mp 0 0,.mp 1 0]],[.ac [.fn (adL 33) [] [.mp 1 0]],.pc M.aJ],.agg [sI .i64 e,sI .i64 n,sI .i64 i,sI .i64 a],[.ac [.fn (adL 33) [] [.mp 1 0]],.pc M.aJ]⟩
 (cY e n i a))
 (.test (s==3)
 (.call ⟨35,[sI .i64 3,sI .i64 (↑M.fns.length:Int),.fn (adL 38) [] [.mp 0 0,.mp 1 0]],[.ac [.fn (adL 33) [] [.mp 1 0]],.pc M.aJ],.agg [sI .i64 e,sI .i64 n,sI .i64 i,sI .i64 a],[.ac [.fn (adL 33) [] [.mp 1 0]],.pc M.aJ]⟩
 (cY e n i a))
 (.test (s==6)
 (.call ⟨35,[sI .i64 6,sI .i64 (↑M.gls.length:Int),.fn (adL 39) [] [.mp 0 0,.mp 1 0]],[.ac [.fn (adL 34) [] []],.pc M.aJ],.agg [sI .i64 e,sI .i64 n,sI .i64 i,sI .i64 a],[.ac [.fn (adL 34) [] []],.pc M.aJ]⟩
 (cY e n i a))
 (.test (s==7)
 (.call ⟨40,[.agg (abG AV.p M.aJ)],[],.agg [sI .i64 e,sI .i64 n,sI .i64 i,sI .i64 a],[]⟩
 (cY e n i a))
 (.test (s==8)
 (.test (M.st)
 (.call ⟨35,[sI .i64 8,sI .i64 1,.fn (adL 41) [] [.mp 0 0]],[.pc M.aJ],.agg [sI .i64 e,sI .i64 n,sI .i64 i,sI .i64 a],[.pc M.aJ]⟩
 (cY e n i a))
 (.out (.ret (.agg [sI .i64 0,sI .i64 0,sI .i64 0,sI .i64 0]) [])))
 (.test (s==9)
 (.call ⟨35,[sI .i64 9,sI .i64 (↑M.els.length:Int),.fn (adL 43) [] [.mp 0 0,.mp 1 0]],[.pc M.aJ,.ac [.fn (adL 34) [] []]],.agg [sI .i64 e,sI .i64 n,sI .i64 i,sI .i64 a],[.pc M.aJ,.ac [.fn (adL 34) [] []]]⟩
 (cY e n i a))
 (.test (s==10)
 (.call ⟨35,[sI .i64 10,sI .i64 (↑M.fns.length:Int),.fn (adL 45) [] [.mp 0 0]],[.pc M.aJ],.agg [sI .i64 e,sI .i64 n,sI .i64 i,sI .i64 a],[.pc M.aJ]⟩
 (cY e n i a))
 (.test (s==11)
 (.call ⟨35,[sI .i64 11,sI .i64 (↑M.bt.length:Int),.fn (adL 47) [] [.mp 0 0,.mp 1 0]],[.pc M.aJ,.ac [.fn (adL 34) [] []]],.agg [sI .i64 e,sI .i64 n,sI .i64 i,sI .i64 a],[.pc M.aJ,.ac [.fn (adL 34) [] []]]⟩
 (cY e n i a))
 (.out (.ret (.agg [sI .i64 0,sI .i64 0,sI .i64 0,sI .i64 0]) []))))))))))
theorem gZ (M:Mo) (s e n i a:Int):aH ab5 env (aem M s e n i a) 1000000 19 ([AV.agg (abG AV.p M.aJ),sI rn s]) ([]) ahI=ji M s e n i a:=by kernel_rfl
def aen:bD:=aQ vlC av [] [(46,0,0)] []
def ahJ:Sc:= .fin
def Rr (M:Mo) (n:Nat):aC:=
 (.test (decide ((↑n:Int)≥(↑M.fns.length:Int)))
 (.out (.ret (.aA [sI .i64 6,sI .i64 0]) []))
 (.call ⟨42,[.agg (abG AV.p M.aJ),sI .u32 (abb.wrap (rn.wrap ((↑M.aZ.length:Int)+(↑n:Int))))],[],.aA [.agg [sI .i64 0,sI .i64 0],sB false],[]⟩
 (.out (.ret (.aA [sI .i64 6,sI .i64 0]) []))))
theorem Vw (M:Mo) (n:Nat):aH ab5 env aen 1000000 46 ([AV.agg (abG AV.p M.aJ),sI rn (↑n:Int)]) ([]) ahJ=Rr M n:=by kernel_rfl
theorem an.ofS {f:FuncId} {args:List AV} {m m':Mem} {v:AV} (h:an ab5 ZA f args m v m'):an ab5 env f args m v m':=h.env fun _ _ q=>q
theorem an.toS {f:FuncId} {args:List AV} {m m':Mem} {v:AV} (h:an ab5 env f args m v m'):an ab5 ZA f args m v m':=h.env fun _ _ q=>q
theorem aaq {M:Mo} {x:Fu} (h:x∈M.fns):x.l∈uQ M:=by simp only[uQ,mi,ed];exact .inl (.inl (.inl ⟨x,h,rfl⟩))
theorem aar {M:Mo} {x:Gl} (h:x∈M.gls):x.l∈uQ M:=by simp only[uQ,mi,ed];exact .inl (.inl (.inr ⟨x,h,rfl⟩))
theorem aas {M:Mo} {x:El} (h:x∈M.els):x.l∈uQ M:=by simp only[uQ,mi,ed];exact .inl (.inr ⟨x,h,rfl⟩)
theorem aat {M:Mo} {x:Da} (h:x∈M.bt):x.l∈uQ M:=by simp only[uQ,mi,ed];exact .inr ⟨x,h,rfl⟩
def mcF (ck:Int):Int:=if ck=141 then 141 else if ck=2 then 2 else 0
theorem Rs {x:Ins} (h:vr x=true):aan x=true:=by
 obtain⟨op,r,a,b,nn,tg,ll,le⟩:=x
 unfold vr vq at h
 simp only[ch,Bool.not_eq_true',decide_eq_false_iff_not] at h
 obtain⟨_,h1,h2,_⟩:=h
 show decide (0≤r∧r≤1)=true
 rw[decide_eq_true_eq]
 omega
mutual
theorem Rt {p q:Ins→Bool} (h : ∀x,p x=true→q x=true) : ∀x:Ins,S5 p x=true→S5 q x=true
 |.mk op r a b n tags l e,hx=>by
  simp only[S5,ch] at hx ⊢
  exact⟨h _ hx.1,rZ h l hx.2.1,rZ h e hx.2.2⟩
theorem rZ {p q:Ins→Bool} (h : ∀x,p x=true→q x=true) : ∀l:List Ins,zY p l=true→zY q l=true
 |[],_=>rfl
 |x::r,hx=>by
  simp only[zY,ch] at hx ⊢
  exact⟨Rt h x hx.1,rZ h r hx.2⟩
end
theorem aau {l:List Ins} (hw:Ky l) (h:mcF (iA vr l)=0):Fit l 0 1:=by
 by_cases h1:zY vr l=false
 · rw[show iA vr l=2 by unfold iA;rw[if_pos h1]] at h
   exact absurd h (by decide)
 by_cases h2:262144<cS l∨16384<mz l∨900<gm 1 l
 · rw[show iA vr l=141 by unfold iA;rw[if_neg h1,if_pos h2]] at h
   exact absurd h (by decide)
 · exact⟨rZ (fun x=>Rs) l (by simpa using h1),hw,by omega,by omega,by omega⟩
theorem qv {M:Mo} (h:M.UG) {y:Ty} (hy:y∈M.tys):0≤y.p∧y.p≤255∧0≤y.r∧y.r≤1:=by
 have m:=h.rest
 simp only[rR,oT] at m
 have k:=ah5.1 m.1.1.1.1.1.1.1 y hy
 unfold GR kcF at k
 by_cases q:0≤y.p∧y.p≤255∧0≤y.r∧y.r≤1
 · exact q
 · rw[if_neg q] at k
   exact absurd rfl k
theorem aav {M:Mo} (h:M.UG) {x:Fu} (hx:x∈M.fns):0≤x.lo∧x.lo≤50000:=by
 have m:=h.rest
 simp only[rR,oT] at m
 have k:=ah5.1 m.1.1.1.1.1.2 x hx
 unfold EA at k
 simp only[ib,decide_eq_true_eq,not_or] at k
 omega
theorem aaw {M:Mo} (h:M.UG) {x:Ex} (hx:x∈M.exs):0≤x.kind∧x.kind≤3:=by
 have m:=h.rest
 simp only[rR,oT] at m
 have k:=ah5.1 m.1.2 x hx
 unfold EB at k
 simp only[ib,decide_eq_true_eq,not_or] at k
 omega
theorem Vx {M:Mo} (h:M.UG) {l:List Ins} (hl:l∈uQ M) (hw:Ky l):Fit l 0 1:=by
 have k1:=ah5.1 h.Zy l hl
 have k2:=ah5.1 h.adF l hl
 refine aau hw ?_
 unfold mcF
 rw[if_neg (by simpa using k1),if_neg (by simpa using k2)]
def lxM (M:Mo):Md:=⟨M.tys.length,M.tys.flatMap bW,M.aZ.length,M.aZ.flatMap bQ,M.fns.length,M.fns.flatMap aV,M.cj.length,M.cj.flatMap aN,M.cM.length,M.cM.flatMap aN,M.gls.length,M.gls.flatMap aY,M.exs.length,M.exs.flatMap aW,M.st,M.sn,M.els.length,M.els.flatMap aX,M.bt.length,M.bt.flatMap bg⟩
def lX (M:Mo) (y:Ty) (lo:Int):Lx:=⟨lxM M,y.p,y.r,y.p+lo⟩
theorem HE {M:Mo} {a:Nat} {y:Ty} (h:E5 M a=some y):y∈M.tys:=by
 unfold E5 at h
 split at h
 · exact List.mem_of_getElem? h
 · cases h
theorem aeo {M:Mo} (hM:M.fit) (hmay:M.UG) {y:Ty} (hy:y∈M.tys) {lo:Int} (h0:0≤lo∧lo≤50000):Wc (lX M y lo) (vM M y lo) where
 ret:=by
  have k:=qv hmay hy
  show y.r=((y.r.toNat:Nat):Int)
  omega
 aef:=by
  have k:=qv hmay hy
  show y.r.toNat≤1
  omega
 own:=by
  have k:=qv hmay hy
  show y.p+lo=(((y.p+lo).toNat:Nat):Int)
  omega
 ahA:=by
  have k:=qv hmay hy
  show(y.p+lo).toNat≤1000000000
  omega
 ty a ha:=by
  have t:=yW M hM a ha
  have hv:(vM M y lo).ty (a:Int)=(E5 M a).map fun z=>(z.p.toNat,z.r.toNat):=by
   show(E5 M (a:Int).toNat).map _=_
   rw[aep]
  rw[hv]
  cases e:E5 M a with
  |none=>
   rw[e] at t
   exact t
  |some z=>
   rw[e] at t
   have k:=qv hmay (HE e)
   have e1:((z.p.toNat:Nat):Int)=z.p:=by omega
   have e2:((z.r.toNat:Nat):Int)=z.r:=by omega
   show z.r.toNat≤1∧_
   refine⟨by omega,?_⟩
   rw[e1,e2]
   exact t
 mZ:=by have:=hM.tys;show M.tys.length≤1000000000;omega
 ind a:=by
  by_cases ha:0<(lX M y lo).M.sy∧a<(lX M y lo).M.mZ
  · rw[if_pos ha]
    have h1:0<M.cj.length:=ha.1
    have h2:a<M.tys.length:=ha.2
    have hx:M.tys[a]? = some M.tys[a]:=bm h2
    have k:=qv hmay (dE h2)
    have c:=bq (z:=2) (enc:=bW) (fun _=>rfl) hx
    have c0:(M.tys.flatMap bW).getD (a*2) .bK = .sc (.int .i64 M.tys[a].p):=c 0 (by decide)
    have c1:(M.tys.flatMap bW).getD (a*2+1) .bK = .sc (.int .i64 M.tys[a].r):=c 1 (by decide)
    refine⟨M.tys[a].p.toNat,M.tys[a].r.toNat,?_,by omega,?_,?_⟩
    · show(if 0<M.cj.length then(M.tys[(a:Int).toNat]?).map fun z=>(z.p.toNat,z.r.toNat) else none)=_
      rw[if_pos h1,aep,hx]
      rfl
    · rw[show((M.tys[a].p.toNat:Nat):Int)=M.tys[a].p by omega]
      exact c0
    · rw[show((M.tys[a].r.toNat:Nat):Int)=M.tys[a].r by omega]
      exact c1
  · rw[if_neg ha]
    show(if 0<M.cj.length then(M.tys[(a:Int).toNat]?).map fun z=>(z.p.toNat,z.r.toNat) else none)=none
    by_cases h1:0<M.cj.length
    · have h2 : ¬a<M.tys.length:=fun q=>ha ⟨h1,q⟩
      rw[if_pos h1,aep,List.getElem?_eq_none (by omega)]
      rfl
    · rw[if_neg h1]
 jB:=by show M.gls.length=(M.gls.map Gl.mu).length;rw[mf]
 glM:=by have:=hM.gls;show(M.gls.map Gl.mu).length≤1000000000;rw[mf];omega
 gl a b h:=by
  have h:(M.gls.map Gl.mu)[a]? = some b:=h
  rw[List.getElem?_map] at h
  cases e:M.gls[a]? with
  |none=>rw[e] at h;cases h
  |some x=>
   rw[e] at h
   cases h
   exact bq (z:=2) (enc:=aY) (fun _=>rfl) e 0 (by decide)
 me:=rfl
theorem Vy (M:Mo) (hM:M.fit) (hw:M.wf) (hmay:M.UG) {n:Nat} (hn:n<M.fns.length):an ab5 env 46 [.agg (M.aJ.map .p),sI .i64 n] [] (.aA [sI .i64 (lookW M n).1,sI .i64 ((lookW M n).2:Nat)]) []:=by
 have h1:=hM.aZ
 have h2:=hM.fns
 have hx:M.fns[n]? = some M.fns[n]:=bm hn
 have hmem:=dE hn
 have c:=bq (z:=3) (enc:=aV) (fun _=>rfl) hx
 have t:=yW M hM (M.aZ.length+n) (by omega)
 unfold lookW
 rw[hx]
 dsimp only
 cases e:E5 M (M.aZ.length+n) with
 |none=>
  rw[e] at t
  have w1:rn.wrap ((M.aZ.length:Int)+n)=((M.aZ.length+n:Nat):Int):=by rw[aO (by omega) (by omega)];omega
  have w2:abb.wrap ((M.aZ.length+n:Nat):Int)=((M.aZ.length+n:Nat):Int):=V4 (by omega) (by omega)
  have g1:decide ((n:Int)≥(M.fns.length:Int))=false:=by simp;omega
  refine af aM (Vw M n) ?_
  simp only[Rr,aC.ok,w1,w2,g1,oE,false_implies,true_implies,true_and]
  first | exact⟨t,rfl⟩ | exact⟨t,trivial⟩
 |some y=>
  rw[e] at t
  have k:=qv hmay (HE e)
  have kf:=aav hmay hmem
  exact LZ (X:=lX M y M.fns[n].lo) (V:=vM M y M.fns[n].lo) (aeo hM hmay (HE e) kf) (n:=n) (lo:=M.fns[n].lo) (l:=M.fns[n].l) hn (by show M.fns.length≤1000000000;omega) (by show M.aZ.length≤1000000000;omega) (c 1 (by decide)) (c 2 (by decide))
   ⟨by show 0≤y.p;omega,by show y.p≤1000000;omega⟩ ⟨by omega,by omega⟩ rfl t (Vx hmay (aaq hmem) (hw.fns.2 _ hmem).2.2.2)
theorem HF (M:Mo) {i:Nat} {x:Ex} (hx:M.exs[i]? = some x):qn M (M.exs.take (i+1)) []=rS (qn M (M.exs.take i) []) (Ab M x.kind) x:=by
 rw[List.take_add_one,hx]
 simp[qn,List.foldl_append]
theorem Df (M:Mo) (hM:M.fit) (hk : ∀x∈M.exs,0≤x.kind∧x.kind≤3):an ab5 env 40 [.agg (M.aJ.map .p)] [] (wV (ct M 7)) []:=by
 obtain⟨L',k⟩:=T1 (M:=M) (g:=88) (N:=M.exs.length) (by have:=hM.exs;omega) 7 (fun i=>(M.exs[i]?).elim 0 fun x=>lF (qn M (M.exs.take i) []) (Ab M x.kind) x) (fun _=>0)
  (fun i=>qn M (M.exs.take i) []) (Hh M) M.cj.length M.cM.length M.gls.length (fun i hi=>by
    have hx:=bm hi
    have hr:=hk _ (dE hi)
    simp only[HF M hx]
    rw[hx]
    show an ab5 env 88 _ _ (.aA [sI .i64 (lF _ (Ab M M.exs[i].kind) M.exs[i]),sI .i64 0]) _
    have h4:M.exs[i].kind=0∨M.exs[i].kind=1∨M.exs[i].kind=2∨M.exs[i].kind=3:=by omega
    rcases h4 with q | q | q | q
    · rw[show Ab M M.exs[i].kind=Hh M by rw[q];rfl]
      exact Qu M _ _ _ _ _ hx q
    · rw[show Ab M M.exs[i].kind=M.cj.length by rw[q];rfl]
      exact Qv M _ _ _ _ _ hx q
    · rw[show Ab M M.exs[i].kind=M.cM.length by rw[q];rfl]
      exact Qw M _ _ _ _ _ hx q
    · rw[show Ab M M.exs[i].kind=M.gls.length by rw[q];rfl]
      exact Qx M _ _ _ _ _ hx q)
 rw[mH] at k
 refine an.ofS (af aM (UH M L' (ct M 7).1 (ct M 7).2.1 (ct M 7).2.2.1 (ct M 7).2.2.2) ?_)
 exact⟨an.toS k,rfl⟩
section
variable (M:Mo) (hM:M.fit) (hw:M.wf) (hs:M.CT) (hmay:M.UG) (hel : ∀x∈M.els,x.fs.length≤1000000000)
include hM hw hs hmay hel
theorem HG:an ab5 env 19 [.agg (M.aJ.map .p),sI .i64 ((2:Nat):Int)] [] (wV (ct M 2)) []:=by
 have k:=Lp M (by have:=hM.aZ;omega)
 rw[mH] at k
 refine af aM (gZ M ((2:Nat):Int) (ct M 2).1 (ct M 2).2.1 (ct M 2).2.2.1 (ct M 2).2.2.2) ?_
 simp only[ji,cY,aC.ok,show(((2:Nat):Int)==2)=true from rfl,oE,afn,false_implies,true_implies,true_and,and_true]
 first | exact⟨k,rfl⟩ | exact⟨k,trivial⟩
theorem HH:an ab5 env 19 [.agg (M.aJ.map .p),sI .i64 ((3:Nat):Int)] [] (wV (ct M 3)) []:=by
 have k:=Lq M (by have:=hM.fns;omega)
 rw[mH] at k
 refine af aM (gZ M ((3:Nat):Int) (ct M 3).1 (ct M 3).2.1 (ct M 3).2.2.1 (ct M 3).2.2.2) ?_
 simp only[ji,cY,aC.ok,show(((3:Nat):Int)==2)=false from rfl,show(((3:Nat):Int)==3)=true from rfl,oE,afn,false_implies,true_implies,true_and,and_true]
 first | exact⟨k,rfl⟩ | exact⟨k,trivial⟩
theorem HI:an ab5 env 19 [.agg (M.aJ.map .p),sI .i64 ((4:Nat):Int)] [] (wV (ct M 4)) []:=by
 refine af aM (gZ M ((4:Nat):Int) (ct M 4).1 (ct M 4).2.1 (ct M 4).2.2.1 (ct M 4).2.2.2) ?_
 simp only[ji,cY,aC.ok,show(((4:Nat):Int)==2)=false from rfl,show(((4:Nat):Int)==3)=false from rfl,show(((4:Nat):Int)==6)=false from rfl,show(((4:Nat):Int)==7)=false from rfl,show(((4:Nat):Int)==8)=false from rfl,show(((4:Nat):Int)==9)=false from rfl,show(((4:Nat):Int)==10)=false from rfl,show(((4:Nat):Int)==11)=false from rfl,oE,afn,false_implies,true_implies,true_and,and_true]
 rfl
theorem HJ:an ab5 env 19 [.agg (M.aJ.map .p),sI .i64 ((5:Nat):Int)] [] (wV (ct M 5)) []:=by
 refine af aM (gZ M ((5:Nat):Int) (ct M 5).1 (ct M 5).2.1 (ct M 5).2.2.1 (ct M 5).2.2.2) ?_
 simp only[ji,cY,aC.ok,show(((5:Nat):Int)==2)=false from rfl,show(((5:Nat):Int)==3)=false from rfl,show(((5:Nat):Int)==6)=false from rfl,show(((5:Nat):Int)==7)=false from rfl,show(((5:Nat):Int)==8)=false from rfl,show(((5:Nat):Int)==9)=false from rfl,show(((5:Nat):Int)==10)=false from rfl,show(((5:Nat):Int)==11)=false from rfl,oE,afn,false_implies,true_implies,true_and,and_true]
 rfl
theorem HK:an ab5 env 19 [.agg (M.aJ.map .p),sI .i64 ((6:Nat):Int)] [] (wV (ct M 6)) []:=by
 have k:=T0 (M:=M) (g:=39) (N:=M.gls.length) (by have:=hM.gls;omega) 6 (fun i=>(M.gls[i]?).elim 0 fun x=>PN x.l) (fun _=>0) fun i hi=>by
  rw[bm hi]
  exact Ue M hi (hs _ (aar (dE hi)))
 rw[mH] at k
 refine af aM (gZ M ((6:Nat):Int) (ct M 6).1 (ct M 6).2.1 (ct M 6).2.2.1 (ct M 6).2.2.2) ?_
 simp only[ji,cY,aC.ok,show(((6:Nat):Int)==2)=false from rfl,show(((6:Nat):Int)==3)=false from rfl,show(((6:Nat):Int)==6)=true from rfl,oE,afn,false_implies,true_implies,true_and,and_true]
 first | exact⟨k,rfl⟩ | exact⟨k,trivial⟩
theorem HL:an ab5 env 19 [.agg (M.aJ.map .p),sI .i64 ((7:Nat):Int)] [] (wV (ct M 7)) []:=by
 have k:=Df M hM (fun x hx=>aaw hmay hx)
 refine af aM (gZ M ((7:Nat):Int) (ct M 7).1 (ct M 7).2.1 (ct M 7).2.2.1 (ct M 7).2.2.2) ?_
 simp only[ji,cY,aC.ok,show(((7:Nat):Int)==2)=false from rfl,show(((7:Nat):Int)==3)=false from rfl,show(((7:Nat):Int)==6)=false from rfl,show(((7:Nat):Int)==7)=true from rfl,oE,afn,false_implies,true_implies,true_and,and_true]
 first | exact⟨k,rfl⟩ | exact⟨k,trivial⟩
theorem HM:an ab5 env 19 [.agg (M.aJ.map .p),sI .i64 ((8:Nat):Int)] [] (wV (ct M 8)) []:=by
 have b:abb.min≤M.sn∧M.sn≤abb.max:=by simpa[Lit.wf] using hw.sn
 have b0:0≤M.sn:=b.1
 have b1:M.sn≤4294967295:=b.2
 by_cases hst:M.st=true
 · have k:=Jb (M:=M) (g:=41) (N:=1) (by omega) 8 (fun _=>Sn M) (fun _=>0) (fun i hi=>UE M hM ⟨b0,by omega⟩ i)
   rw[mH] at k
   have e:ct M 8=mV 8 (fun _=>Sn M) (fun _=>0) 1 0:=by
    show(if M.st=true then mV 8 (fun _=>Sn M) (fun _=>0) 1 0 else(0,0,0,0))=_
    rw[if_pos hst]
   rw[←e] at k
   refine af aM (gZ M ((8:Nat):Int) (ct M 8).1 (ct M 8).2.1 (ct M 8).2.2.1 (ct M 8).2.2.2) ?_
   simp only[ji,cY,aC.ok,hst,show(((8:Nat):Int)==2)=false from rfl,show(((8:Nat):Int)==3)=false from rfl,show(((8:Nat):Int)==6)=false from rfl,show(((8:Nat):Int)==7)=false from rfl,show(((8:Nat):Int)==8)=true from rfl,oE,afn,false_implies,true_implies,true_and,and_true]
   first | exact⟨k,rfl⟩ | exact⟨k,trivial⟩
 · have e:ct M 8=(0,0,0,0):=by
    show(if M.st=true then mV 8 (fun _=>Sn M) (fun _=>0) 1 0 else(0,0,0,0))=_
    rw[if_neg hst]
   have hst:M.st=false:=by simpa using hst
   rw[e]
   refine af aM (gZ M ((8:Nat):Int) 0 0 0 0) ?_
   simp only[ji,cY,aC.ok,hst,show(((8:Nat):Int)==2)=false from rfl,show(((8:Nat):Int)==3)=false from rfl,show(((8:Nat):Int)==6)=false from rfl,show(((8:Nat):Int)==7)=false from rfl,show(((8:Nat):Int)==8)=true from rfl,oE,afn,false_implies,true_implies,true_and,and_true]
   first | rfl | trivial
theorem HN:an ab5 env 19 [.agg (M.aJ.map .p),sI .i64 ((9:Nat):Int)] [] (wV (ct M 9)) []:=by
 have k:=Jc (M:=M) (g:=43) (N:=M.els.length) (by have:=hM.els;omega) 9 (fun i=>(M.els[i]?).elim 0 fun x=>Zw M x) (fun _=>0) fun i hi=>by
  rw[bm hi]
  exact UD M hi (hel _ (dE hi)) (hs _ (aas (dE hi)))
 rw[mH] at k
 refine af aM (gZ M ((9:Nat):Int) (ct M 9).1 (ct M 9).2.1 (ct M 9).2.2.1 (ct M 9).2.2.2) ?_
 simp only[ji,cY,aC.ok,show(((9:Nat):Int)==2)=false from rfl,show(((9:Nat):Int)==3)=false from rfl,show(((9:Nat):Int)==6)=false from rfl,show(((9:Nat):Int)==7)=false from rfl,show(((9:Nat):Int)==8)=false from rfl,show(((9:Nat):Int)==9)=true from rfl,oE,afn,false_implies,true_implies,true_and,and_true]
 first | exact⟨k,rfl⟩ | exact⟨k,trivial⟩
theorem FD:an ab5 env 19 [.agg (M.aJ.map .p),sI .i64 ((10:Nat):Int)] [] (wV (ct M 10)) []:=by
 have k:=Jb (M:=M) (g:=45) (N:=M.fns.length) (by have:=hM.fns;omega) 10 (fun i=>(lookW M i).1) (fun i=>((lookW M i).2:Nat)) fun i hi=>af aM (Uc M i 0 0 (lookW M i).1 ((lookW M i).2:Nat) false) ⟨Vy M hM hw hmay hi,rfl⟩
 rw[mH] at k
 refine af aM (gZ M ((10:Nat):Int) (ct M 10).1 (ct M 10).2.1 (ct M 10).2.2.1 (ct M 10).2.2.2) ?_
 simp only[ji,cY,aC.ok,show(((10:Nat):Int)==2)=false from rfl,show(((10:Nat):Int)==3)=false from rfl,show(((10:Nat):Int)==6)=false from rfl,show(((10:Nat):Int)==7)=false from rfl,show(((10:Nat):Int)==8)=false from rfl,show(((10:Nat):Int)==9)=false from rfl,show(((10:Nat):Int)==10)=true from rfl,oE,afn,false_implies,true_implies,true_and,and_true]
 first | exact⟨k,rfl⟩ | exact⟨k,trivial⟩
theorem FE:an ab5 env 19 [.agg (M.aJ.map .p),sI .i64 ((11:Nat):Int)] [] (wV (ct M 11)) []:=by
 have k:=Jc (M:=M) (g:=47) (N:=M.bt.length) (by have:=hM.bt;omega) 11 (fun i=>(M.bt[i]?).elim 0 fun x=>if M.cM.length=0 then 6 else PN x.l) (fun _=>0) fun i hi=>by
  rw[bm hi]
  exact Uf M hi (hs _ (aat (dE hi)))
 rw[mH] at k
 refine af aM (gZ M ((11:Nat):Int) (ct M 11).1 (ct M 11).2.1 (ct M 11).2.2.1 (ct M 11).2.2.2) ?_
 simp only[ji,cY,aC.ok,show(((11:Nat):Int)==2)=false from rfl,show(((11:Nat):Int)==3)=false from rfl,show(((11:Nat):Int)==6)=false from rfl,show(((11:Nat):Int)==7)=false from rfl,show(((11:Nat):Int)==8)=false from rfl,show(((11:Nat):Int)==9)=false from rfl,show(((11:Nat):Int)==10)=false from rfl,show(((11:Nat):Int)==11)=true from rfl,oE,afn,false_implies,true_implies,true_and,and_true]
 first | exact⟨k,rfl⟩ | exact⟨k,trivial⟩
end
theorem FF (M:Mo) (hM:M.fit) (hw:M.wf) (hs:M.CT) (hel : ∀x∈M.els,x.fs.length≤1000000000):an ab5 env 7 [.agg (M.aJ.map .p)] [] (wV (kI M (ct M))) []:=
 Ly M (E2 M hM hw hs) (ct M) fun z d h1 h2=>by
  have hmay:=(CY M).1 z
  have hd:d=2∨d=3∨d=4∨d=5∨d=6∨d=7∨d=8∨d=9∨d=10∨d=11:=by omega
  rcases hd with rfl | rfl | rfl | rfl | rfl | rfl | rfl | rfl | rfl | rfl
  · exact HG M hM hw hs hmay hel
  · exact HH M hM hw hs hmay hel
  · exact HI M hM hw hs hmay hel
  · exact HJ M hM hw hs hmay hel
  · exact HK M hM hw hs hmay hel
  · exact HL M hM hw hs hmay hel
  · exact HM M hM hw hs hmay hel
  · exact HN M hM hw hs hmay hel
  · exact FD M hM hw hs hmay hel
  · exact FE M hM hw hs hmay hel
theorem toN {f:FuncId} {args:List AV} {m:Mem} {v:AV} {m':Mem} (h:an ab5 env f args m v m'):an ab5 bn f args m v m':=h
theorem FG (l:List Ins) (h:cS l≤100000000000) : ∃u,an ab5 bn 22 [aL l] [] (.aA [sI .u32 u,sI .i64 (mT l)]) []:=by
 obtain⟨u,hu⟩:=yO l h
 exact⟨u,toN hu⟩
def aE (M:Mo):Mo:={M with aZ:=[],els:=[],bt:=[]}
def glI (M:Mo) (mp:AV) (gl:AV):List AV:=(aE M).aJ.map .p++[mp,.os none 0 0 [],gl,.os none 0 0 [],sB true]
def nlC (M:Mo) (k:Nat) (cs:List PV) (u mn mx:Int) (i:Int) (f:FuncId) (a:List AV) (m:Mem):Option (AV×Mem):=cond (ae f 22) (some (.aA [sI .u32 u,sI .i64 0],m)) (cond (ae f 23) (some (.aA [.mp 0 0,sI .i64 0],Ml mn mx 0)) none)
def aax (M:Mo) (k:Nat) (cs:List PV) (u:Int) (mn:Int) (mx:Int) (i:Int):bD:=aQ (nlC M k cs u mn mx i) av [(8,4),(8,8)] [(8,0,5),(8,0,6),(8,0,7)] [(8,15,0),(8,15,1),(8,17,7),(8,20,3),(8,20,4),(8,22,3),(8,22,5),(8,22,6)]
def aer:Sc:= .fin
def Dg (M:Mo) (k:Nat) (cs:List PV) (u:Int) (mn:Int) (mx:Int) (i:Int):aC:=
 (.test (decide (i<(↑M.gls.length:Int)))
  (.must (bp i M.gls.length&&true&&true)
   (.must (isBool (aB (aeR aY M.gls) (i.toNat*2))&&(bB (aB (aeR aY M.gls) (i.toNat*2+1))&&true)&&true)
    (.call ⟨22,[AV.p (PV.ps (aD (aB (aeR aY M.gls) (i.toNat*2+1))) (bh (aB (aeR aY M.gls) (i.toNat*2+1))) (au (aB (aeR aY M.gls) (i.toNat*2+1))))],[],AV.aA [AV.p (PV.sc (sd abb u)),AV.p (PV.sc (sd rn 0))],[]⟩
     (.must (((k+1)*4).ble ef&&(k+1).ble ef&&true)
      (.at (ak ab5 bn 8 4 [AV.mp 0 0,AV.mp 1 0,AV.p (PV.ps M.gls.length 2 (aeR aY M.gls)),AV.p (PV.sc (sd rn (↑M.gls.length:Int))),AV.p (PV.sc (sd rn (rn.wrap (i+1))))] ([aU.pc [PV.ps (aE M).tys.length 2 (aeR bW (aE M).tys),PV.ps 0 3 [],PV.ps (aE M).fns.length 3 (aeR aV (aE M).fns),PV.ps (aE M).cj.length 3 (aeR aN (aE M).cj),PV.ps (aE M).cM.length 3 (aeR aN (aE M).cM),PV.ps (aE M).gls.length 2 (aeR aY (aE M).gls),PV.ps (aE M).exs.length 3 (aeR aW (aE M).exs),PV.sc (ae6 (aE M).st),PV.sc (sd abb (aE M).sn),PV.ps 0 2 [],PV.ps 0 2 []],aU.ac [AV.p (PV.ps (aE M).tys.length 2 (aeR bW (aE M).tys)),AV.p (PV.ps 0 3 []),AV.p (PV.ps (aE M).fns.length 3 (aeR aV (aE M).fns)),AV.p (PV.ps (aE M).cj.length 3 (aeR aN (aE M).cj)),AV.p (PV.ps (aE M).cM.length 3 (aeR aN (aE M).cM)),AV.p (PV.ps (aE M).gls.length 2 (aeR aY (aE M).gls)),AV.p (PV.ps (aE M).exs.length 3 (aeR aW (aE M).exs)),AV.p (PV.sc (ae6 (aE M).st)),AV.p (PV.sc (sd abb (aE M).sn)),AV.p (PV.ps 0 2 []),AV.p (PV.ps 0 2 []),AV.p (PV.sc (ah6 acb)),mq,AV.os (acx 2) (k+1) 1 (cs++[PV.sc (sd abb u)]),mq,AV.p (PV.sc (ae6 true))],aU.tok]) 0 119))))))
  (.test (decide ((↑(aE M).cM.length:Int)>0))
   (.must (bp 0 (aE M).cM.length&&true&&true)
    (.must (isInt abb (aB (aeR aN (aE M).cM) 0)&&(isInt abb (aB (aeR aN (aE M).cM) 1)&&(isBool (aB (aeR aN (aE M).cM) 2)&&true))&&true)
     (.call ⟨23,[AV.agg [AV.p (PV.sc (sd abb (az (aB (aeR aN (aE M).cM) 0)))),AV.p (PV.sc (sd abb (az (aB (aeR aN (aE M).cM) 1)))),AV.p (PV.sc (ae6 (bu (aB (aeR aN (aE M).cM) 2))))]],[],AV.aA [AV.mp 0 0,AV.p (PV.sc (sd rn 0))],[aU.ac [AV.vm 1,AV.p (PV.sc (sd abb mn)),AV.p (PV.sc (sd abb mx))],aU.ob (aG.map [] [] 0) []]⟩
      (.test (decide ((↑(aE M).cj.length:Int)>0))
       (.must (bp 0 (aE M).cj.length&&true&&true)
        (.must (isInt abb (aB (aeR aN (aE M).cj) 0)&&true)
         (.must (decide (0≤az (aB (aeR aN (aE M).cj) 0))&&decide (az (aB (aeR aN (aE M).cj) 0)≤az (aB (aeR aN (aE M).cj) 0))&&(az (aB (aeR aN (aE M).cj) 0)).toNat.ble ef&&(8*(az (aB (aeR aN (aE M).cj) 0)).toNat).ble ef&&true)
          (.out (Out.ret (AV.aA [AV.mp 0 0,AV.p (PV.sc (sd rn 0))]) [aU.ac [AV.p (PV.ps (aE M).tys.length 2 (aeR bW (aE M).tys)),AV.p (PV.ps 0 3 []),AV.p (PV.ps (aE M).fns.length 3 (aeR aV (aE M).fns)),AV.p (PV.ps (aE M).cj.length 3 (aeR aN (aE M).cj)),AV.p (PV.ps (aE M).cM.length 3 (aeR aN (aE M).cM)),AV.p (PV.ps (aE M).gls.length 2 (aeR aY (aE M).gls)),AV.p (PV.ps (aE M).exs.length 3 (aeR aW (aE M).exs)),AV.p (PV.sc (ae6 (aE M).st)),AV.p (PV.sc (sd abb (aE M).sn)),AV.p (PV.ps 0 2 []),AV.p (PV.ps 0 2 []),AV.mp 1 0,AV.ms 2 0 (az (aB (aeR aN (aE M).cj) 0)).toNat 1 (acx (az (aB (aeR aN (aE M).cj) 0)).toNat),AV.os (acx 3) k 1 cs,mq,AV.p (PV.sc (ae6 true))],aU.ac [AV.vm 4,AV.p (PV.sc (sd abb mn)),AV.p (PV.sc (sd abb mx))],aU.pc (bx (az (aB (aeR aN (aE M).cj) 0)).toNat (mO (eH (ah6 acb)))),aU.tok,aU.ob (aG.map [] [] 0) []])))))
       (.out (Out.ret (AV.aA [AV.mp 0 0,AV.p (PV.sc (sd rn 0))]) [aU.ac [AV.p (PV.ps (aE M).tys.length 2 (aeR bW (aE M).tys)),AV.p (PV.ps 0 3 []),AV.p (PV.ps (aE M).fns.length 3 (aeR aV (aE M).fns)),AV.p (PV.ps (aE M).cj.length 3 (aeR aN (aE M).cj)),AV.p (PV.ps (aE M).cM.length 3 (aeR aN (aE M).cM)),AV.p (PV.ps (aE M).gls.length 2 (aeR aY (aE M).gls)),AV.p (PV.ps (aE M).exs.length 3 (aeR aW (aE M).exs)),AV.p (PV.sc (ae6 (aE M).st)),AV.p (PV.sc (sd abb (aE M).sn)),AV.p (PV.ps 0 2 []),AV.p (PV.ps 0 2 []),AV.mp 1 0,mq,AV.os (acx 2) k 1 cs,mq,AV.p (PV.sc (ae6 true))],aU.ac [AV.vm 3,AV.p (PV.sc (sd abb mn)),AV.p (PV.sc (sd abb mx))],aU.tok,aU.ob (aG.map [] [] 0) []]))))))
   (.test (decide ((↑(aE M).cj.length:Int)>0))
    (.must (bp 0 (aE M).cj.length&&true&&true)
     (.must (isInt abb (aB (aeR aN (aE M).cj) 0)&&true)
      (.must (decide (0≤az (aB (aeR aN (aE M).cj) 0))&&decide (az (aB (aeR aN (aE M).cj) 0)≤az (aB (aeR aN (aE M).cj) 0))&&(az (aB (aeR aN (aE M).cj) 0)).toNat.ble ef&&(8*(az (aB (aeR aN (aE M).cj) 0)).toNat).ble ef&&true)
       (.out (Out.ret (AV.aA [AV.mp 0 0,AV.p (PV.sc (sd rn 0))]) [aU.ac [AV.p (PV.ps (aE M).tys.length 2 (aeR bW (aE M).tys)),AV.p (PV.ps 0 3 []),AV.p (PV.ps (aE M).fns.length 3 (aeR aV (aE M).fns)),AV.p (PV.ps (aE M).cj.length 3 (aeR aN (aE M).cj)),AV.p (PV.ps (aE M).cM.length 3 (aeR aN (aE M).cM)),AV.p (PV.ps (aE M).gls.length 2 (aeR aY (aE M).gls)),AV.p (PV.ps (aE M).exs.length 3 (aeR aW (aE M).exs)),AV.p (PV.sc (ae6 (aE M).st)),AV.p (PV.sc (sd abb (aE M).sn)),AV.p (PV.ps 0 2 []),AV.p (PV.ps 0 2 []),AV.p (PV.sc (ah6 acb)),AV.ms 1 0 (az (aB (aeR aN (aE M).cj) 0)).toNat 1 (acx (az (aB (aeR aN (aE M).cj) 0)).toNat),AV.os (acx 2) k 1 cs,mq,AV.p (PV.sc (ae6 true))],aU.pc (bx (az (aB (aeR aN (aE M).cj) 0)).toNat (mO (eH (ah6 acb)))),aU.tok])))))
    (.out (Out.ret (AV.aA [AV.mp 0 0,AV.p (PV.sc (sd rn 0))]) [aU.ac [AV.p (PV.ps (aE M).tys.length 2 (aeR bW (aE M).tys)),AV.p (PV.ps 0 3 []),AV.p (PV.ps (aE M).fns.length 3 (aeR aV (aE M).fns)),AV.p (PV.ps (aE M).cj.length 3 (aeR aN (aE M).cj)),AV.p (PV.ps (aE M).cM.length 3 (aeR aN (aE M).cM)),AV.p (PV.ps (aE M).gls.length 2 (aeR aY (aE M).gls)),AV.p (PV.ps (aE M).exs.length 3 (aeR aW (aE M).exs)),AV.p (PV.sc (ae6 (aE M).st)),AV.p (PV.sc (sd abb (aE M).sn)),AV.p (PV.ps 0 2 []),AV.p (PV.ps 0 2 []),AV.p (PV.sc (ah6 acb)),mq,AV.os (acx 1) k 1 cs,mq,AV.p (PV.sc (ae6 true))],aU.tok])))))
theorem FH (M:Mo) (k:Nat) (cs:List PV) (u:Int) (mn:Int) (mx:Int) (i:Int):grow ab5 bn (aax M k cs u mn mx i) 1000000 true (ak ab5 bn 8 4 ([AV.mp 0 0,AV.mp 1 0,AV.p (PV.ps M.gls.length 2 (aeR aY M.gls)),sI rn (↑M.gls.length:Int),sI rn i]) ([aU.pc (aE M).aJ,aU.ac (glI M (AV.p kQ) (AV.os (acx 2) k 1 cs)),aU.tok]) 0 119) aer atEnd=Dg M k cs u mn mx i:=by kernel_rfl
def nlH (M:Mo) (i:Nat) (cs:List PV):cm:=ak ab5 bn 8 4 [.mp 0 0,.mp 1 0,.p (.ps M.gls.length 2 (M.gls.flatMap aY)),sI .i64 M.gls.length,sI .i64 i] [.pc (aE M).aJ,.ac (glI M (.p kQ) (.os (some 2) i 1 cs)),.tok] 0 119
theorem Vz (M:Mo) (hM:M.fit) (hk : ∀x∈M.gls,∃u,an ab5 bn 22 [aL x.l] [] (.aA [sI .u32 u,sI .i64 0]) []) : ∀(r i:Nat) (cs:List PV),i+r=M.gls.length → ∃cs':List PV,∀o,bR ab5 bn (nlH M M.gls.length cs') o→bR ab5 bn (nlH M i cs) o:=by
 intro r
 induction r with
 |zero=>
  intro i cs hi
  obtain rfl:i=M.gls.length:=by omega
  exact⟨cs,fun _ h=>h⟩
 |succ r ih=>
  intro i cs hi
  have hL:ef=70368744177664:=rfl
  have hl:=hM.gls
  have ud:i<M.gls.length:=by omega
  have vo:M.gls[i]? = some M.gls[i]:=bm ud
  obtain⟨u,hu⟩:=hk _ (dE ud)
  have c:=bq (z:=2) (enc:=aY) (fun _=>rfl) vo
  have c0:=c 0 (by decide)
  have c1:=c 1 (by decide)
  generalize M.gls[i]=y at *
  simp only[aY,List.getD_cons_zero,List.getD_cons_succ,Nat.add_zero] at c0 c1
  have hw:rn.wrap ((i:Int)+1)=((i+1:Nat):Int):=by rw[aO (by omega) (by omega)];rfl
  have mC:(i:Int)<(M.gls.length:Int):=by omega
  obtain⟨cs',h'⟩:=ih (i+1) (cs++[.sc (.int .u32 u)]) (by omega)
  refine⟨cs',fun o h=>ah aM (FH M i cs u 0 0 i) ?_⟩
  have hG:=h' o h
  simp only[Dg,bN,aC.ok,c0,c1,bB,isBool,bu,aD,bh,au,aep,bp,hw]
  exact⟨fun _=>⟨by simp[mC],by simp,hu,by simp;omega,hG⟩,fun q=>absurd mC (by simpa using q)⟩
end Go.Proofs.YtjfgfhaoeicpdaaGreatDoor.N
end
