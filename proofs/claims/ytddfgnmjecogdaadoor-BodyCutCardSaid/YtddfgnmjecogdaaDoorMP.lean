import Derived.Test.YtddfgnmjecogdaaDoorMO
open Go.Proofs.Tryd renaming prog→ae
open Go.IntKind renaming i64→tl
open Nat renaming le_refl→ch,zero_le→S3,reduceAdd→Tw,add_assoc→gv,mul_assoc→T3,pow_succ→T4,mul_comm→T5,pow_zero→T6,zero_add→rh,add_mul→re,mul_one→T7
open Bool renaming false_ne_true→T8,false_eq_true→pC,and_eq_true→di
open List renaming length_append→dC,length_cons→od,length_nil→Tr,getD_eq_getElem?_getD→dd,length_eq_zero_iff→pk,length_take→eQ,nil_append→SX,append_assoc→pr,length_singleton→T9,cons_append→S8
open Int renaming reducePow→Ua,pow_zero→Ub
noncomputable section
section
set_option linter.unusedSimpArgs false
set_option linter.unusedVariables false
namespace Go.Am
section
variable {P:Program} {E:Env}
theorem Cu {c:bA} {i:Nat} {t:TypeId} {q:Bool} {l:List AV} (hc:iJ c=true) (hb:c.st.mem[i]? = some (.ob (.gr t q) l)) :
  iL P E c {c with st:={c.st with mem:=c.st.mem.set i (.ob (.stk t []) l)}}:=by
 intro g fr w hr cs
 obtain⟨f,todo,st⟩:=c
 obtain⟨tm,nt,mem,fix,bS,bI⟩:=st
 dsimp only at hb ⊢
 match todo,hc with
 |.code j x::kk,_=>
  obtain⟨b,a,q1,q2,q3,q4,q5,q6⟩:=hr
  have gE:Rel g mem w:=q5.rel
  obtain⟨r1,r2⟩:=gE.BM (pre:=[]) (l:=l) hb
  refine⟨g,fr,w,Steps.refl _ _,⟨b,a,q1,q2,q3,q4,⟨q5.tm,q5.nt,r1,?_,q5.cC⟩,q6⟩,r2,bf.refl _ _,rfl,rfl,rfl⟩
  have:=q5.fix
  dsimp only at this ⊢
  simp only[List.length_set]
  omega
theorem ak.NH {c:bA} {R R':Hid} {v v':AV} {m:Mem} (h:ak P E c R R' (.ret v m)) (hv : ∀g w x,VA g w v x→VA g w v' x):ak P E c R R' (.ret v' m):=by
 intro g fr w H cs hc hR hA
 obtain⟨g2,kG,w2,cv,w3,H',r1,r2,r3,r4,r5⟩:=h g fr w H cs hc hR hA
 exact⟨g2,kG,w2,cv,w3,H',r1,r2,r3,hv _ _ _ r4,r5⟩
end
end Go.Am
namespace Go.Proofs.YtddfgnmjecogdaaDoor.N
open Go Go.Am
def Bo:Env:=bz []
def RY (k:Nat) (B:List PV) (a:Int) (n:Nat) (X:List PV) (p3 e3 cH:Int) (f:FuncId) (args:List AV) (m:Mem):Option (AV×Mem):=
 cond (Nat.beq f 27) (some (.p (.ps n 8 X),[.pc [.ps k 1 B,.sc (.int .i64 p3),.sc (.int .i64 e3),.sc (.int .i64 cH)]])) none
def NI:hJ:=gk eK cK [(27,0)] [] []
def PJ:Sc:= .fin
def GO (k:Nat) (B:List PV) (p:Int):aP:=
 (.at (aj ae Bo 27 0 [.mp 0 0,.ms 1 0 1 10 none,sI .i64 0] ([.pc [.ps k 1 B,sP p,sP 0,sP 0],.ob (fF.gr 74 true) [sI .i64 0,sI .i64 0,sI .u32 0,sI .u32 0,sI .i32 0,.p (.ps 0 0 []),.p (.ps 0 0 []),.p (.ps 0 0 []),.p (.ps 0 0 []),sB false]]) 1 202))
theorem IT (k:Nat) (B:List PV) (p:Int):dJ ae Bo NI 1000000 27 ([AV.mp 0 0]) ([aF.pc [PV.ps k 1 B,PV.sc (Value.int tl p),PV.sc (Value.int tl 0),PV.sc (Value.int tl 0)]]) PJ=GO k B p:=by kernel_rfl
def NJ (k:Nat) (B:List PV) (a:Int) (n:Nat) (X:List PV) (p3 e3 cH:Int):hJ:=gk (RY k B a n X p3 e3 cH) cK [] [(25,3,3),(25,0,0),(9,0,1)] []
def PK:Sc:=(.fork (.lit .fin) .fin)
def GP (k:Nat) (B:List PV) (a:Int) (n:Nat) (X:List PV) (p3 e3 cH:Int):aP:=
 (.test (decide (a<0))
 (.out (.ret (.bn [ct,sI .i64 0,.agg [sI .i64 5,sI .i64 0]]) []))
 (.test (decide (a>(↑k:Int)))
 (.out (.ret (.bn [ct,sI .i64 0,.agg [sI .i64 5,sI .i64 0]]) []))
 (.call ⟨27,[.mp 0 0],[.pc [.ps k 1 B,sP a,sP 0,sP 0]],.p (.ps n 8 X),[.pc [.ps k 1 B,sP p3,sP e3,sP cH]]⟩
 (.test (e3 != 0)
 (.out (.ret (.bn [ct,sI .i64 0,.agg [sI .i64 e3,sI .i64 cH]]) []))
 (.out (.ret (.bn [.p (.ps n 8 X),sI .i64 p3,.agg [sI .i64 e3,sI .i64 cH]]) []))))))
theorem IU (k:Nat) (B:List PV) (a:Int) (n:Nat) (X:List PV) (p3 e3 cH:Int):dJ ae Bo (NJ k B a n X p3 e3 cH) 1000000 9 ([AV.p (PV.ps k 1 B),sI tl a]) ([]) PK=GP k B a n X p3 e3 cH:=by kernel_rfl
def JB (b:List Nat) (p:Nat):Option (List Ins)×RS:=cU b (b.length+1) [] ⟨0,0,[],[],false⟩ p 0
def IV (b:List Nat) (p:Nat):List Ins:=(JB b p).1.getD []
def Cv (b:List Nat) (p:Nat):RS:=(JB b p).2
theorem Ei {b:List Nat} {p:Nat} (hb:dX b ⟨p,0,0⟩):ak ae (bz []) (hC b p 0 0 [] ⟨0,0,[],[],false⟩) (dY [] []) hT (.ret (.p (.ps (IV b p).length 8 (aa (IV b p)))) [(Cv b p).aN b]):=by
 have h:=IS hb.iV hb.len (b.length+1) [] ⟨0,0,[],[],false⟩ p 0 [] (by omega) hb.p rfl (S3 _) (S3 _) fun _ q=>by cases q
 have h:ak ae (bz []) (hC b p 0 0 [] ⟨0,0,[],[],false⟩) (dY [] []) hT (Nz b (JB b p)):=h
 unfold IV Cv
 generalize JB b p=x at h
 obtain⟨o,s⟩:=x
 cases o with
 |none=>exact ak.NH h fun g w x hx=>x9 g w x hx
 |some l=>exact h
theorem Ej {b:List Nat} {p:Nat} (hb:dX b ⟨p,0,0⟩):aO ae env 27 [.mp 0 0] [RS.aN b ⟨p,0,0⟩] (.p (.ps (IV b p).length 8 (aa (IV b p)))) [(Cv b p).aN b]:=by
 have h:aO ae Bo 27 [.mp 0 0] [RS.aN b ⟨p,0,0⟩] (.p (.ps (IV b p).length 8 (aa (IV b p)))) [(Cv b p).aN b]:=by
  refine az dy (IT b.length (bt b) p) ?_
  unfold GO
  refine ak.good (R:=dY [] []) (R':=hT) ?_ GB
  refine ak.aq (aC _ _) (Cu (i:=1) (t:=74) (q:=true) (l:=[sI .i64 0,sI .i64 0,sI .u32 0,sI .u32 0,sI .i32 0,.p (.ps 0 0 []),.p (.ps 0 0 []),.p (.ps 0 0 []),.p (.ps 0 0 []),sB false]) (by kernel_rfl) (by kernel_rfl)) ?_
  refine ak.aq (aC _ _) (ep (i:=1) (k:= .stk 74 []) (l:=[sI .i64 0,sI .i64 0,sI .u32 0,sI .u32 0,sI .i32 0,.p (.ps 0 0 []),.p (.ps 0 0 []),.p (.ps 0 0 []),.p (.ps 0 0 []),sB false]) (l':=gq 0 0 [] (.os none 0 0 []) false) (by kernel_rfl) (by kernel_rfl)
   fun g w vs h=>iF (l:=[sI .i64 0,sI .i64 0,sI .u32 0,sI .u32 0,sI .i32 0,.p (.ps 0 0 []),.p (.ps 0 0 []),.p (.ps 0 0 []),.p (.ps 0 0 []),sB false]) (l':=gq 0 0 [] (.os none 0 0 []) false) ⟨bu _,bu _,bu _,bu _,bu _,jA 1,jA 8,jA 8,x8,bu _,trivial⟩ h) ?_
  exact ak.same (by kernel_rfl) (Ei hb)
 exact h
theorem Ek {b:List Nat} {p:Nat} (hb:dX b ⟨p,0,0⟩) (h:(Cv b p).e≠0):aO ae env 9 [.p (.ps b.length 1 (bt b)),sI .i64 p] [] (.bn [.os none 0 0 [],sI .i64 0,.agg [sI .i64 (Cv b p).e,sI .i64 (Cv b p).fa]]) []:=by
 have k:aO ae Bo 9 [.p (.ps b.length 1 (bt b)),sI .i64 p] [] (.bn [.os none 0 0 [],sI .i64 0,.agg [sI .i64 (Cv b p).e,sI .i64 (Cv b p).fa]]) []:=by
  refine az dy (IU b.length (bt b) p (IV b p).length (aa (IV b p)) (Cv b p).p (Cv b p).e (Cv b p).fa) ?_
  have h0:decide ((p:Int)<0)=false:=decide_eq_false (by omega)
  have h1:decide ((p:Int)>(b.length:Int))=false:=decide_eq_false (by have:p≤b.length:=hb.p;omega)
  have h2:(((Cv b p).e:Int) != 0)=true:=by rw[wU];exact decide_eq_true h
  simp only[GP,cJ,aP.ok,h0,h1,h2]
  exact⟨fun q=>(by cases q),fun _=>⟨fun q=>(by cases q),fun _=>⟨Ej hb,fun _=>(by first | rfl | trivial),fun q=>(by cases q)⟩⟩⟩
 exact k
end Go.Proofs.YtddfgnmjecogdaaDoor.N
end
section
set_option linter.unusedSimpArgs false
set_option linter.unusedVariables false
namespace Go.Proofs.YtddfgnmjecogdaaDoor.N
open Go Go.Am
theorem yc {op r a b nn:Int} {tg:List Int} {ll le:List Ins} (h:nN (.mk op r a b nn tg ll le)=true) :
  (nm op).data.toList≠[]∧(r=0∨r=1)∧(dW op=false→r=0∧ll=[])∧(op≠4→le=[])∧(dO op=false→gI op=false→op≠14→a=0)∧(dO op=false→b=0)∧(op≠65→nn=0)∧(op≠14→tg=[]):=by
 simp only[nN,td,di,Bool.not_eq_true',Bool.or_eq_true,decide_eq_false_iff_not,decide_eq_true_eq,beq_iff_eq,Bool.or_eq_false_iff,beq_eq_false_iff_ne,bne_eq_false_iff_eq] at h
 obtain⟨h0,h1,h2,h3,h4,h5,h6,h7,h8⟩:=h
 have nil : ∀{α:Type} (l:List α),¬(l.length:Int)>0→l=[]:=fun l hl=>pk.1 (by omega)
 refine⟨fun e=>h0 (by rw[e]),by omega,fun dj=> ?_,fun h4'=> ?_,fun a1 a2 a3=> ?_,fun a1=> ?_,fun a1=> ?_,fun a1=> ?_⟩
 · rcases h3 with h3 | h3
   · rw[h3] at dj;cases dj
   · exact⟨h3.1,nil _ h3.2⟩
 · rcases h4 with h4 | h4
   · exact absurd h4 h4'
   · exact nil _ h4
 · rcases h5 with((h5 | h5) | h5) | h5
   · rw[h5] at a1;cases a1
   · rw[h5] at a2;cases a2
   · exact absurd h5 a3
   · exact h5
 · rcases h6 with h6 | h6
   · rw[h6] at a1;cases a1
   · exact h6
 · rcases h7 with h7 | h7
   · exact absurd h7 a1
   · exact h7
 · rcases h8 with h8 | h8
   · exact absurd h8 a1
   · exact pk.1 (by omega)
theorem JC {op:Int} (h:(nm op).data.toList≠[]):0≤op∧op<256∧op≠5∧op≠11:=by
 unfold nm at h
 split at h
 · exact absurd rfl h
 · refine⟨by omega,by omega,?_,?_⟩
   · rintro rfl
     exact h (by decide +kernel)
   · rintro rfl
     exact h (by decide +kernel)
theorem Lc {a:Int} (h:(Lit.int .u32 a).wf=true):0≤a∧a<4294967296:=zu h
def Hd (b:List Nat) (p:Nat) (e:List Nat):Prop:= ∃S,b.drop p=e++S
theorem Hd.cons {b:List Nat} {p c:Nat} {e:List Nat} (h:Hd b p (c::e)):p<b.length∧b.getD p 0=c∧Hd b (p+1) e:=by
 obtain⟨S,h⟩:=h
 have hl:p<b.length:=by
  apply Nat.lt_of_not_le
  intro q
  rw[List.drop_eq_nil_of_le q] at h
  cases h
 rw[List.drop_eq_getElem_cons hl] at h
 simp only[S8,List.cons.injEq] at h
 refine⟨hl,?_,S,h.2⟩
 rw[dd,List.getElem?_eq_getElem hl]
 exact h.1
theorem Hd.app {b:List Nat} {p:Nat} {x y:List Nat} (h:Hd b p (x++y)):Hd b p x∧Hd b (p+x.length) y:=by
 obtain⟨S,h⟩:=h
 refine⟨⟨y++S,by rw[h,pr]⟩,S,?_⟩
 rw[←List.drop_drop,h,pr,List.drop_left]
theorem JD {b:List Nat} {p:Nat} : ∀(f i acc n:Nat),i+f=4→n*128 ^ i<4294967296→Hd b (p+i) (pU f n)→gN fX b p (f+1) i acc = .ok (acc+n*128 ^ i) (7*(i+(pU f n).length)) (p+i+(pU f n).length)
 |0,i,acc,n,hi,hn,h=>by
  have hi:i=4:=by omega
  subst hi
  have hn:n<16:=by omega
  unfold pU at h ⊢
  obtain⟨h1,h2,_⟩:=h.cons
  have e:n%128=n:=by omega
  rw[e] at h2
  unfold gN
  rw[h2,if_neg (by omega),if_neg (by simp[fX];omega),if_pos (by omega),e]
  rfl
 |f+1,i,acc,n,hi,hn,h=>by
  by_cases h0:n / 128=0
  · have e:pU (f+1) n=[n%128]:=by unfold pU;rw[if_pos h0]
    rw[e] at h ⊢
    obtain⟨h1,h2,_⟩:=h.cons
    have e:n%128=n:=by omega
    rw[e] at h2
    unfold gN
    rw[h2,if_neg (by omega),if_neg (by omega),if_pos (by omega),e]
    rfl
  · have e:pU (f+1) n=(n%128+128)::pU f (n / 128):=by conv=>lhs;unfold pU;rw[if_neg h0]
    rw[e] at h ⊢
    obtain⟨h1,h2,h3⟩:=h.cons
    have hp:128 ^ (i+1)=128 ^ i*128:=T4 ..
    have hq:n*128 ^ i=n%128*128 ^ i+n / 128*128 ^ (i+1):=by
     rw[hp,T5 (128 ^ i) 128,←T3,←re]
     congr 1
     omega
    have ih:=JD f (i+1) (acc+n%128*128 ^ i) (n / 128) (by omega) (by omega) h3
    unfold gN
    rw[h2,if_neg (by omega),if_neg (by omega),if_neg (by omega),show(n%128+128)%128=n%128 by omega,ih,od]
    congr 1<;>omega
theorem JE {b:List Nat} {p:Nat} : ∀(f i acc:Nat) (n:Int),i+f=4 → -2147483648≤n*128 ^ i→n*128 ^ i<2147483648→Hd b (p+i) (pS f n) →
  ∃j:Nat,j≤f∧(pS f n).length=j+1 ∧ -(64*128 ^ j:Int)≤n∧n<64*128 ^ j∧gN iQ b p (f+1) i acc = .ok (acc+(n%128 ^ (j+1)).toNat*128 ^ i) (7*(i+j+1)) (p+i+j+1)
 |0,i,acc,n,hi,hn,hn',h=>by
  have hi:i=4:=by omega
  subst hi
  unfold pS at h ⊢
  obtain⟨h1,h2,_⟩:=h.cons
  refine⟨0,ch _,rfl,by omega,by omega,?_⟩
  unfold gN
  rw[h2,if_neg (by omega),if_neg (by simp[iQ];omega),if_pos (by omega),show(n%128).toNat%128=(n%128).toNat by omega]
  rfl
 |f+1,i,acc,n,hi,hn,hn',h=>by
  by_cases h0 : -64≤n∧n≤63
  · have e:pS (f+1) n=[(n%128).toNat]:=by unfold pS;rw[if_pos h0]
    rw[e] at h ⊢
    obtain⟨h1,h2,_⟩:=h.cons
    refine⟨0,S3 _,rfl,by omega,by omega,?_⟩
    unfold gN
    rw[h2,if_neg (by omega),if_neg (by omega),if_pos (by omega),show(n%128).toNat%128=(n%128).toNat by omega]
    rfl
  · have e:pS (f+1) n=((n%128).toNat+128)::pS f (n / 128):=by conv=>lhs;unfold pS;rw[if_neg h0]
    rw[e] at h ⊢
    obtain⟨h1,h2,h3⟩:=h.cons
    have hb : -2147483648≤n / 128*128 ^ (i+1)∧n / 128*128 ^ (i+1)<2147483648:=by
     have hi':i=0∨i=1∨i=2∨i=3:=by omega
     rcases hi' with rfl | rfl | rfl | rfl<;>simp only[Tw,Ua,Ub,Int.mul_one] at hn hn' ⊢ <;> omega
    obtain⟨j,j1,j2,j3,j4,ih⟩:=JE f (i+1) (acc+(n%128).toNat*128 ^ i) (n / 128) (by omega) hb.1 hb.2 h3
    have hj:j=0∨j=1∨j=2∨j=3:=by omega
    have hm:(n%128 ^ (j+1+1)).toNat=(n%128).toNat+((n / 128)%128 ^ (j+1)).toNat*128:=by
     rcases hj with rfl | rfl | rfl | rfl<;>simp only[Tw,Ua]<;>omega
    have hd : -(64*128 ^ (j+1):Int)≤n∧n<64*128 ^ (j+1):=by
     rcases hj with rfl | rfl | rfl | rfl<;>simp only[Tw,Ua,Ub] at j3 j4 ⊢ <;> omega
    refine⟨j+1,by omega,by rw[od,j2],hd.1,hd.2,?_⟩
    have hp:128 ^ (i+1)=128 ^ i*128:=T4 ..
    unfold gN
    rw[h2,if_neg (by omega),if_neg (by omega),if_neg (by omega),show((n%128).toNat+128)%128=(n%128).toNat by omega,ih,hm,re,hp,T5 (128 ^ i) 128,←T3]
    congr 1<;>omega
theorem Ld {n:Int} {j:Nat} (hj:j≤4) (h1 : -(64*128 ^ j:Int)≤n) (h2:n<64*128 ^ j) (h3 : -2147483648≤n) (h4:n<2147483648):Ni (n%128 ^ (j+1)).toNat (7*(j+1))=n:=by
 unfold Ni
 have hj':j=0∨j=1∨j=2∨j=3∨j=4:=by omega
 rcases hj' with rfl | rfl | rfl | rfl | rfl<;>simp only[Tw,Nat.reduceMul,Nat.reduceSub,Nat.reducePow,Ua,Ub,MI] at h1 h2 ⊢ <;> split<;>omega
theorem Bp {b:List Nat} {p n:Nat} (hn:n<4294967296) (h:Hd b p (pU 4 n)):aQ b ⟨p,0,0⟩=(n,⟨p+(pU 4 n).length,0,0⟩):=by
 have k:=JD 4 0 0 n rfl (by omega) h
 have k:gU b p=_:=k
 unfold aQ
 rw[if_neg (by simp),k,if_neg (by simp[GR.e])]
 simp only[GR.bits,GR.next,T6,T7,rh,Nat.add_zero,Nat.mod_eq_of_lt hn]
theorem jc {b:List Nat} {p:Nat} {n:Int} (hn:0≤n∧n<4294967296) (h:Hd b p (pU 4 n.toNat)):aQ b ⟨p,0,0⟩=(n.toNat,⟨p+(pU 4 n.toNat).length,0,0⟩):=Bp (by omega) h
theorem IW {b:List Nat} {p:Nat} {n:Int} (hn : -2147483648≤n∧n<2147483648) (h:Hd b p (pS 4 n)):(gS b p).e=0∧Ho b p=n∧zJ b p=p+(pS 4 n).length:=by
 obtain⟨j,j1,j2,j3,j4,k⟩:=JE 4 0 0 n rfl (by simpa using hn.1) (by simpa using hn.2) h
 have k:gS b p=_:=k
 unfold Ho zJ
 rw[k]
 refine⟨rfl,?_,?_⟩
 · rw[if_neg (by simp[GR.e])]
   simp only[GR.bits,GR.many,T6,T7,rh]
   exact Ld j1 j3 j4 hn.1 hn.2
 · rw[if_neg (by simp[GR.e]),j2]
   simp only[GR.next]
   omega
theorem El {b:List Nat} {p c:Nat} {e:List Nat} (h:Hd b p (c::e)):bk b ⟨p,0,0⟩=(c,⟨p+1,0,0⟩):=by
 obtain⟨h1,h2,_⟩:=h.cons
 unfold bk
 rw[if_neg (by simp),if_neg (by simp;omega),h2]
theorem ql {b:List Nat} {p c:Nat} {e:List Nat} {ok:Nat→Bool} (hc:ok c=true) (h:Hd b p (c::e)):eU ok b ⟨p,0,0⟩=(c,⟨p+1,0,0⟩):=by
 unfold eU
 rw[El h,if_pos hc]
theorem yd {b:List Nat} : ∀(tg:List Int) (p:Nat),(∀t∈tg,0≤t∧t<4294967296)→Hd b p (tg.flatMap fun t=>pU 4 t.toNat)→br b tg.length ⟨p,0,0⟩=(tg,⟨p+(tg.flatMap fun t=>pU 4 t.toNat).length,0,0⟩)
 |[],p,_,_=>rfl
 |t::r,p,ht,h=>by
  simp only[List.flatMap_cons] at h ⊢
  obtain⟨h1,h2⟩:=h.app
  have t0:=ht t (.head _)
  have ih:=yd r _ (fun x hx=>ht x (.tail _ hx)) h2
  rw[od]
  unfold br
  rw[if_neg (by simp),jc t0 h1,ih,show((t.toNat:Nat):Int)=t by omega,dC,gv]
def IX (op a b nn:Int) (tg:List Int):List Nat:=
 if op=17 then pU 4 a.toNat++[0]
 else if gI op=true then pU 4 a.toNat
 else if op=14 then pU 4 tg.length++(tg.flatMap (fun t=>pU 4 t.toNat)++pU 4 a.toNat)
 else if op=63∨op=64 then[0]
 else if op=65 then pS 4 nn
 else if dO op=true then pU 4 a.toNat++pU 4 b.toNat
 else[]
theorem IY {B:List Nat} {op r:Int} {p:Nat} {e:List Nat} (dj:dW op=true) (hr:r=0∨r=1) (h:Hd B p ((if r=1 then 127 else 64)::e)):ah B op p=(.mk op r 0 0 0 [] [] [],⟨p+1,0,0⟩):=by
 unfold ah
 rw[if_pos dj]
 rcases hr with rfl | rfl
 · rw[ql (ok:=sC) (by decide) h];rfl
 · rw[ql (ok:=sC) (by decide) h];rfl
theorem GQ {B:List Nat} {op r a b nn:Int} {tg:List Int} {ll le:List Ins} {p:Nat} (hx:nN (.mk op r a b nn tg ll le)=true) (wx:FP (.mk op r a b nn tg ll le)) (dj:dW op=false) (ht:tg.length≤16384) (h:Hd B p (IX op a b nn tg)) :
  ah B op p=(.mk op r a b nn tg ll le,⟨p+(IX op a b nn tg).length,0,0⟩):=by
 obtain⟨f0,f1,f2,f3,f4,f5,f6,f7⟩:=yc hx
 have o1:=JC f0
 simp only[FP] at wx
 obtain⟨_,_,wa,wb,wn,⟨_,wt⟩,_⟩:=wx
 have wa:=Lc wa
 have wb:=Lc wb
 have wn:=Gg wn
 have wt:=fun t ht=>Lc (wt t ht)
 have ea:((a.toNat:Nat):Int)=a:=by omega
 have eb:((b.toNat:Nat):Int)=b:=by omega
 have n4:op≠4:=fun q=>by rw[ez.2 (by omega)] at dj;cases dj
 obtain⟨q1,q2⟩:=f2 dj
 have q3:=f3 n4
 subst q1 q2 q3
 have RZ : ¬dW op=true:=by rw[dj];exact T8
 unfold ah
 unfold IX at h ⊢
 rw[if_neg RZ]
 by_cases iM:op=17
 · subst iM
   have s1:dO 17=false:=rfl
   have e1:=f5 s1
   have e3:=f6 (by decide)
   have e5:=f7 (by decide)
   subst e1 e3 e5
   simp only[if_true] at h ⊢
   obtain⟨k1,k2⟩:=h.app
   rw[jc wa k1,ql (ok:=xY) (by decide) k2,ea,dC]
   rfl
 simp only[iM,if_false] at h ⊢
 by_cases oM:gI op=true
 · have hop:=m4.1 oM
   have s1:dO op=false:=by cases hs:dO op with | false=>rfl | true=>rw[mZ] at hs;omega
   have e1:=f5 s1
   have e3:=f6 (by omega)
   have e5:=f7 (by omega)
   subst e1 e3 e5
   simp only[oM,if_true] at h ⊢
   rw[jc wa h,ea]
 have oM:gI op=false:=by simpa using oM
 simp only[oM,pC,if_false] at h ⊢
 by_cases oN:op=14
 · subst oN
   have s1:dO 14=false:=rfl
   have e1:=f5 s1
   have e3:=f6 (by decide)
   subst e1 e3
   simp only[if_true] at h ⊢
   obtain⟨k1,k2⟩:=h.app
   obtain⟨k2,k3⟩:=k2.app
   have hnt : ¬(16384<tg.length∧(0:Nat)=0):=by omega
   rw[Bp (by omega) k1]
   dsimp only
   rw[if_neg hnt,yd tg _ wt k2]
   dsimp only
   rw[jc wa k3,ea,dC,dC]
   simp only[gv]
 have e5:=f7 oN
 subst e5
 simp only[oN,if_false] at h ⊢
 by_cases h63:op=63∨op=64
 · have s1:dO op=false:=by cases hs:dO op with | false=>rfl | true=>rw[mZ] at hs;omega
   have e1:=f5 s1
   have e3:=f6 (by omega)
   have e7:=f4 s1 oM oN
   subst e1 e3 e7
   simp only[h63,if_true] at h ⊢
   rw[ql (ok:=xY) (by decide) h]
   rfl
 simp only[h63,if_false] at h ⊢
 by_cases vT:op=65
 · subst vT
   have s1:dO 65=false:=rfl
   have e1:=f5 s1
   have e7:=f4 s1 oM oN
   subst e1 e7
   simp only[if_true] at h ⊢
   obtain⟨k1,k2,k3⟩:=IW wn h
   rw[k1,k2,k3]
   rfl
 have e3:=f6 vT
 subst e3
 simp only[vT,if_false] at h ⊢
 by_cases hst:dO op=true
 · simp only[hst,if_true] at h ⊢
   obtain⟨k1,k2⟩:=h.app
   rw[jc wa k1]
   dsimp only
   rw[jc wb k2,ea,eb,dC,gv]
 · have hst:dO op=false:=by simpa using hst
   simp only[hst,pC,if_false] at h ⊢
   have e1:=f5 hst
   have e7:=f4 hst oM oN
   subst e1 e7
   rfl
theorem Ds {b:List Nat} {m:Nat} {f:Fr} {fs:List Fr} {t:Fr} {p many:Nat} {e:List Nat} (h:Hd b p (11::e)):cU b (m+1) (f::fs) t p many=cU b m fs {f with l:=f.l++[t.done]} (p+1) many:=by
 obtain⟨h1,h2,_⟩:=h.cons
 conv=>lhs;unfold cU
 rw[if_neg (by omega),h2,if_pos rfl]
theorem IZ {b:List Nat} {m:Nat} {t:Fr} {p many:Nat} {e:List Nat} (h:Hd b p (11::e)):cU b (m+1) [] t p many=(some t.l,⟨p+1,0,0⟩):=by
 obtain⟨h1,h2,_⟩:=h.cons
 conv=>lhs;unfold cU
 rw[if_neg (by omega),h2,if_pos rfl]
theorem GS {b:List Nat} {m:Nat} {fs:List Fr} {t:Fr} {p many:Nat} {e:List Nat} (h:Hd b p (5::e)) (hf:fs≠[]) (h4:t.op=4) (ho:t.aA=false):cU b (m+1) fs t p many=cU b m fs {t with il:=t.l,l:=[],aA:=true} (p+1) many:=by
 obtain⟨h1,h2,_⟩:=h.cons
 conv=>lhs;unfold cU
 rw[if_neg (by omega),h2,if_neg (by decide),if_pos ⟨rfl,hf,h4,ho⟩]
theorem GU {b:List Nat} {m:Nat} {fs:List Fr} {t:Fr} {p many q:Nat} {c:Nat} {r:Int} {e:List Nat} (h:Hd b p (c::e)) (hn:nm c≠⟨#[]⟩) (h5:c≠5) (h11:c≠11) (hd:fs.length+1≤900) (hm:many<262144) (dj:dW c=true)
  (hr:ah b c (p+1)=(.mk c r 0 0 0 [] [] [],⟨q,0,0⟩)):cU b (m+1) fs t p many=cU b m (t::fs) ⟨c,r,[],[],false⟩ q (many+1):=by
 obtain⟨h1,h2,_⟩:=h.cons
 conv=>lhs;unfold cU
 rw[if_neg (by omega),h2,if_neg h11,if_neg (fun k=>h5 k.1),if_neg hn,if_neg (by omega),hr,if_neg (by simp),if_pos dj]
 rfl
theorem I0 {b:List Nat} {m:Nat} {fs:List Fr} {t:Fr} {p many q:Nat} {c:Nat} {x:Ins} {e:List Nat} (h:Hd b p (c::e)) (hn:nm c≠⟨#[]⟩) (h5:c≠5) (h11:c≠11) (hd:fs.length+1≤900) (hm:many<262144) (dj:dW c=false)
  (hr:ah b c (p+1)=(x,⟨q,0,0⟩)):cU b (m+1) fs t p many=cU b m fs {t with l:=t.l++[x]} q (many+1):=by
 obtain⟨h1,h2,_⟩:=h.cons
 conv=>lhs;unfold cU
 rw[if_neg (by omega),h2,if_neg h11,if_neg (fun k=>h5 k.1),if_neg hn,if_neg (by omega),hr,if_neg (by simp),if_neg (by rw[dj];exact T8)]
theorem Dt {op r a b nn:Int} {tg:List Int} {ll le:List Ins} (h:dW op=false):iE (.mk op r a b nn tg ll le)=(op%256).toNat::IX op a b nn tg:=by
 rw[iE,if_neg (by rw[h];exact T8)]
 rfl
set_option maxHeartbeats 2000000 in
theorem kN {B:List Nat} : ∀(N:Nat) (l:List Ins) (fs:List Fr) (t:Fr) (p many:Nat),eT l≤N→A4 nN l=true→zH l→lX l≤16384→iC (fs.length+1) l≤900→many+cL l≤262144→Hd B p (gw l) →
  ∃k,k≤(gw l).length ∧ ∀m,cU B (m+k) fs t p many=cU B m fs {t with l:=t.l++l} (p+(gw l).length) (many+cL l)
 |N,[],fs,t,p,many,_,_,_,_,_,_,_=>⟨0,S3 _,fun m=>by obtain⟨o,r,il,l,aA⟩:=t;simp[gw,cL]⟩
 |0,.mk op r a b nn tg ll le::l,_,_,_,_,h0,_,_,_,_,_,_=>by simp only[eT,lD] at h0;omega
 |N+1,.mk op r a b nn tg ll le::l,fs,t,p,many,h0,hk,hw,ht,hd,hm,h=>by
  simp only[eT,lD] at h0
  simp only[A4,N5,di] at hk
  simp only[lX,FU] at ht
  simp only[iC,A5] at hd
  simp only[cL,sY] at hm ⊢
  have wx:=hw.1
  have Ew:=hw.2
  have f:=yc hk.1.1
  have o:=JC f.1
  have hnm:nm op≠⟨#[]⟩:=fun e=>f.1 (by rw[e])
  have ec:(((op%256).toNat:Nat):Int)=op:=by omega
  by_cases dj:dW op=true
  · have hop:=ez.1 dj
    have s1:dO op=false:=by cases hs:dO op with | false=>rfl | true=>rw[mZ] at hs;omega
    have s2:gI op=false:=by cases hs:gI op with | false=>rfl | true=>rw[m4] at hs;omega
    obtain⟨f0,f1,f2,f3,f4,f5,f6,f7⟩:=f
    have e1:=f4 s1 s2 (by omega)
    have e2:=f5 s1
    have e3:=f6 (by omega)
    have e4:=f7 (by omega)
    subst e1 e2 e3 e4
    simp only[FP] at wx
    have hb:gw (.mk op r 0 0 0 [] ll le::l)=(op%256).toNat::(if r=1 then 127 else 64)::(gw ll++(((if le.length=0 then[] else 5::gw le)++[11])++gw l)):=by
     simp only[gw,iE,dj,if_true,S8,pr]
    rw[hb] at h ⊢
    obtain⟨_,_,h2⟩:=h.cons
    obtain⟨_,_,h3⟩:=h2.cons
    obtain⟨g1,g2⟩:=h3.app
    obtain⟨g2,g3⟩:=g2.app
    have uF:=IY (B:=B) (op:=(((op%256).toNat:Nat):Int)) (r:=r) (p:=p+1) (by rw[ec];exact dj) f1 h2
    have step : ∀m,cU B (m+1) fs t p many=cU B m (t::fs) ⟨op,r,[],[],false⟩ (p+1+1) (many+1):=fun m=>by
     have:=GU (m:=m) (fs:=fs) (t:=t) (many:=many) h (by rw[ec];exact hnm) (by omega) (by omega) (by omega) (by omega) (by rw[ec];exact dj) uF
     rwa [ec] at this
    obtain⟨k1,l1,r1⟩:=kN N ll (t::fs) ⟨op,r,[],[],false⟩ (p+1+1) (many+1) (by omega) hk.1.2.1 wx.2.2.2.2.2.2.1.2 (by omega) (by rw[od];omega) (by omega) g1
    by_cases hle:le.length=0
    · have hle:le=[]:=pk.1 hle
      subst hle
      simp only[Tr,if_true,SX] at g2 g3 ⊢
      obtain⟨k3,l3,r3⟩:=kN N l fs {t with l:=t.l++[.mk op r 0 0 0 [] ll []]} (p+1+1+(gw ll).length+1) (many+1+cL ll) (by omega) hk.2 Ew (by omega) (by omega) (by simp only[cL] at hm;omega) g3
      refine⟨k3+1+k1+1,by simp only[od,dC,Tr];omega,fun m=> ?_⟩
      rw[show m+(k3+1+k1+1)=m+k3+1+k1+1 by omega,step,r1,Ds g2]
      simp only[Fr.done,SX,pC,if_false]
      rw[r3]
      congr 1
      · simp
      · simp only[od,dC,Tr];omega
      · simp only[cL];omega
    · have h4:op=4:=Decidable.byContradiction fun q=>hle (by rw[f3 q];rfl)
      subst h4
      rw[if_neg hle] at g2 g3 ⊢
      have g2:Hd B (p+1+1+(gw ll).length) (5::(gw le++[11])):=g2
      obtain⟨_,_,g4⟩:=g2.cons
      obtain⟨g4,g5⟩:=g4.app
      obtain⟨k2,l2,r2⟩:=kN N le (t::fs) ⟨4,r,ll,[],true⟩ (p+1+1+(gw ll).length+1) (many+1+cL ll) (by omega) hk.1.2.2 wx.2.2.2.2.2.2.2.2 (by omega) (by rw[od];omega) (by omega) g4
      have g3:Hd B (p+1+1+(gw ll).length+1+(gw le).length+1) (gw l):=by
       have e:p+1+1+(gw ll).length+1+(gw le).length+1=p+1+1+(gw ll).length+(5::gw le++[11]).length:=by simp only[od,dC,Tr];omega
       rw[e];exact g3
      obtain⟨k3,l3,r3⟩:=kN N l fs {t with l:=t.l++[.mk 4 r 0 0 0 [] ll le]} (p+1+1+(gw ll).length+1+(gw le).length+1) (many+1+cL ll+cL le) (by omega) hk.2 Ew (by omega) (by omega) (by omega) g3
      refine⟨k3+1+k2+1+k1+1,by simp only[od,dC,Tr];omega,fun m=> ?_⟩
      rw[show m+(k3+1+k2+1+k1+1)=m+k3+1+k2+1+k1+1 by omega,step,r1,GS g2 (by simp) rfl rfl]
      simp only[SX]
      rw[r2,Ds g5]
      simp only[Fr.done,SX,if_true]
      rw[r3]
      congr 1
      · simp
      · simp only[od,dC,Tr];omega
      · omega
  · have dj:dW op=false:=by simpa using dj
    have hb:gw (.mk op r a b nn tg ll le::l)=(op%256).toNat::(IX op a b nn tg++gw l):=by
     rw[gw,Dt dj];rfl
    rw[hb] at h ⊢
    obtain⟨_,_,h2⟩:=h.cons
    obtain⟨g1,g2⟩:=h2.app
    have uF:=GQ (B:=B) (p:=p+1) hk.1.1 wx dj (by omega) g1
    have hx1:=f.2.2.1 dj
    have NW:=f.2.2.2.1 (fun q=>by rw[ez.2 (by omega)] at dj;cases dj)
    have step : ∀m,cU B (m+1) fs t p many=cU B m fs {t with l:=t.l++[.mk op r a b nn tg ll le]} (p+1+(IX op a b nn tg).length) (many+1):=fun m=>by
     exact I0 (m:=m) (fs:=fs) (t:=t) (many:=many) h (by rw[ec];exact hnm) (by omega) (by omega) (by omega) (by omega) (by rw[ec];exact dj) (by rw[ec];exact uF)
    have n0:cL ll+cL le=0:=by rw[hx1.2,NW];rfl
    obtain⟨k3,l3,r3⟩:=kN N l fs {t with l:=t.l++[.mk op r a b nn tg ll le]} (p+1+(IX op a b nn tg).length) (many+1) (by omega) hk.2 Ew (by omega) (by omega) (by omega) g2
    refine⟨k3+1,by simp only[od,dC];omega,fun m=> ?_⟩
    rw[show m+(k3+1)=m+k3+1 by omega,step,r3]
    congr 1
    · simp
    · simp only[od,dC];omega
    · omega
theorem Bq {l:List Ins} (h:gF nN l=0):A4 nN l=true∧cL l≤262144∧lX l≤16384∧iC 1 l≤900:=by
 unfold gF at h
 split at h
 · cases h
 · split at h
   · cases h
   · rename_i h1 h2
     exact⟨by simpa using h1,by omega,by omega,by omega⟩
theorem I1 {l:List Ins} {B:List Nat} {p:Nat} (hc:gF nN l=0) (hw:zH l) (h:Hd B p (gw l++[11])):JB B p=(some l,⟨p+(gw l).length+1,0,0⟩):=by
 obtain⟨q1,q2,q3,q4⟩:=Bq hc
 obtain⟨h1,h2⟩:=h.app
 obtain⟨k,k1,k2⟩:=kN (B:=B) (eT l) l [] ⟨0,0,[],[],false⟩ p 0 (ch _) q1 hw q3 q4 (by omega) h1
 have hl:=h2.cons.1
 unfold JB
 rw[show B.length+1=(B.length-k)+1+k by omega,k2,IZ h2]
 rfl
theorem rC {B:List Nat} {n i:Nat} (h:i<n):(B.take n).getD i 0=B.getD i 0:=by
 rw[dd,dd,List.getElem?_take_of_lt h]
theorem Du {last:Nat→Bool} {b:List Nat} {p f i acc:Nat} (h:p+i<b.length):gN last b p (f+1) i acc=if i=4∧(128≤b.getD (p+i) 0∨last (b.getD (p+i) 0)=false) then .eR 4 (p+i)
  else if b.getD (p+i) 0<128 then .ok (acc+b.getD (p+i) 0%128*128 ^ i) (7*(i+1)) (p+i+1)
  else gN last b p f (i+1) (acc+b.getD (p+i) 0%128*128 ^ i):=by
 conv=>lhs;unfold gN
 rw[if_neg (by omega)]
theorem Cw {last:Nat→Bool} {B:List Nat} {n p:Nat} (hn:n≤B.length) : ∀(f i acc:Nat),p+i≤n→(gN last B p f i acc).e=0 →
  ((gN last B p f i acc).next≤n→gN last (B.take n) p f i acc=gN last B p f i acc)∧(n<(gN last B p f i acc).next→gN last (B.take n) p f i acc = .eR 4 n)
 |0,i,acc,_,h=>by simp[gN,GR.e] at h
 |f+1,i,acc,hp,h=>by
  have hl:(B.take n).length=n:=by rw[eQ];omega
  have hx:=jW (p:=p) (last:=last) (b:=B) (f+1) i acc h
  by_cases hlt:p+i<n
  · rw[Du (b:=B) (by omega)] at h ⊢
    rw[Du (b:=B.take n) (by omega),rC hlt]
    by_cases h1:i=4∧(128≤B.getD (p+i) 0∨last (B.getD (p+i) 0)=false)
    · rw[if_pos h1] at h;simp[GR.e] at h
    · rw[if_neg h1] at h ⊢
      rw[if_neg h1]
      by_cases h2:B.getD (p+i) 0<128
      · rw[if_pos h2] at h ⊢
        rw[if_pos h2]
        simp only[GR.next]
        exact⟨fun _=>True.intro,fun q=>by omega⟩
      · rw[if_neg h2] at h ⊢
        rw[if_neg h2]
        exact Cw hn f (i+1) _ (by omega) h
  · refine⟨fun q=>by omega,fun _=> ?_⟩
    conv=>lhs;unfold gN
    rw[hl,if_pos (by omega)]
structure Dv {α:Type} (B:List Nat) (n:Nat) (f:List Nat→RS→α×RS):Prop where
 eR : ∀b s,s.e≠0→(f b s).2=s
 mono : ∀s,(f B s).2.e=0→s.p≤(f B s).2.p
 cut : ∀s,s.e=0→s.p≤n→(f B s).2.e=0→((f B s).2.p≤n→f (B.take n) s=f B s)∧(n<(f B s).2.p→(f (B.take n) s).2.e=4∧(f (B.take n) s).2.fa=n)
theorem Dv.back {α:Type} {B:List Nat} {n:Nat} {f:List Nat→RS→α×RS} (h:Dv B n f) {s:RS} (k:(f B s).2.e=0):s.e=0:=Decidable.byContradiction fun q=>q (by rw[h.eR B s q] at k;exact k)
def Br {α β:Type} (f:List Nat→RS→α×RS) (g:α→List Nat→RS→β×RS):List Nat→RS→(α×β)×RS:=fun b s=>(((f b s).1,(g (f b s).1 b (f b s).2).1),(g (f b s).1 b (f b s).2).2)
theorem Dv.bind {α β:Type} {B:List Nat} {n:Nat} {f:List Nat→RS→α×RS} {g:α→List Nat→RS→β×RS} (hf:Dv B n f) (hg : ∀a,Dv B n (g a)):Dv B n (Br f g) where
 eR b s h:=by
  have h1:=hf.eR b s h
  show(g (f b s).1 b (f b s).2).2=s
  rw[h1]
  exact(hg _).eR b s h
 mono s h:=by
  have h:(g (f B s).1 B (f B s).2).2.e=0:=h
  have h1:=hf.mono s ((hg _).back h)
  have h2:=(hg _).mono _ h
  exact Nat.le_trans h1 h2
 cut s h0 hp h:=by
  have h:(g (f B s).1 B (f B s).2).2.e=0:=h
  have e1:=(hg _).back h
  have m2:=(hg _).mono _ h
  obtain⟨c1,c2⟩:=hf.cut s h0 hp e1
  by_cases q:(f B s).2.p≤n
  · have c1:=c1 q
    obtain⟨d1,d2⟩:=(hg _).cut _ e1 q h
    unfold Br
    rw[c1]
    exact⟨fun k=>by rw[d1 k],d2⟩
  · have c2:=c2 (by omega)
    refine⟨fun k=> ?_,fun _=> ?_⟩
    · have k:(g (f B s).1 B (f B s).2).2.p≤n:=k
      omega
    · show(g (f (B.take n) s).1 (B.take n) (f (B.take n) s).2).2.e=4∧_
      have:=(hg (f (B.take n) s).1).eR (B.take n) (f (B.take n) s).2 (by omega)
      show(g (f (B.take n) s).1 (B.take n) (f (B.take n) s).2).2.e=4∧(g (f (B.take n) s).1 (B.take n) (f (B.take n) s).2).2.fa=n
      rw[this]
      exact c2
theorem Dw {α:Type} {B:List Nat} {n:Nat} (a:α):Dv B n fun _ s=>(a,s) where
 eR _ _ _:=rfl
 mono _ _:=ch _
 cut s _ hp _:=⟨fun _=>rfl,fun k=>by have k:n<s.p:=k;omega⟩
theorem jB {B:List Nat} {n:Nat} (hn:n≤B.length):Dv B n aQ where
 eR b s h:=by unfold aQ;rw[if_pos h]
 mono s h:=by
  unfold aQ at h ⊢
  by_cases h1:s.e≠0
  · rw[if_pos h1];exact ch _
  · rw[if_neg h1] at h ⊢
    by_cases h2:(gU B s.p).e≠0
    · rw[if_pos h2] at h;exact absurd h h2
    · rw[if_neg h2]
      have h3:(gU B s.p).e=0:=by simpa using h2
      have:=jW (p:=s.p) (last:=fX) (b:=B) 5 0 0 h3
      have:s.p+0+1≤(gU B s.p).next:=this.2
      show s.p≤(gU B s.p).next
      omega
 cut s h0 hp h:=by
  have n0 : ¬s.e≠0:=fun q=>q h0
  unfold aQ at h ⊢
  simp only[if_neg n0] at h ⊢
  by_cases h2:(gU B s.p).e≠0
  · rw[if_pos h2] at h;exact absurd h h2
  · rw[if_neg h2] at h ⊢
    have h2:(gU B s.p).e=0:=by simpa using h2
    obtain⟨c1,c2⟩:=Cw (last:=fX) (p:=s.p) hn 5 0 0 hp h2
    refine⟨fun k=> ?_,fun k=> ?_⟩
    · have e:gU (B.take n) s.p=gU B s.p:=c1 k
      rw[e,if_neg (fun q=>q h2)]
    · have e:gU (B.take n) s.p = .eR 4 n:=c2 k
      rw[e]
      exact⟨rfl,rfl⟩
def rS (b:List Nat) (s:RS):Int×RS:=if s.e≠0 then(0,s) else if(gS b s.p).e≠0 then(0,⟨s.p,(gS b s.p).e,(gS b s.p).fa⟩) else(Ho b s.p,⟨zJ b s.p,0,0⟩)
theorem Le {B:List Nat} {n:Nat} (hn:n≤B.length):Dv B n rS where
 eR b s h:=by unfold rS;rw[if_pos h]
 mono s h:=by
  unfold rS at h ⊢
  by_cases h1:s.e≠0
  · rw[if_pos h1];exact ch _
  · rw[if_neg h1] at h ⊢
    by_cases h2:(gS B s.p).e≠0
    · rw[if_pos h2] at h;exact absurd h h2
    · rw[if_neg h2]
      have h3:(gS B s.p).e=0:=by simpa using h2
      have:=jW (p:=s.p) (last:=iQ) (b:=B) 5 0 0 h3
      have:s.p+0+1≤(gS B s.p).next:=this.2
      show s.p≤zJ B s.p
      rw[show zJ B s.p=(gS B s.p).next from if_neg h2]
      omega
 cut s h0 hp h:=by
  have n0 : ¬s.e≠0:=fun q=>q h0
  unfold rS at h ⊢
  simp only[if_neg n0] at h ⊢
  by_cases h2:(gS B s.p).e≠0
  · rw[if_pos h2] at h;exact absurd h h2
  · rw[if_neg h2] at h ⊢
    have h3:(gS B s.p).e=0:=by simpa using h2
    obtain⟨c1,c2⟩:=Cw (last:=iQ) (p:=s.p) hn 5 0 0 hp h3
    have en:zJ B s.p=(gS B s.p).next:=by unfold zJ;rw[if_neg h2]
    refine⟨fun k=> ?_,fun k=> ?_⟩
    · have k:zJ B s.p≤n:=k
      have e:gS (B.take n) s.p=gS B s.p:=c1 (by rw[en] at k;exact k)
      rw[e,if_neg h2]
      unfold Ho zJ
      rw[e]
    · have k:n<zJ B s.p:=k
      have e:gS (B.take n) s.p = .eR 4 n:=c2 (by rw[en] at k;exact k)
      rw[e]
      exact⟨rfl,rfl⟩
theorem rD {B:List Nat} {n:Nat} (hn:n≤B.length):Dv B n bk where
 eR b s h:=by unfold bk;rw[if_pos h]
 mono s h:=by
  unfold bk at h ⊢
  by_cases h1:s.e≠0
  · rw[if_pos h1];exact ch _
  · rw[if_neg h1] at h ⊢
    by_cases h2:B.length≤s.p
    · rw[if_pos h2] at h;simp at h
    · rw[if_neg h2]
      exact Nat.le_succ _
 cut s h0 hp h:=by
  have hl:(B.take n).length=n:=by rw[eQ];omega
  have n0 : ¬s.e≠0:=fun q=>q h0
  unfold bk at h ⊢
  simp only[if_neg n0,hl] at h ⊢
  by_cases h2:B.length≤s.p
  · rw[if_pos h2] at h;simp at h
  · rw[if_neg h2]
    refine⟨fun k=> ?_,fun k=> ?_⟩
    · have k:s.p+1≤n:=k
      rw[if_neg (by omega),rC (by omega)]
    · have k:n<s.p+1:=k
      rw[if_pos (by omega)]
      exact⟨rfl,rfl⟩
theorem vY {B:List Nat} {n:Nat} {ok:Nat→Bool} (hn:n≤B.length):Dv B n (eU ok) where
 eR b s h:=by
  unfold eU
  have:=(rD (B:=B) hn).eR b s h
  split
  · exact this
  · rw[this,if_neg h]
 mono s h:=by
  unfold eU at h ⊢
  split at h
  · rename_i h1
    rw[if_pos h1]
    exact(rD hn).mono s h
  · split at h
    · simp at h
    · rename_i h1 h2;exact absurd h h2
 cut s h0 hp h:=by
  by_cases h1:ok (bk B s).1=true
  · have eB:eU ok B s=bk B s:=by unfold eU;rw[if_pos h1]
    rw[eB] at h ⊢
    obtain⟨c1,c2⟩:=(rD hn).cut s h0 hp h
    refine⟨fun k=> ?_,fun k=> ?_⟩
    · have c1:=c1 k
      unfold eU
      rw[c1,if_pos h1]
    · have c2:=c2 k
      unfold eU
      split
      · exact c2
      · rw[if_neg (by omega)];exact c2
  · unfold eU at h
    rw[if_neg h1] at h
    split at h
    · simp at h
    · rename_i h2;exact absurd h h2
theorem yg {B:List Nat} {n:Nat} (hn:n≤B.length) : ∀f:Nat,Dv B n (fun b s=>br b f s)
 |0=>Dw _
 |f+1=>by
  have ih:=(jB hn).bind (fun _:Nat=>yg hn f)
  have e : ∀b s,s.e=0→br b (f+1) s=(((Br aQ (fun _ b s=>br b f s) b s).1.1:Int)::(Br aQ (fun _ b s=>br b f s) b s).1.2,(Br aQ (fun _ b s=>br b f s) b s).2):=fun b s h=>by
   conv=>lhs;unfold br
   rw[if_neg (fun q=>q h)]
   rfl
  have e0 : ∀b s,s.e≠0→br b (f+1) s=([],s):=fun b s h=>by
   conv=>lhs;unfold br
   rw[if_pos h]
  refine⟨fun b s h=>by show(br b (f+1) s).2=s;rw[e0 b s h],fun s h=> ?_,fun s h0 hp h=> ?_⟩
  · by_cases h0:s.e=0
    · have h:(br B (f+1) s).2.e=0:=h
      show s.p≤(br B (f+1) s).2.p
      rw[e B s h0] at h ⊢
      exact ih.mono s h
    · show s.p≤(br B (f+1) s).2.p
      rw[e0 B s h0]
      exact ch _
  · have h:(br B (f+1) s).2.e=0:=h
    rw[e B s h0] at h
    show((br B (f+1) s).2.p≤n→br (B.take n) (f+1) s=br B (f+1) s)∧(n<(br B (f+1) s).2.p→(br (B.take n) (f+1) s).2.e=4∧(br (B.take n) (f+1) s).2.fa=n)
    rw[e B s h0,e (B.take n) s h0]
    obtain⟨c1,c2⟩:=ih.cut s h0 hp h
    exact⟨fun k=>by rw[c1 k],c2⟩
def Lf (p v:Nat):List Nat→RS→Unit×RS:=fun _ s=>((),if 16384<v∧s.e=0 then⟨s.p,141,p⟩ else s)
theorem GV {B:List Nat} {n:Nat} (p v:Nat):Dv B n (Lf p v) where
 eR b s h:=if_neg fun q=>h q.2
 mono s h:=by
  unfold Lf at h ⊢
  simp only at h ⊢
  split at h
  · simp at h
  · rename_i q;rw[if_neg q];exact ch _
 cut s h0 hp h:=by
  refine⟨fun _=>rfl,fun k=> ?_⟩
  unfold Lf at h k
  simp only at h k
  split at h
  · simp at h
  · rename_i q;rw[if_neg q] at k;omega
theorem GW {B:List Nat} {n p:Nat} (op:Int) (hn:n≤B.length) (hp:p≤n) (h:(ah B op p).2.e=0) :
  p≤(ah B op p).2.p∧((ah B op p).2.p≤n→ah (B.take n) op p=ah B op p)∧(n<(ah B op p).2.p→(ah (B.take n) op p).2.e=4∧(ah (B.take n) op p).2.fa=n):=by
 have key : ∀{α:Type} (f:List Nat→RS→α×RS) (F:α→Ins),Dv B n f→(∀b,ah b op p=(F (f b ⟨p,0,0⟩).1,(f b ⟨p,0,0⟩).2)) →
   p≤(ah B op p).2.p∧((ah B op p).2.p≤n→ah (B.take n) op p=ah B op p)∧(n<(ah B op p).2.p→(ah (B.take n) op p).2.e=4∧(ah (B.take n) op p).2.fa=n):=fun f F hf e=>by
  rw[e B,e (B.take n)]
  rw[e B] at h
  obtain⟨c1,c2⟩:=hf.cut ⟨p,0,0⟩ rfl hp h
  exact⟨hf.mono ⟨p,0,0⟩ h,fun k=>by rw[c1 k],c2⟩
 by_cases dj:dW op=true
 · exact key _ (fun v=> .mk op (if v=127 then 1 else 0) 0 0 0 [] [] []) (vY (ok:=sC) hn) fun b=>by unfold ah;rw[if_pos dj]
 by_cases iM:op=17
 · exact key _ (fun v=> .mk op 0 v.1 0 0 [] [] []) ((jB hn).bind fun _=>vY (ok:=xY) hn) fun b=>by unfold ah;rw[if_neg dj,if_pos iM];rfl
 by_cases oM:gI op=true
 · exact key aQ (fun v=> .mk op 0 v 0 0 [] [] []) (jB hn) fun b=>by unfold ah;rw[if_neg dj,if_neg iM,if_pos oM]
 by_cases oN:op=14
 · exact key _ (fun v=> .mk op 0 v.2.2.2 0 0 v.2.2.1 [] []) ((jB hn).bind fun v=>(GV p v).bind fun _=>(yg hn v).bind fun _=>jB hn) fun b=>by unfold ah;rw[if_neg dj,if_neg iM,if_neg oM,if_pos oN];rfl
 by_cases h63:op=63∨op=64
 · exact key _ (fun _=> .mk op 0 0 0 0 [] [] []) (vY (ok:=xY) hn) fun b=>by unfold ah;rw[if_neg dj,if_neg iM,if_neg oM,if_neg oN,if_pos h63]
 by_cases vT:op=65
 · exact key _ (fun v=> .mk op 0 0 0 v [] [] []) (Le hn) fun b=>by
    unfold ah rS
    rw[if_neg dj,if_neg iM,if_neg oM,if_neg oN,if_neg h63,if_pos vT]
    by_cases q:(gS b p).e≠0
    · rw[if_pos q,if_neg (fun k=>k rfl),if_pos q]
    · rw[if_neg q,if_neg (fun k=>k rfl),if_neg q]
 by_cases hst:dO op=true
 · exact key _ (fun v=> .mk op 0 v.1 v.2 0 [] [] []) ((jB hn).bind fun _=>jB hn) fun b=>by unfold ah;rw[if_neg dj,if_neg iM,if_neg oM,if_neg oN,if_neg h63,if_neg vT,if_pos hst];rfl
 · exact key _ (fun _=> .mk op 0 0 0 0 [] [] []) (Dw ()) fun b=>by unfold ah;rw[if_neg dj,if_neg iM,if_neg oM,if_neg oN,if_neg h63,if_neg vT,if_neg hst]
def zC (c:Nat) (x:Ins×RS) (go:List Fr→Fr→Nat→Nat→Option (List Ins)×RS) (fs:List Fr) (t:Fr) (p many:Nat):Option (List Ins)×RS:=
 if c=11 then match fs with
  |[]=>(some t.l,⟨p+1,0,0⟩)
  |f::fs'=>go fs' {f with l:=f.l++[t.done]} (p+1) many
 else if c=5∧fs≠[]∧t.op=4∧t.aA=false then go fs {t with il:=t.l,l:=[],aA:=true} (p+1) many
 else if nm c=⟨#[]⟩ then(none,⟨p+1,160,p⟩)
 else if 900<fs.length+1∨262144≤many then(none,⟨p+1,141,p⟩)
 else if x.2.e≠0 then(none,x.2)
 else if dW c=true then go (t::fs) ⟨c,x.1.results,[],[],false⟩ x.2.p (many+1)
 else go fs {t with l:=t.l++[x.1]} x.2.p (many+1)
theorem Bs {b:List Nat} {m:Nat} {fs:List Fr} {t:Fr} {p many:Nat} (h:p<b.length):cU b (m+1) fs t p many=zC (b.getD p 0) (ah b (b.getD p 0) (p+1)) (cU b m) fs t p many:=by
 conv=>lhs;unfold cU
 rw[if_neg (by omega)]
 rfl
theorem GX {n c:Nat} {x y:Ins×RS} {go go':List Fr→Fr→Nat→Nat→Option (List Ins)×RS} {fs:List Fr} {t:Fr} {p many q:Nat} {l:List Ins} (hq:n<q) (hp:p<n)
  (hc:x.2.e=0→p+1≤x.2.p∧(x.2.p≤n→y=x)∧(n<x.2.p→y.2.e=4∧y.2.fa=n))
  (ih : ∀fs t p' many,p+1≤p'→go fs t p' many=(some l,⟨q,0,0⟩)→(p'≤n → ∃q',go' fs t p' many=(none,⟨q',4,n⟩)))
  (h:zC c x go fs t p many=(some l,⟨q,0,0⟩)) : ∃q',zC c y go' fs t p many=(none,⟨q',4,n⟩):=by
 unfold zC at h ⊢
 by_cases h1:c=11
 · rw[if_pos h1] at h ⊢
   cases fs with
   |nil=>
    simp only[Prod.mk.injEq,RS.mk.injEq] at h
    omega
   |cons f fs=>exact ih _ _ _ _ (ch _) h hp
 rw[if_neg h1] at h ⊢
 by_cases h2:c=5∧fs≠[]∧t.op=4∧t.aA=false
 · rw[if_pos h2] at h ⊢
   exact ih _ _ _ _ (ch _) h hp
 rw[if_neg h2] at h ⊢
 by_cases h3:nm c=⟨#[]⟩
 · rw[if_pos h3] at h;cases h
 rw[if_neg h3] at h ⊢
 by_cases h4:900<fs.length+1∨262144≤many
 · rw[if_pos h4] at h;cases h
 rw[if_neg h4] at h ⊢
 by_cases h5:x.2.e≠0
 · rw[if_pos h5] at h;cases h
 rw[if_neg h5] at h
 obtain⟨c0,c1,c2⟩:=hc (by simpa using h5)
 by_cases h6:x.2.p≤n
 · rw[c1 h6,if_neg h5]
   by_cases h7:dW c=true
   · rw[if_pos h7] at h ⊢
     exact ih _ _ _ _ c0 h h6
   · rw[if_neg h7] at h ⊢
     exact ih _ _ _ _ c0 h h6
 · obtain⟨k1,k2⟩:=c2 (by omega)
   rw[if_pos (by omega)]
   refine⟨y.2.p,?_⟩
   obtain⟨y1,yp,ye,yf⟩:=y
   dsimp only at k1 k2 ⊢
   rw[k1,k2]
theorem Dx {B:List Nat} {n:Nat} (hn:n≤B.length) {l:List Ins} {q:Nat} (hq:n<q) : ∀(m m':Nat) (fs:List Fr) (t:Fr) (p many:Nat),cU B m fs t p many=(some l,⟨q,0,0⟩)→p≤n→n<p+m' →
  ∃q',cU (B.take n) m' fs t p many=(none,⟨q',4,n⟩)
 |_,0,_,_,_,_,_,h1,h2=>by omega
 |0,_+1,_,_,_,_,h,_,_=>by unfold cU at h;cases h
 |m+1,m'+1,fs,t,p,many,h,hp,hm=>by
  have hl:(B.take n).length=n:=by rw[eQ];omega
  by_cases hlt:p<n
  · rw[Bs (by omega)] at h
    rw[Bs (by omega),rC hlt]
    exact GX hq hlt (GW _ hn hlt) (fun fs t p' many h1 h2 h3=>Dx hn hq m m' fs t p' many h2 h3 (by omega)) h
  · refine⟨p,?_⟩
    conv=>lhs;unfold cU
    rw[hl,if_pos (by omega)]
theorem Lg {l:List Ins} {n:Nat} (hc:gF nN l=0) (hw:zH l) (hn:n<(gw l++[11]).length) : ∃q,JB ((gw l++[11]).take n) 0=(none,⟨q,4,n⟩):=by
 have h:=I1 (B:=gw l++[11]) (p:=0) hc hw ⟨[],by simp⟩
 unfold JB at h
 have hl:((gw l++[11]).take n).length=n:=by rw[eQ];omega
 rw[dC,T9] at hn
 exact Dx (by rw[dC,T9];omega) (by omega) _ _ [] _ 0 0 h (S3 _) (by rw[hl];omega)
end Go.Proofs.YtddfgnmjecogdaaDoor.N
end
