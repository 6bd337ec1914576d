import Derived.Test.YtddfgnmjecogdaaDoorMO
open Go.Proofs.Tryd renaming prog→ae
open Go.IntKind renaming i64→vj,u32→VO,i32→V9
open Nat renaming zero_le→Vr,le_refl→df,reduceAdd→VX,add_assoc→iu,pow_succ→Wu,mul_assoc→Wv,reduceMul→Ww,reduceSub→Wx,reducePow→Wy,mul_comm→Wz,pow_zero→WA,zero_add→sa,le_trans→ch,add_mul→rr,mul_one→WB
open Bool renaming false_ne_true→WC,and_eq_true→dv,or_eq_false_iff→ri,false_eq_true→rh,not_eq_true'→ky,or_eq_true→kx
open List renaming length_append→ei,length_cons→pa,length_nil→VS,getD_eq_getElem?_getD→dt,length_eq_zero_iff→pB,nil_append→Vl,append_assoc→qf,flatMap_cons→WD,cons_append→Vw,length_take→fl
open Int renaming toNat_natCast→V5,reducePow→WE,pow_zero→WG
open Decidable renaming byContradiction→WH,em→WI
noncomputable section
section
set_option linter.unusedSimpArgs false
set_option linter.unusedVariables false
namespace Go.Am
section
variable {P:Program} {E:Env}
theorem DL {c:bB} {i:Nat} {t:TypeId} {q:Bool} {l:List AV} (hc:jg c=true) (hb:c.st.mem[i]? = some (.ob (.gr t q) l)) :
  jj P E c {c with st:={c.st with mem:=c.st.mem.set i (.ob (.stk t []) l)}}:=by
 intro g fr w hr cs
 obtain⟨f,todo,st⟩:=c
 obtain⟨tm,nt,mem,fix,bT,bK⟩:=st
 dsimp only at hb ⊢
 match todo,hc with
 |.code j x::kk,_=>
  obtain⟨b,a,q1,q2,q3,q4,q5,q6⟩:=hr
  have hJ:Rel g mem w:=q5.rel
  obtain⟨r1,r2⟩:=hJ.C0 (pre:=[]) (l:=l) hb
  refine⟨g,fr,w,Steps.refl _ _,⟨b,a,q1,q2,q3,q4,⟨q5.tm,q5.nt,r1,?_,q5.cL⟩,q6⟩,r2,bn.refl _ _,rfl,rfl,rfl⟩
  have:=q5.fix
  dsimp only at this ⊢
  simp only[List.length_set]
  omega
theorem an.PS {c:bB} {R R':Hid} {v v':AV} {m:Mem} (h:an P E c R R' (.ret v m)) (hv : ∀g w x,VA g w v x→VA g w v' x):an P E c R R' (.ret v' m):=by
 intro g fr w H cs hc hR hA
 obtain⟨g2,lG,w2,cv,w3,H',r1,r2,r3,r4,r5⟩:=h g fr w H cs hc hR hA
 exact⟨g2,lG,w2,cv,w3,H',r1,r2,r3,hv _ _ _ r4,r5⟩
end
end Go.Am
namespace Go.Proofs.YtddfgnmjecogdaaDoor.N
open Go Go.Am
def IB:Env:=bz []
def PT:gQ:=fy dY cC [(27,0)] [] []
def RZ:Sc:= .fin
def IC (k:Nat) (B:List PV) (p:Int):aN:=
 (.at (aj ae IB 27 0 [.mp 0 0,.ms 1 0 1 10 none,sI .i64 0] ([.pc [.ps k 1 B,sP p,sP 0,sP 0],.ob (fR.gr 74 true) [sI .i64 0,sI .i64 0,sI .u32 0,sI .u32 0,sI .i32 0,.p (.ps 0 0 []),.p (.ps 0 0 []),.p (.ps 0 0 []),.p (.ps 0 0 []),sB false]]) 1 202))
theorem KA (k:Nat) (B:List PV) (p:Int):dF ae IB PT 1000000 27 ([AV.mp 0 0]) ([aH.pc [PV.ps k 1 B,PV.sc (Value.int vj p),PV.sc (Value.int vj 0),PV.sc (Value.int vj 0)]]) RZ=IC k B p:=by kernel_rfl
def ID (b:List Nat) (p:Nat):Option (List Ins)×RS:=cG b (b.length+1) [] ⟨0,0,[],[],false⟩ p 0
def xy (b:List Nat) (p:Nat):List Ins:=(ID b p).1.getD []
def mK (b:List Nat) (p:Nat):RS:=(ID b p).2
theorem FT {b:List Nat} {p:Nat} (hb:cP b ⟨p,0,0⟩):an ae (bz []) (hC b p 0 0 [] ⟨0,0,[],[],false⟩) (eu [] []) hT (.ret (.p (.ps (xy b p).length 8 (aa (xy b p)))) [(mK b p).aP b]):=by
 have h:=Ky hb.gi hb.len (b.length+1) [] ⟨0,0,[],[],false⟩ p 0 [] (by omega) hb.p rfl (Vr _) (Vr _) fun _ q=>by cases q
 have h:an ae (bz []) (hC b p 0 0 [] ⟨0,0,[],[],false⟩) (eu [] []) hT (PL b (ID b p)):=h
 unfold xy mK
 generalize ID b p=x at h
 obtain⟨o,s⟩:=x
 cases o with
 |none=>exact an.PS h fun g w x hx=>zB g w x hx
 |some l=>exact h
theorem FU {b:List Nat} {p:Nat} (hb:cP b ⟨p,0,0⟩):aG ae env 27 [.mp 0 0] [RS.aP b ⟨p,0,0⟩] (.p (.ps (xy b p).length 8 (aa (xy b p)))) [(mK b p).aP b]:=by
 have h:aG ae IB 27 [.mp 0 0] [RS.aP b ⟨p,0,0⟩] (.p (.ps (xy b p).length 8 (aa (xy b p)))) [(mK b p).aP b]:=by
  refine ak cV (KA b.length (bt b) p) ?_
  unfold IC
  refine an.good (R:=eu [] []) (R':=hT) ?_ Ip
  refine an.au (aE _ _) (DL (i:=1) (t:=74) (q:=true) (l:=[sI .i64 0,sI .i64 0,sI .u32 0,sI .u32 0,sI .i32 0,.p (.ps 0 0 []),.p (.ps 0 0 []),.p (.ps 0 0 []),.p (.ps 0 0 []),sB false]) (by kernel_rfl) (by kernel_rfl)) ?_
  refine an.au (aE _ _) (eH (i:=1) (k:= .stk 74 []) (l:=[sI .i64 0,sI .i64 0,sI .u32 0,sI .u32 0,sI .i32 0,.p (.ps 0 0 []),.p (.ps 0 0 []),.p (.ps 0 0 []),.p (.ps 0 0 []),sB false]) (l':=gO 0 0 [] (.os none 0 0 []) false) (by kernel_rfl) (by kernel_rfl)
   fun g w vs h=>iZ (l:=[sI .i64 0,sI .i64 0,sI .u32 0,sI .u32 0,sI .i32 0,.p (.ps 0 0 []),.p (.ps 0 0 []),.p (.ps 0 0 []),.p (.ps 0 0 []),sB false]) (l':=gO 0 0 [] (.os none 0 0 []) false) ⟨bu _,bu _,bu _,bu _,bu _,j8 1,j8 8,j8 8,zA,bu _,trivial⟩ h) ?_
  exact an.same (by kernel_rfl) (FT hb)
 exact h
end Go.Proofs.YtddfgnmjecogdaaDoor.N
end
section
set_option linter.unusedSimpArgs false
set_option linter.unusedVariables false
namespace Go.Proofs.YtddfgnmjecogdaaDoor.N
open Go Go.Am
theorem tr {op r a b nn:Int} {tg:List Int} {ll le:List Ins} (h:fK (.mk op r a b nn tg ll le)=true) :
  (nm op).data.toList≠[]∧(r=0∨r=1)∧(dx op=false→r=0∧ll=[])∧(op≠4→le=[])∧(dG op=false→gh op=false→op≠14→a=0)∧(dG op=false→b=0)∧(op≠65→nn=0)∧(op≠14→tg=[]):=by
 simp only[fK,rz,dv,ky,kx,decide_eq_false_iff_not,decide_eq_true_eq,beq_iff_eq,ri,beq_eq_false_iff_ne,bne_eq_false_iff_eq] at h
 obtain⟨h0,h1,h2,h3,h4,h5,h6,h7,h8⟩:=h
 have nil : ∀{α:Type} (l:List α),¬(l.length:Int)>0→l=[]:=fun l hl=>pB.1 (by omega)
 refine⟨fun e=>h0 (by rw[e]),by omega,fun cR=> ?_,fun h4'=> ?_,fun a1 a2 a3=> ?_,fun a1=> ?_,fun a1=> ?_,fun a1=> ?_⟩
 · rcases h3 with h3 | h3
   · rw[h3] at cR;cases cR
   · exact⟨h3.1,nil _ h3.2⟩
 · rcases h4 with h4 | h4
   · exact absurd h4 h4'
   · exact nil _ h4
 · rcases h5 with((h5 | h5) | h5) | h5
   · rw[h5] at a1;cases a1
   · rw[h5] at a2;cases a2
   · exact absurd h5 a3
   · exact h5
 · rcases h6 with h6 | h6
   · rw[h6] at a1;cases a1
   · exact h6
 · rcases h7 with h7 | h7
   · exact absurd h7 a1
   · exact h7
 · rcases h8 with h8 | h8
   · exact absurd h8 a1
   · exact pB.1 (by omega)
theorem Lx {op:Int} (h:(nm op).data.toList≠[]):0≤op∧op<256∧op≠5∧op≠11:=by
 unfold nm at h
 split at h
 · exact absurd rfl h
 · refine⟨by omega,by omega,?_,?_⟩
   · rintro rfl
     exact h (by decide +kernel)
   · rintro rfl
     exact h (by decide +kernel)
theorem Nh {a:Int} (h:(Lit.int .u32 a).wf=true):0≤a∧a<4294967296:=AT h
def Hd (b:List Nat) (p:Nat) (e:List Nat):Prop:= ∃S,b.drop p=e++S
theorem Hd.cons {b:List Nat} {p c:Nat} {e:List Nat} (h:Hd b p (c::e)):p<b.length∧b.getD p 0=c∧Hd b (p+1) e:=by
 obtain⟨S,h⟩:=h
 have hl:p<b.length:=by
  apply Nat.lt_of_not_le
  intro q
  rw[List.drop_eq_nil_of_le q] at h
  cases h
 rw[List.drop_eq_getElem_cons hl] at h
 simp only[Vw,List.cons.injEq] at h
 refine⟨hl,?_,S,h.2⟩
 rw[dt,List.getElem?_eq_getElem hl]
 exact h.1
theorem Hd.app {b:List Nat} {p:Nat} {x y:List Nat} (h:Hd b p (x++y)):Hd b p x∧Hd b (p+x.length) y:=by
 obtain⟨S,h⟩:=h
 refine⟨⟨y++S,by rw[h,qf]⟩,S,?_⟩
 rw[←List.drop_drop,h,qf,List.drop_left]
theorem Ly {b:List Nat} {p:Nat} : ∀(f i acc n:Nat),i+f=4→n*128 ^ i<4294967296→Hd b (p+i) (pU f n)→gN fU b p (f+1) i acc = .ok (acc+n*128 ^ i) (7*(i+(pU f n).length)) (p+i+(pU f n).length)
 |0,i,acc,n,hi,hn,h=>by
  have hi:i=4:=by omega
  subst hi
  have hn:n<16:=by omega
  unfold pU at h ⊢
  obtain⟨h1,h2,_⟩:=h.cons
  have e:n%128=n:=by omega
  rw[e] at h2
  unfold gN
  rw[h2,if_neg (by omega),if_neg (by simp[fU];omega),if_pos (by omega),e]
  rfl
 |f+1,i,acc,n,hi,hn,h=>by
  by_cases h0:n / 128=0
  · have e:pU (f+1) n=[n%128]:=by unfold pU;rw[if_pos h0]
    rw[e] at h ⊢
    obtain⟨h1,h2,_⟩:=h.cons
    have e:n%128=n:=by omega
    rw[e] at h2
    unfold gN
    rw[h2,if_neg (by omega),if_neg (by omega),if_pos (by omega),e]
    rfl
  · have e:pU (f+1) n=(n%128+128)::pU f (n / 128):=by conv=>lhs;unfold pU;rw[if_neg h0]
    rw[e] at h ⊢
    obtain⟨h1,h2,h3⟩:=h.cons
    have hp:128 ^ (i+1)=128 ^ i*128:=Wu ..
    have hq:n*128 ^ i=n%128*128 ^ i+n / 128*128 ^ (i+1):=by
     rw[hp,Wz (128 ^ i) 128,←Wv,←rr]
     congr 1
     omega
    have ih:=Ly f (i+1) (acc+n%128*128 ^ i) (n / 128) (by omega) (by omega) h3
    unfold gN
    rw[h2,if_neg (by omega),if_neg (by omega),if_neg (by omega),show(n%128+128)%128=n%128 by omega,ih,pa]
    congr 1<;>omega
theorem Lz {b:List Nat} {p:Nat} : ∀(f i acc:Nat) (n:Int),i+f=4 → -2147483648≤n*128 ^ i→n*128 ^ i<2147483648→Hd b (p+i) (pS f n) →
  ∃j:Nat,j≤f∧(pS f n).length=j+1 ∧ -(64*128 ^ j:Int)≤n∧n<64*128 ^ j∧gN iY b p (f+1) i acc = .ok (acc+(n%128 ^ (j+1)).toNat*128 ^ i) (7*(i+j+1)) (p+i+j+1)
 |0,i,acc,n,hi,hn,hn',h=>by
  have hi:i=4:=by omega
  subst hi
  unfold pS at h ⊢
  obtain⟨h1,h2,_⟩:=h.cons
  refine⟨0,df _,rfl,by omega,by omega,?_⟩
  unfold gN
  rw[h2,if_neg (by omega),if_neg (by simp[iY];omega),if_pos (by omega),show(n%128).toNat%128=(n%128).toNat by omega]
  rfl
 |f+1,i,acc,n,hi,hn,hn',h=>by
  by_cases h0 : -64≤n∧n≤63
  · have e:pS (f+1) n=[(n%128).toNat]:=by unfold pS;rw[if_pos h0]
    rw[e] at h ⊢
    obtain⟨h1,h2,_⟩:=h.cons
    refine⟨0,Vr _,rfl,by omega,by omega,?_⟩
    unfold gN
    rw[h2,if_neg (by omega),if_neg (by omega),if_pos (by omega),show(n%128).toNat%128=(n%128).toNat by omega]
    rfl
  · have e:pS (f+1) n=((n%128).toNat+128)::pS f (n / 128):=by conv=>lhs;unfold pS;rw[if_neg h0]
    rw[e] at h ⊢
    obtain⟨h1,h2,h3⟩:=h.cons
    have hb : -2147483648≤n / 128*128 ^ (i+1)∧n / 128*128 ^ (i+1)<2147483648:=by
     have hi':i=0∨i=1∨i=2∨i=3:=by omega
     rcases hi' with rfl | rfl | rfl | rfl<;>simp only[VX,WE,WG,Int.mul_one] at hn hn' ⊢ <;> omega
    obtain⟨j,j1,j2,j3,j4,ih⟩:=Lz f (i+1) (acc+(n%128).toNat*128 ^ i) (n / 128) (by omega) hb.1 hb.2 h3
    have hj:j=0∨j=1∨j=2∨j=3:=by omega
    have hm:(n%128 ^ (j+1+1)).toNat=(n%128).toNat+((n / 128)%128 ^ (j+1)).toNat*128:=by
     rcases hj with rfl | rfl | rfl | rfl<;>simp only[VX,WE]<;>omega
    have hd : -(64*128 ^ (j+1):Int)≤n∧n<64*128 ^ (j+1):=by
     rcases hj with rfl | rfl | rfl | rfl<;>simp only[VX,WE,WG] at j3 j4 ⊢ <;> omega
    refine⟨j+1,by omega,by rw[pa,j2],hd.1,hd.2,?_⟩
    have hp:128 ^ (i+1)=128 ^ i*128:=Wu ..
    unfold gN
    rw[h2,if_neg (by omega),if_neg (by omega),if_neg (by omega),show((n%128).toNat+128)%128=(n%128).toNat by omega,ih,hm,rr,hp,Wz (128 ^ i) 128,←Wv]
    congr 1<;>omega
theorem Ni {n:Int} {j:Nat} (hj:j≤4) (h1 : -(64*128 ^ j:Int)≤n) (h2:n<64*128 ^ j) (h3 : -2147483648≤n) (h4:n<2147483648):Ic (n%128 ^ (j+1)).toNat (7*(j+1))=n:=by
 unfold Ic
 have hj':j=0∨j=1∨j=2∨j=3∨j=4:=by omega
 rcases hj' with rfl | rfl | rfl | rfl | rfl<;>simp only[VX,Ww,Wx,Wy,WE,WG,Mz] at h1 h2 ⊢ <;> split<;>omega
theorem n8 {b:List Nat} {p n:Nat} (hn:n<4294967296) (h:Hd b p (pU 4 n)):aA b ⟨p,0,0⟩=(n,⟨p+(pU 4 n).length,0,0⟩):=by
 have k:=Ly 4 0 0 n rfl (by omega) h
 have k:gU b p=_:=k
 unfold aA
 rw[if_neg (by simp),k,if_neg (by simp[GR.e])]
 simp only[GR.bits,GR.next,WA,WB,sa,Nat.add_zero,Nat.mod_eq_of_lt hn]
theorem jC {b:List Nat} {p:Nat} {n:Int} (hn:0≤n∧n<4294967296) (h:Hd b p (pU 4 n.toNat)):aA b ⟨p,0,0⟩=(n.toNat,⟨p+(pU 4 n.toNat).length,0,0⟩):=n8 (by omega) h
theorem KB {b:List Nat} {p:Nat} {n:Int} (hn : -2147483648≤n∧n<2147483648) (h:Hd b p (pS 4 n)):(gS b p).e=0∧CK b p=n∧xL b p=p+(pS 4 n).length:=by
 obtain⟨j,j1,j2,j3,j4,k⟩:=Lz 4 0 0 n rfl (by simpa using hn.1) (by simpa using hn.2) h
 have k:gS b p=_:=k
 unfold CK xL
 rw[k]
 refine⟨rfl,?_,?_⟩
 · rw[if_neg (by simp[GR.e])]
   simp only[GR.bits,GR.many,WA,WB,sa]
   exact Ni j1 j3 j4 hn.1 hn.2
 · rw[if_neg (by simp[GR.e]),j2]
   simp only[GR.next]
   omega
theorem FV {b:List Nat} {p c:Nat} {e:List Nat} (h:Hd b p (c::e)):aR b ⟨p,0,0⟩=(c,⟨p+1,0,0⟩):=by
 obtain⟨h1,h2,_⟩:=h.cons
 unfold aR
 rw[if_neg (by simp),if_neg (by simp;omega),h2]
theorem n9 {b:List Nat} {p c:Nat} {e:List Nat} {ok:Nat→Bool} (hc:ok c=true) (h:Hd b p (c::e)):cO ok b ⟨p,0,0⟩=(c,⟨p+1,0,0⟩):=by
 unfold cO
 rw[FV h,if_pos hc]
theorem zD {b:List Nat} : ∀(tg:List Int) (p:Nat),(∀t∈tg,0≤t∧t<4294967296)→Hd b p (tg.flatMap fun t=>pU 4 t.toNat)→aY b tg.length ⟨p,0,0⟩=(tg,⟨p+(tg.flatMap fun t=>pU 4 t.toNat).length,0,0⟩)
 |[],p,_,_=>rfl
 |t::r,p,ht,h=>by
  simp only[WD] at h ⊢
  obtain⟨h1,h2⟩:=h.app
  have t0:=ht t (.head _)
  have ih:=zD r _ (fun x hx=>ht x (.tail _ hx)) h2
  rw[pa]
  unfold aY
  rw[if_neg (by simp),jC t0 h1,ih,show((t.toNat:Nat):Int)=t by omega,ei,iu]
def A0 (op a b nn:Int) (tg:List Int):List Nat:=
 if op=17 then pU 4 a.toNat++[0]
 else if gh op=true then pU 4 a.toNat
 else if op=14 then pU 4 tg.length++(tg.flatMap (fun t=>pU 4 t.toNat)++pU 4 a.toNat)
 else if op=63∨op=64 then[0]
 else if op=65 then pS 4 nn
 else if dG op=true then pU 4 a.toNat++pU 4 b.toNat
 else[]
theorem KC {B:List Nat} {op r:Int} {p:Nat} {e:List Nat} (cR:dx op=true) (hr:r=0∨r=1) (h:Hd B p ((if r=1 then 127 else 64)::e)):ah B op p=(.mk op r 0 0 0 [] [] [],⟨p+1,0,0⟩):=by
 unfold ah
 rw[if_pos cR]
 rcases hr with rfl | rfl
 · rw[n9 (ok:=rL) (by decide) h];rfl
 · rw[n9 (ok:=rL) (by decide) h];rfl
theorem IE {B:List Nat} {op r a b nn:Int} {tg:List Int} {ll le:List Ins} {p:Nat} (hx:fK (.mk op r a b nn tg ll le)=true) (wx:AQ (.mk op r a b nn tg ll le)) (cR:dx op=false) (ht:tg.length≤16384) (h:Hd B p (A0 op a b nn tg)) :
  ah B op p=(.mk op r a b nn tg ll le,⟨p+(A0 op a b nn tg).length,0,0⟩):=by
 obtain⟨f0,f1,f2,f3,f4,f5,f6,f7⟩:=tr hx
 have o1:=Lx f0
 simp only[AQ] at wx
 obtain⟨_,_,wa,wb,wn,⟨_,wt⟩,_⟩:=wx
 have wa:=Nh wa
 have wb:=Nh wb
 have wn:=HV wn
 have wt:=fun t ht=>Nh (wt t ht)
 have ea:((a.toNat:Nat):Int)=a:=by omega
 have eb:((b.toNat:Nat):Int)=b:=by omega
 have n4:op≠4:=fun q=>by rw[dV.2 (by omega)] at cR;cases cR
 obtain⟨q1,q2⟩:=f2 cR
 have q3:=f3 n4
 subst q1 q2 q3
 have KD : ¬dx op=true:=by rw[cR];exact WC
 unfold ah
 unfold A0 at h ⊢
 rw[if_neg KD]
 by_cases fS:op=17
 · subst fS
   have s1:dG 17=false:=rfl
   have e1:=f5 s1
   have e3:=f6 (by decide)
   have e5:=f7 (by decide)
   subst e1 e3 e5
   simp only[if_true] at h ⊢
   obtain⟨k1,k2⟩:=h.app
   rw[jC wa k1,n9 (ok:=xK) (by decide) k2,ea,ei]
   rfl
 simp only[fS,if_false] at h ⊢
 by_cases j6:gh op=true
 · have hop:=lO.1 j6
   have s1:dG op=false:=by cases hs:dG op with | false=>rfl | true=>rw[nW] at hs;omega
   have e1:=f5 s1
   have e3:=f6 (by omega)
   have e5:=f7 (by omega)
   subst e1 e3 e5
   simp only[j6,if_true] at h ⊢
   rw[jC wa h,ea]
 have j6:gh op=false:=by simpa using j6
 simp only[j6,rh,if_false] at h ⊢
 by_cases j7:op=14
 · subst j7
   have s1:dG 14=false:=rfl
   have e1:=f5 s1
   have e3:=f6 (by decide)
   subst e1 e3
   simp only[if_true] at h ⊢
   obtain⟨k1,k2⟩:=h.app
   obtain⟨k2,k3⟩:=k2.app
   have hnt : ¬(16384<tg.length∧(0:Nat)=0):=by omega
   rw[n8 (by omega) k1]
   dsimp only
   rw[if_neg hnt,zD tg _ wt k2]
   dsimp only
   rw[jC wa k3,ea,ei,ei]
   simp only[iu]
 have e5:=f7 j7
 subst e5
 simp only[j7,if_false] at h ⊢
 by_cases h63:op=63∨op=64
 · have s1:dG op=false:=by cases hs:dG op with | false=>rfl | true=>rw[nW] at hs;omega
   have e1:=f5 s1
   have e3:=f6 (by omega)
   have e7:=f4 s1 j6 j7
   subst e1 e3 e7
   simp only[h63,if_true] at h ⊢
   rw[n9 (ok:=xK) (by decide) h]
   rfl
 simp only[h63,if_false] at h ⊢
 by_cases qg:op=65
 · subst qg
   have s1:dG 65=false:=rfl
   have e1:=f5 s1
   have e7:=f4 s1 j6 j7
   subst e1 e7
   simp only[if_true] at h ⊢
   obtain⟨k1,k2,k3⟩:=KB wn h
   rw[k1,k2,k3]
   rfl
 have e3:=f6 qg
 subst e3
 simp only[qg,if_false] at h ⊢
 by_cases hst:dG op=true
 · simp only[hst,if_true] at h ⊢
   obtain⟨k1,k2⟩:=h.app
   rw[jC wa k1]
   dsimp only
   rw[jC wb k2,ea,eb,ei,iu]
 · have hst:dG op=false:=by simpa using hst
   simp only[hst,rh,if_false] at h ⊢
   have e1:=f5 hst
   have e7:=f4 hst j6 j7
   subst e1 e7
   rfl
theorem EL {b:List Nat} {m:Nat} {f:Fr} {fs:List Fr} {t:Fr} {p many:Nat} {e:List Nat} (h:Hd b p (11::e)):cG b (m+1) (f::fs) t p many=cG b m fs {f with l:=f.l++[t.done]} (p+1) many:=by
 obtain⟨h1,h2,_⟩:=h.cons
 conv=>lhs;unfold cG
 rw[if_neg (by omega),h2,if_pos rfl]
theorem KE {b:List Nat} {m:Nat} {t:Fr} {p many:Nat} {e:List Nat} (h:Hd b p (11::e)):cG b (m+1) [] t p many=(some t.l,⟨p+1,0,0⟩):=by
 obtain⟨h1,h2,_⟩:=h.cons
 conv=>lhs;unfold cG
 rw[if_neg (by omega),h2,if_pos rfl]
theorem IF {b:List Nat} {m:Nat} {fs:List Fr} {t:Fr} {p many:Nat} {e:List Nat} (h:Hd b p (5::e)) (hf:fs≠[]) (h4:t.op=4) (ho:t.aB=false):cG b (m+1) fs t p many=cG b m fs {t with il:=t.l,l:=[],aB:=true} (p+1) many:=by
 obtain⟨h1,h2,_⟩:=h.cons
 conv=>lhs;unfold cG
 rw[if_neg (by omega),h2,if_neg (by decide),if_pos ⟨rfl,hf,h4,ho⟩]
theorem IG {b:List Nat} {m:Nat} {fs:List Fr} {t:Fr} {p many q:Nat} {c:Nat} {r:Int} {e:List Nat} (h:Hd b p (c::e)) (hn:nm c≠⟨#[]⟩) (h5:c≠5) (h11:c≠11) (hd:fs.length+1≤900) (hm:many<262144) (cR:dx c=true)
  (hr:ah b c (p+1)=(.mk c r 0 0 0 [] [] [],⟨q,0,0⟩)):cG b (m+1) fs t p many=cG b m (t::fs) ⟨c,r,[],[],false⟩ q (many+1):=by
 obtain⟨h1,h2,_⟩:=h.cons
 conv=>lhs;unfold cG
 rw[if_neg (by omega),h2,if_neg h11,if_neg (fun k=>h5 k.1),if_neg hn,if_neg (by omega),hr,if_neg (by simp),if_pos cR]
 rfl
theorem KF {b:List Nat} {m:Nat} {fs:List Fr} {t:Fr} {p many q:Nat} {c:Nat} {x:Ins} {e:List Nat} (h:Hd b p (c::e)) (hn:nm c≠⟨#[]⟩) (h5:c≠5) (h11:c≠11) (hd:fs.length+1≤900) (hm:many<262144) (cR:dx c=false)
  (hr:ah b c (p+1)=(x,⟨q,0,0⟩)):cG b (m+1) fs t p many=cG b m fs {t with l:=t.l++[x]} q (many+1):=by
 obtain⟨h1,h2,_⟩:=h.cons
 conv=>lhs;unfold cG
 rw[if_neg (by omega),h2,if_neg h11,if_neg (fun k=>h5 k.1),if_neg hn,if_neg (by omega),hr,if_neg (by simp),if_neg (by rw[cR];exact WC)]
theorem uX {op r a b nn:Int} {tg:List Int} {ll le:List Ins} (h:dx op=false):gK (.mk op r a b nn tg ll le)=(op%256).toNat::A0 op a b nn tg:=by
 rw[gK,if_neg (by rw[h];exact WC)]
 rfl
set_option maxHeartbeats 2000000 in
theorem lQ {B:List Nat} : ∀(N:Nat) (l:List Ins) (fs:List Fr) (t:Fr) (p many:Nat),dL l≤N→qi fK l=true→tA l→eV l≤16384→dN (fs.length+1) l≤900→many+bU l≤262144→Hd B p (fc l) →
  ∃k,k≤(fc l).length ∧ ∀m,cG B (m+k) fs t p many=cG B m fs {t with l:=t.l++l} (p+(fc l).length) (many+bU l)
 |N,[],fs,t,p,many,_,_,_,_,_,_,_=>⟨0,Vr _,fun m=>by obtain⟨o,r,il,l,aB⟩:=t;simp[fc,bU]⟩
 |0,.mk op r a b nn tg ll le::l,_,_,_,_,h0,_,_,_,_,_,_=>by simp only[dL,jh] at h0;omega
 |N+1,.mk op r a b nn tg ll le::l,fs,t,p,many,h0,hk,hw,ht,hd,hm,h=>by
  simp only[dL,jh] at h0
  simp only[qi,F6,dv] at hk
  simp only[eV,wT] at ht
  simp only[dN,rm] at hd
  simp only[bU,oO] at hm ⊢
  have wx:=hw.1
  have F5:=hw.2
  have f:=tr hk.1.1
  have o:=Lx f.1
  have hnm:nm op≠⟨#[]⟩:=fun e=>f.1 (by rw[e])
  have ec:(((op%256).toNat:Nat):Int)=op:=by omega
  by_cases cR:dx op=true
  · have hop:=dV.1 cR
    have s1:dG op=false:=by cases hs:dG op with | false=>rfl | true=>rw[nW] at hs;omega
    have s2:gh op=false:=by cases hs:gh op with | false=>rfl | true=>rw[lO] at hs;omega
    obtain⟨f0,f1,f2,f3,f4,f5,f6,f7⟩:=f
    have e1:=f4 s1 s2 (by omega)
    have e2:=f5 s1
    have e3:=f6 (by omega)
    have e4:=f7 (by omega)
    subst e1 e2 e3 e4
    simp only[AQ] at wx
    have hb:fc (.mk op r 0 0 0 [] ll le::l)=(op%256).toNat::(if r=1 then 127 else 64)::(fc ll++(((if le.length=0 then[] else 5::fc le)++[11])++fc l)):=by
     simp only[fc,gK,cR,if_true,Vw,qf]
    rw[hb] at h ⊢
    obtain⟨_,_,h2⟩:=h.cons
    obtain⟨_,_,h3⟩:=h2.cons
    obtain⟨g1,g2⟩:=h3.app
    obtain⟨g2,g3⟩:=g2.app
    have vM:=KC (B:=B) (op:=(((op%256).toNat:Nat):Int)) (r:=r) (p:=p+1) (by rw[ec];exact cR) f1 h2
    have step : ∀m,cG B (m+1) fs t p many=cG B m (t::fs) ⟨op,r,[],[],false⟩ (p+1+1) (many+1):=fun m=>by
     have:=IG (m:=m) (fs:=fs) (t:=t) (many:=many) h (by rw[ec];exact hnm) (by omega) (by omega) (by omega) (by omega) (by rw[ec];exact cR) vM
     rwa [ec] at this
    obtain⟨k1,l1,r1⟩:=lQ N ll (t::fs) ⟨op,r,[],[],false⟩ (p+1+1) (many+1) (by omega) hk.1.2.1 wx.2.2.2.2.2.2.1.2 (by omega) (by rw[pa];omega) (by omega) g1
    by_cases hle:le.length=0
    · have hle:le=[]:=pB.1 hle
      subst hle
      simp only[VS,if_true,Vl] at g2 g3 ⊢
      obtain⟨k3,l3,r3⟩:=lQ N l fs {t with l:=t.l++[.mk op r 0 0 0 [] ll []]} (p+1+1+(fc ll).length+1) (many+1+bU ll) (by omega) hk.2 F5 (by omega) (by omega) (by simp only[bU] at hm;omega) g3
      refine⟨k3+1+k1+1,by simp only[pa,ei,VS];omega,fun m=> ?_⟩
      rw[show m+(k3+1+k1+1)=m+k3+1+k1+1 by omega,step,r1,EL g2]
      simp only[Fr.done,Vl,rh,if_false]
      rw[r3]
      congr 1
      · simp
      · simp only[pa,ei,VS];omega
      · simp only[bU];omega
    · have h4:op=4:=WH fun q=>hle (by rw[f3 q];rfl)
      subst h4
      rw[if_neg hle] at g2 g3 ⊢
      have g2:Hd B (p+1+1+(fc ll).length) (5::(fc le++[11])):=g2
      obtain⟨_,_,g4⟩:=g2.cons
      obtain⟨g4,g5⟩:=g4.app
      obtain⟨k2,l2,r2⟩:=lQ N le (t::fs) ⟨4,r,ll,[],true⟩ (p+1+1+(fc ll).length+1) (many+1+bU ll) (by omega) hk.1.2.2 wx.2.2.2.2.2.2.2.2 (by omega) (by rw[pa];omega) (by omega) g4
      have g3:Hd B (p+1+1+(fc ll).length+1+(fc le).length+1) (fc l):=by
       have e:p+1+1+(fc ll).length+1+(fc le).length+1=p+1+1+(fc ll).length+(5::fc le++[11]).length:=by simp only[pa,ei,VS];omega
       rw[e];exact g3
      obtain⟨k3,l3,r3⟩:=lQ N l fs {t with l:=t.l++[.mk 4 r 0 0 0 [] ll le]} (p+1+1+(fc ll).length+1+(fc le).length+1) (many+1+bU ll+bU le) (by omega) hk.2 F5 (by omega) (by omega) (by omega) g3
      refine⟨k3+1+k2+1+k1+1,by simp only[pa,ei,VS];omega,fun m=> ?_⟩
      rw[show m+(k3+1+k2+1+k1+1)=m+k3+1+k2+1+k1+1 by omega,step,r1,IF g2 (by simp) rfl rfl]
      simp only[Vl]
      rw[r2,EL g5]
      simp only[Fr.done,Vl,if_true]
      rw[r3]
      congr 1
      · simp
      · simp only[pa,ei,VS];omega
      · omega
  · have cR:dx op=false:=by simpa using cR
    have hb:fc (.mk op r a b nn tg ll le::l)=(op%256).toNat::(A0 op a b nn tg++fc l):=by
     rw[fc,uX cR];rfl
    rw[hb] at h ⊢
    obtain⟨_,_,h2⟩:=h.cons
    obtain⟨g1,g2⟩:=h2.app
    have vM:=IE (B:=B) (p:=p+1) hk.1.1 wx cR (by omega) g1
    have hx1:=f.2.2.1 cR
    have Qf:=f.2.2.2.1 (fun q=>by rw[dV.2 (by omega)] at cR;cases cR)
    have step : ∀m,cG B (m+1) fs t p many=cG B m fs {t with l:=t.l++[.mk op r a b nn tg ll le]} (p+1+(A0 op a b nn tg).length) (many+1):=fun m=>by
     exact KF (m:=m) (fs:=fs) (t:=t) (many:=many) h (by rw[ec];exact hnm) (by omega) (by omega) (by omega) (by omega) (by rw[ec];exact cR) (by rw[ec];exact vM)
    have n0:bU ll+bU le=0:=by rw[hx1.2,Qf];rfl
    obtain⟨k3,l3,r3⟩:=lQ N l fs {t with l:=t.l++[.mk op r a b nn tg ll le]} (p+1+(A0 op a b nn tg).length) (many+1) (by omega) hk.2 F5 (by omega) (by omega) (by omega) g2
    refine⟨k3+1,by simp only[pa,ei];omega,fun m=> ?_⟩
    rw[show m+(k3+1)=m+k3+1 by omega,step,r3]
    congr 1
    · simp
    · simp only[pa,ei];omega
    · omega
theorem Cz {l:List Ins} (h:eG fK l=0):qi fK l=true∧bU l≤262144∧eV l≤16384∧dN 1 l≤900:=by
 unfold eG at h
 split at h
 · cases h
 · split at h
   · cases h
   · rename_i h1 h2
     exact⟨by simpa using h1,by omega,by omega,by omega⟩
theorem KG {l:List Ins} {B:List Nat} {p:Nat} (hc:eG fK l=0) (hw:tA l) (h:Hd B p (fc l++[11])):ID B p=(some l,⟨p+(fc l).length+1,0,0⟩):=by
 obtain⟨q1,q2,q3,q4⟩:=Cz hc
 obtain⟨h1,h2⟩:=h.app
 obtain⟨k,k1,k2⟩:=lQ (B:=B) (dL l) l [] ⟨0,0,[],[],false⟩ p 0 (df _) q1 hw q3 q4 (by omega) h1
 have hl:=h2.cons.1
 unfold ID
 rw[show B.length+1=(B.length-k)+1+k by omega,k2,KE h2]
 rfl
theorem zG {B:List Nat} {n i:Nat} (h:i<n):(B.take n).getD i 0=B.getD i 0:=by
 rw[dt,dt,List.getElem?_take_of_lt h]
theorem EM {last:Nat→Bool} {b:List Nat} {p f i acc:Nat} (h:p+i<b.length):gN last b p (f+1) i acc=if i=4∧(128≤b.getD (p+i) 0∨last (b.getD (p+i) 0)=false) then .eJ 4 (p+i)
  else if b.getD (p+i) 0<128 then .ok (acc+b.getD (p+i) 0%128*128 ^ i) (7*(i+1)) (p+i+1)
  else gN last b p f (i+1) (acc+b.getD (p+i) 0%128*128 ^ i):=by
 conv=>lhs;unfold gN
 rw[if_neg (by omega)]
theorem DM {last:Nat→Bool} {B:List Nat} {n p:Nat} (hn:n≤B.length) : ∀(f i acc:Nat),p+i≤n→(gN last B p f i acc).e=0 →
  ((gN last B p f i acc).next≤n→gN last (B.take n) p f i acc=gN last B p f i acc)∧(n<(gN last B p f i acc).next→gN last (B.take n) p f i acc = .eJ 4 n)
 |0,i,acc,_,h=>by simp[gN,GR.e] at h
 |f+1,i,acc,hp,h=>by
  have hl:(B.take n).length=n:=by rw[fl];omega
  have hx:=kP (p:=p) (last:=last) (b:=B) (f+1) i acc h
  by_cases hlt:p+i<n
  · rw[EM (b:=B) (by omega)] at h ⊢
    rw[EM (b:=B.take n) (by omega),zG hlt]
    by_cases h1:i=4∧(128≤B.getD (p+i) 0∨last (B.getD (p+i) 0)=false)
    · rw[if_pos h1] at h;simp[GR.e] at h
    · rw[if_neg h1] at h ⊢
      rw[if_neg h1]
      by_cases h2:B.getD (p+i) 0<128
      · rw[if_pos h2] at h ⊢
        rw[if_pos h2]
        simp only[GR.next]
        exact⟨fun _=>True.intro,fun q=>by omega⟩
      · rw[if_neg h2] at h ⊢
        rw[if_neg h2]
        exact DM hn f (i+1) _ (by omega) h
  · refine⟨fun q=>by omega,fun _=> ?_⟩
    conv=>lhs;unfold gN
    rw[hl,if_pos (by omega)]
structure EN {α:Type} (B:List Nat) (n:Nat) (f:List Nat→RS→α×RS):Prop where
 eJ : ∀b s,s.e≠0→(f b s).2=s
 mono : ∀s,(f B s).2.e=0→s.p≤(f B s).2.p
 cut : ∀s,s.e=0→s.p≤n→(f B s).2.e=0→((f B s).2.p≤n→f (B.take n) s=f B s)∧(n<(f B s).2.p→(f (B.take n) s).2.e=4∧(f (B.take n) s).2.fa=n)
theorem EN.back {α:Type} {B:List Nat} {n:Nat} {f:List Nat→RS→α×RS} (h:EN B n f) {s:RS} (k:(f B s).2.e=0):s.e=0:=WH fun q=>q (by rw[h.eJ B s q] at k;exact k)
def j9 {α β:Type} (f:List Nat→RS→α×RS) (g:α→List Nat→RS→β×RS):List Nat→RS→(α×β)×RS:=fun b s=>(((f b s).1,(g (f b s).1 b (f b s).2).1),(g (f b s).1 b (f b s).2).2)
theorem EN.bind {α β:Type} {B:List Nat} {n:Nat} {f:List Nat→RS→α×RS} {g:α→List Nat→RS→β×RS} (hf:EN B n f) (hg : ∀a,EN B n (g a)):EN B n (j9 f g) where
 eJ b s h:=by
  have h1:=hf.eJ b s h
  show(g (f b s).1 b (f b s).2).2=s
  rw[h1]
  exact(hg _).eJ b s h
 mono s h:=by
  have h:(g (f B s).1 B (f B s).2).2.e=0:=h
  have h1:=hf.mono s ((hg _).back h)
  have h2:=(hg _).mono _ h
  exact ch h1 h2
 cut s h0 hp h:=by
  have h:(g (f B s).1 B (f B s).2).2.e=0:=h
  have e1:=(hg _).back h
  have m2:=(hg _).mono _ h
  obtain⟨c1,c2⟩:=hf.cut s h0 hp e1
  by_cases q:(f B s).2.p≤n
  · have c1:=c1 q
    obtain⟨d1,d2⟩:=(hg _).cut _ e1 q h
    unfold j9
    rw[c1]
    exact⟨fun k=>by rw[d1 k],d2⟩
  · have c2:=c2 (by omega)
    refine⟨fun k=> ?_,fun _=> ?_⟩
    · have k:(g (f B s).1 B (f B s).2).2.p≤n:=k
      omega
    · show(g (f (B.take n) s).1 (B.take n) (f (B.take n) s).2).2.e=4∧_
      have:=(hg (f (B.take n) s).1).eJ (B.take n) (f (B.take n) s).2 (by omega)
      show(g (f (B.take n) s).1 (B.take n) (f (B.take n) s).2).2.e=4∧(g (f (B.take n) s).1 (B.take n) (f (B.take n) s).2).2.fa=n
      rw[this]
      exact c2
theorem EO {α:Type} {B:List Nat} {n:Nat} (a:α):EN B n fun _ s=>(a,s) where
 eJ _ _ _:=rfl
 mono _ _:=df _
 cut s _ hp _:=⟨fun _=>rfl,fun k=>by have k:n<s.p:=k;omega⟩
theorem ig {B:List Nat} {n:Nat} (hn:n≤B.length):EN B n aA where
 eJ b s h:=by unfold aA;rw[if_pos h]
 mono s h:=by
  unfold aA at h ⊢
  by_cases h1:s.e≠0
  · rw[if_pos h1];exact df _
  · rw[if_neg h1] at h ⊢
    by_cases h2:(gU B s.p).e≠0
    · rw[if_pos h2] at h;exact absurd h h2
    · rw[if_neg h2]
      have h3:(gU B s.p).e=0:=by simpa using h2
      have:=kP (p:=s.p) (last:=fU) (b:=B) 5 0 0 h3
      have:s.p+0+1≤(gU B s.p).next:=this.2
      show s.p≤(gU B s.p).next
      omega
 cut s h0 hp h:=by
  have n0 : ¬s.e≠0:=fun q=>q h0
  unfold aA at h ⊢
  simp only[if_neg n0] at h ⊢
  by_cases h2:(gU B s.p).e≠0
  · rw[if_pos h2] at h;exact absurd h h2
  · rw[if_neg h2] at h ⊢
    have h2:(gU B s.p).e=0:=by simpa using h2
    obtain⟨c1,c2⟩:=DM (last:=fU) (p:=s.p) hn 5 0 0 hp h2
    refine⟨fun k=> ?_,fun k=> ?_⟩
    · have e:gU (B.take n) s.p=gU B s.p:=c1 k
      rw[e,if_neg (fun q=>q h2)]
    · have e:gU (B.take n) s.p = .eJ 4 n:=c2 k
      rw[e]
      exact⟨rfl,rfl⟩
def rS (b:List Nat) (s:RS):Int×RS:=if s.e≠0 then(0,s) else if(gS b s.p).e≠0 then(0,⟨s.p,(gS b s.p).e,(gS b s.p).fa⟩) else(CK b s.p,⟨xL b s.p,0,0⟩)
theorem Nj {B:List Nat} {n:Nat} (hn:n≤B.length):EN B n rS where
 eJ b s h:=by unfold rS;rw[if_pos h]
 mono s h:=by
  unfold rS at h ⊢
  by_cases h1:s.e≠0
  · rw[if_pos h1];exact df _
  · rw[if_neg h1] at h ⊢
    by_cases h2:(gS B s.p).e≠0
    · rw[if_pos h2] at h;exact absurd h h2
    · rw[if_neg h2]
      have h3:(gS B s.p).e=0:=by simpa using h2
      have:=kP (p:=s.p) (last:=iY) (b:=B) 5 0 0 h3
      have:s.p+0+1≤(gS B s.p).next:=this.2
      show s.p≤xL B s.p
      rw[show xL B s.p=(gS B s.p).next from if_neg h2]
      omega
 cut s h0 hp h:=by
  have n0 : ¬s.e≠0:=fun q=>q h0
  unfold rS at h ⊢
  simp only[if_neg n0] at h ⊢
  by_cases h2:(gS B s.p).e≠0
  · rw[if_pos h2] at h;exact absurd h h2
  · rw[if_neg h2] at h ⊢
    have h3:(gS B s.p).e=0:=by simpa using h2
    obtain⟨c1,c2⟩:=DM (last:=iY) (p:=s.p) hn 5 0 0 hp h3
    have en:xL B s.p=(gS B s.p).next:=by unfold xL;rw[if_neg h2]
    refine⟨fun k=> ?_,fun k=> ?_⟩
    · have k:xL B s.p≤n:=k
      have e:gS (B.take n) s.p=gS B s.p:=c1 (by rw[en] at k;exact k)
      rw[e,if_neg h2]
      unfold CK xL
      rw[e]
    · have k:n<xL B s.p:=k
      have e:gS (B.take n) s.p = .eJ 4 n:=c2 (by rw[en] at k;exact k)
      rw[e]
      exact⟨rfl,rfl⟩
theorem oM {B:List Nat} {n:Nat} (hn:n≤B.length):EN B n aR where
 eJ b s h:=by unfold aR;rw[if_pos h]
 mono s h:=by
  unfold aR at h ⊢
  by_cases h1:s.e≠0
  · rw[if_pos h1];exact df _
  · rw[if_neg h1] at h ⊢
    by_cases h2:B.length≤s.p
    · rw[if_pos h2] at h;simp at h
    · rw[if_neg h2]
      exact Nat.le_succ _
 cut s h0 hp h:=by
  have hl:(B.take n).length=n:=by rw[fl];omega
  have n0 : ¬s.e≠0:=fun q=>q h0
  unfold aR at h ⊢
  simp only[if_neg n0,hl] at h ⊢
  by_cases h2:B.length≤s.p
  · rw[if_pos h2] at h;simp at h
  · rw[if_neg h2]
    refine⟨fun k=> ?_,fun k=> ?_⟩
    · have k:s.p+1≤n:=k
      rw[if_neg (by omega),zG (by omega)]
    · have k:n<s.p+1:=k
      rw[if_pos (by omega)]
      exact⟨rfl,rfl⟩
theorem ke {B:List Nat} {n:Nat} {ok:Nat→Bool} (hn:n≤B.length):EN B n (cO ok) where
 eJ b s h:=by
  unfold cO
  have:=(oM (B:=B) hn).eJ b s h
  split
  · exact this
  · rw[this,if_neg h]
 mono s h:=by
  unfold cO at h ⊢
  split at h
  · rename_i h1
    rw[if_pos h1]
    exact(oM hn).mono s h
  · split at h
    · simp at h
    · rename_i h1 h2;exact absurd h h2
 cut s h0 hp h:=by
  by_cases h1:ok (aR B s).1=true
  · have eB:cO ok B s=aR B s:=by unfold cO;rw[if_pos h1]
    rw[eB] at h ⊢
    obtain⟨c1,c2⟩:=(oM hn).cut s h0 hp h
    refine⟨fun k=> ?_,fun k=> ?_⟩
    · have c1:=c1 k
      unfold cO
      rw[c1,if_pos h1]
    · have c2:=c2 k
      unfold cO
      split
      · exact c2
      · rw[if_neg (by omega)];exact c2
  · unfold cO at h
    rw[if_neg h1] at h
    split at h
    · simp at h
    · rename_i h2;exact absurd h h2
theorem lR {B:List Nat} {n:Nat} (hn:n≤B.length) : ∀f:Nat,EN B n (fun b s=>aY b f s)
 |0=>EO _
 |f+1=>by
  have ih:=(ig hn).bind (fun _:Nat=>lR hn f)
  have e : ∀b s,s.e=0→aY b (f+1) s=(((j9 aA (fun _ b s=>aY b f s) b s).1.1:Int)::(j9 aA (fun _ b s=>aY b f s) b s).1.2,(j9 aA (fun _ b s=>aY b f s) b s).2):=fun b s h=>by
   conv=>lhs;unfold aY
   rw[if_neg (fun q=>q h)]
   rfl
  have e0 : ∀b s,s.e≠0→aY b (f+1) s=([],s):=fun b s h=>by
   conv=>lhs;unfold aY
   rw[if_pos h]
  refine⟨fun b s h=>by show(aY b (f+1) s).2=s;rw[e0 b s h],fun s h=> ?_,fun s h0 hp h=> ?_⟩
  · by_cases h0:s.e=0
    · have h:(aY B (f+1) s).2.e=0:=h
      show s.p≤(aY B (f+1) s).2.p
      rw[e B s h0] at h ⊢
      exact ih.mono s h
    · show s.p≤(aY B (f+1) s).2.p
      rw[e0 B s h0]
      exact df _
  · have h:(aY B (f+1) s).2.e=0:=h
    rw[e B s h0] at h
    show((aY B (f+1) s).2.p≤n→aY (B.take n) (f+1) s=aY B (f+1) s)∧(n<(aY B (f+1) s).2.p→(aY (B.take n) (f+1) s).2.e=4∧(aY (B.take n) (f+1) s).2.fa=n)
    rw[e B s h0,e (B.take n) s h0]
    obtain⟨c1,c2⟩:=ih.cut s h0 hp h
    exact⟨fun k=>by rw[c1 k],c2⟩
def A1 (p v:Nat):List Nat→RS→Unit×RS:=fun _ s=>((),if 16384<v∧s.e=0 then⟨s.p,141,p⟩ else s)
theorem II {B:List Nat} {n:Nat} (p v:Nat):EN B n (A1 p v) where
 eJ b s h:=if_neg fun q=>h q.2
 mono s h:=by
  unfold A1 at h ⊢
  simp only at h ⊢
  split at h
  · simp at h
  · rename_i q;rw[if_neg q];exact df _
 cut s h0 hp h:=by
  refine⟨fun _=>rfl,fun k=> ?_⟩
  unfold A1 at h k
  simp only at h k
  split at h
  · simp at h
  · rename_i q;rw[if_neg q] at k;omega
theorem IJ {B:List Nat} {n p:Nat} (op:Int) (hn:n≤B.length) (hp:p≤n) (h:(ah B op p).2.e=0) :
  p≤(ah B op p).2.p∧((ah B op p).2.p≤n→ah (B.take n) op p=ah B op p)∧(n<(ah B op p).2.p→(ah (B.take n) op p).2.e=4∧(ah (B.take n) op p).2.fa=n):=by
 have key : ∀{α:Type} (f:List Nat→RS→α×RS) (F:α→Ins),EN B n f→(∀b,ah b op p=(F (f b ⟨p,0,0⟩).1,(f b ⟨p,0,0⟩).2)) →
   p≤(ah B op p).2.p∧((ah B op p).2.p≤n→ah (B.take n) op p=ah B op p)∧(n<(ah B op p).2.p→(ah (B.take n) op p).2.e=4∧(ah (B.take n) op p).2.fa=n):=fun f F hf e=>by
  rw[e B,e (B.take n)]
  rw[e B] at h
  obtain⟨c1,c2⟩:=hf.cut ⟨p,0,0⟩ rfl hp h
  exact⟨hf.mono ⟨p,0,0⟩ h,fun k=>by rw[c1 k],c2⟩
 by_cases cR:dx op=true
 · exact key _ (fun v=> .mk op (if v=127 then 1 else 0) 0 0 0 [] [] []) (ke (ok:=rL) hn) fun b=>by unfold ah;rw[if_pos cR]
 by_cases fS:op=17
 · exact key _ (fun v=> .mk op 0 v.1 0 0 [] [] []) ((ig hn).bind fun _=>ke (ok:=xK) hn) fun b=>by unfold ah;rw[if_neg cR,if_pos fS];rfl
 by_cases j6:gh op=true
 · exact key aA (fun v=> .mk op 0 v 0 0 [] [] []) (ig hn) fun b=>by unfold ah;rw[if_neg cR,if_neg fS,if_pos j6]
 by_cases j7:op=14
 · exact key _ (fun v=> .mk op 0 v.2.2.2 0 0 v.2.2.1 [] []) ((ig hn).bind fun v=>(II p v).bind fun _=>(lR hn v).bind fun _=>ig hn) fun b=>by unfold ah;rw[if_neg cR,if_neg fS,if_neg j6,if_pos j7];rfl
 by_cases h63:op=63∨op=64
 · exact key _ (fun _=> .mk op 0 0 0 0 [] [] []) (ke (ok:=xK) hn) fun b=>by unfold ah;rw[if_neg cR,if_neg fS,if_neg j6,if_neg j7,if_pos h63]
 by_cases qg:op=65
 · exact key _ (fun v=> .mk op 0 0 0 v [] [] []) (Nj hn) fun b=>by
    unfold ah rS
    rw[if_neg cR,if_neg fS,if_neg j6,if_neg j7,if_neg h63,if_pos qg]
    by_cases q:(gS b p).e≠0
    · rw[if_pos q,if_neg (fun k=>k rfl),if_pos q]
    · rw[if_neg q,if_neg (fun k=>k rfl),if_neg q]
 by_cases hst:dG op=true
 · exact key _ (fun v=> .mk op 0 v.1 v.2 0 [] [] []) ((ig hn).bind fun _=>ig hn) fun b=>by unfold ah;rw[if_neg cR,if_neg fS,if_neg j6,if_neg j7,if_neg h63,if_neg qg,if_pos hst];rfl
 · exact key _ (fun _=> .mk op 0 0 0 0 [] [] []) (EO ()) fun b=>by unfold ah;rw[if_neg cR,if_neg fS,if_neg j6,if_neg j7,if_neg h63,if_neg qg,if_neg hst]
def oa (c:Nat) (x:Ins×RS) (go:List Fr→Fr→Nat→Nat→Option (List Ins)×RS) (fs:List Fr) (t:Fr) (p many:Nat):Option (List Ins)×RS:=
 if c=11 then match fs with
  |[]=>(some t.l,⟨p+1,0,0⟩)
  |f::fs'=>go fs' {f with l:=f.l++[t.done]} (p+1) many
 else if c=5∧fs≠[]∧t.op=4∧t.aB=false then go fs {t with il:=t.l,l:=[],aB:=true} (p+1) many
 else if nm c=⟨#[]⟩ then(none,⟨p+1,160,p⟩)
 else if 900<fs.length+1∨262144≤many then(none,⟨p+1,141,p⟩)
 else if x.2.e≠0 then(none,x.2)
 else if dx c=true then go (t::fs) ⟨c,x.1.results,[],[],false⟩ x.2.p (many+1)
 else go fs {t with l:=t.l++[x.1]} x.2.p (many+1)
theorem xz {b:List Nat} {m:Nat} {fs:List Fr} {t:Fr} {p many:Nat} (h:p<b.length):cG b (m+1) fs t p many=oa (b.getD p 0) (ah b (b.getD p 0) (p+1)) (cG b m) fs t p many:=by
 conv=>lhs;unfold cG
 rw[if_neg (by omega)]
 rfl
theorem IK : ∀(f k n:Nat),n<128 ^ (k+1)→(pU f n).length≤k+1
 |0,k,n,_=>by simp[pU]
 |f+1,k,n,h=>by
  unfold pU
  split
  · simp
  · rename_i h0
    cases k with
    |zero=>simp at h;omega
    |succ k=>
     have hp:128 ^ (k+1+1)=128 ^ (k+1)*128:=Wu ..
     have:=IK f k (n / 128) (by omega)
     simp only[pa]
     omega
theorem LA : ∀(f k:Nat) (n:Int),-(64*128 ^ k:Int)≤n→n<64*128 ^ k→(pS f n).length≤k+1
 |0,k,n,_,_=>by simp[pS]
 |f+1,k,n,h1,h2=>by
  unfold pS
  split
  · simp
  · rename_i h0
    cases k with
    |zero=>simp at h1 h2;omega
    |succ k=>
     have hp:(64*128 ^ (k+1):Int)=64*128 ^ k*128:=by rw[Int.pow_succ,Int.mul_assoc]
     rw[hp] at h1 h2
     have hk:=LA f k (n / 128)
     generalize (64*128 ^ k:Int)=P at h1 h2 hk
     have:=hk (by omega) (by omega)
     simp only[pa]
     omega
theorem A2 {last:Nat→Bool} {b:List Nat} {p:Nat} : ∀(f i acc:Nat),i+f=5→acc<128 ^ i→(gN last b p f i acc).e=0 → ∃j,j<5∧(gN last b p f i acc).many=7*(j+1)∧(gN last b p f i acc).bits<128 ^ (j+1)∧(gN last b p f i acc).next=p+j+1
 |0,i,acc,_,_,h=>by simp[gN,GR.e] at h
 |f+1,i,acc,hi,ha,h=>by
  unfold gN at h ⊢
  split at h
  · simp[GR.e] at h
  · split at h
    · simp[GR.e] at h
    · split at h
      · rename_i h1 h2 h3
        rw[if_neg h1,if_neg h2,if_pos h3]
        exact⟨i,by omega,rfl,sX ha,rfl⟩
      · rename_i h1 h2 h3
        rw[if_neg h1,if_neg h2,if_neg h3]
        exact A2 f (i+1) _ (by omega) (sX ha) h
theorem iq {b:List Nat} {s:RS} (h:(aA b s).2.e=0):(aA b s).1<4294967296∧s.p+(pU 4 (aA b s).1).length≤(aA b s).2.p:=by
 refine⟨uV,?_⟩
 have h0:s.e=0:=(ig (B:=b) (n:=0) (Vr _)).back h
 unfold aA at h ⊢
 rw[if_neg (fun q=>q h0)] at h ⊢
 by_cases h2:(gU b s.p).e≠0
 · rw[if_pos h2] at h;exact absurd h h2
 · rw[if_neg h2]
   have h3:(gU b s.p).e=0:=by simpa using h2
   obtain⟨j,j1,j2,j3,j4⟩:=A2 (last:=fU) (p:=s.p) 5 0 0 rfl (by decide) h3
   have j3:(gU b s.p).bits<128 ^ (j+1):=j3
   have j4:(gU b s.p).next=s.p+j+1:=j4
   have:=IK 4 j ((gU b s.p).bits%4294967296) (Nat.lt_of_le_of_lt (Nat.mod_le _ _) j3)
   show s.p+(pU 4 ((gU b s.p).bits%4294967296)).length≤(gU b s.p).next
   omega
theorem Nk {bits j:Nat} (hj:j<5) (hb:bits<128 ^ (j+1)) : -2147483648≤Ic bits (7*(j+1))∧Ic bits (7*(j+1))<2147483648 ∧ -(64*128 ^ j:Int)≤Ic bits (7*(j+1))∧Ic bits (7*(j+1))<64*128 ^ j:=by
 unfold Ic
 have hj':j=0∨j=1∨j=2∨j=3∨j=4:=by omega
 rcases hj' with rfl | rfl | rfl | rfl | rfl<;>simp only[VX,Ww,Wx,Wy,WE,WG,Mz] at hb ⊢ <;> split<;>omega
theorem KH {b:List Nat} {p:Nat} (h:(gS b p).e=0):(-2147483648≤CK b p∧CK b p<2147483648)∧p+(pS 4 (CK b p)).length≤xL b p:=by
 obtain⟨j,j1,j2,j3,j4⟩:=A2 (last:=iY) (p:=p) 5 0 0 rfl (by decide) h
 have j2:(gS b p).many=7*(j+1):=j2
 have j3:(gS b p).bits<128 ^ (j+1):=j3
 have j4:(gS b p).next=p+j+1:=j4
 have n0 : ¬(gS b p).e≠0:=fun q=>q h
 have e1:CK b p=Ic (gS b p).bits (7*(j+1)):=by unfold CK;rw[if_neg n0,j2]
 have e2:xL b p=p+j+1:=by unfold xL;rw[if_neg n0,j4]
 obtain⟨s1,s2,s3,s4⟩:=Nk j1 j3
 rw[e1,e2]
 have:=LA 4 j _ s3 s4
 exact⟨⟨s1,s2⟩,by omega⟩
theorem byte_back {b:List Nat} {s:RS} (h:(aR b s).2.e=0):(aR b s).2.p=s.p+1:=by
 have h0:s.e=0:=(oM (B:=b) (n:=0) (Vr _)).back h
 unfold aR at h ⊢
 rw[if_neg (fun q=>q h0)] at h ⊢
 by_cases h2:b.length≤s.p
 · rw[if_pos h2] at h;simp at h
 · rw[if_neg h2]
theorem rF {b:List Nat} {s:RS} {ok:Nat→Bool} (h:(cO ok b s).2.e=0):(cO ok b s).2.p=s.p+1∧ok (cO ok b s).1=true:=by
 unfold cO at h ⊢
 by_cases h1:ok (aR b s).1=true
 · rw[if_pos h1] at h ⊢
   exact⟨byte_back h,h1⟩
 · rw[if_neg h1] at h
   by_cases h2:(aR b s).2.e=0
   · simp only[if_pos h2] at h;simp at h
   · simp only[if_neg h2] at h;exact absurd h h2
theorem zH {b:List Nat} : ∀(f:Nat) (s:RS),(aY b f s).2.e=0→(aY b f s).1.length=f∧(∀t∈(aY b f s).1,0≤t∧t<4294967296)∧s.p+((aY b f s).1.flatMap fun t=>pU 4 t.toNat).length≤(aY b f s).2.p
 |0,s,h=>by simp[aY]
 |f+1,s,h=>by
  have h0:s.e=0:=(lR (B:=b) (n:=0) (Vr _) (f+1)).back h
  have e:aY b (f+1) s=(((aA b s).1:Int)::(aY b f (aA b s).2).1,(aY b f (aA b s).2).2):=by rw[aY,if_neg (fun q=>q h0)]
  rw[e] at h ⊢
  have h:(aY b f (aA b s).2).2.e=0:=h
  obtain⟨t1,t2,t3⟩:=zH f _ h
  have h1:(aA b s).2.e=0:=(lR (B:=b) (n:=0) (Vr _) f).back h
  obtain⟨n1,n2⟩:=iq h1
  refine⟨by simp[t1],fun t ht=> ?_,?_⟩
  · rcases List.mem_cons.1 ht with rfl | ht
    · omega
    · exact t2 t ht
  · simp only[WD,ei,V5]
    omega
theorem mL {op a b nn:Int} {tg:List Int} (h0:nm op≠⟨#[]⟩) (h1:dG op=false→gh op=false→op≠14→a=0) (h2:dG op=false→b=0) (h3:op≠65→nn=0) (h4:op≠14→tg=[]):fK (.mk op 0 a b nn tg [] [])=true:=by
 simp only[fK,rz,dv,ky,kx,decide_eq_false_iff_not,decide_eq_true_eq,beq_iff_eq,ri,beq_eq_false_iff_ne,bne_eq_false_iff_eq]
 refine⟨fun e=>h0 ?_,by omega,by omega,.inr ⟨trivial,by simp⟩,.inr (by simp),?_,?_,?_,?_⟩
 · cases hq:nm op with
   |mk d=>rw[hq] at e;congr 1;cases d;simpa using e
 · cases q1:dG op with
   |true=>exact .inl (.inl (.inl rfl))
   |false=>cases q2:gh op with
    |true=>exact .inl (.inl (.inr rfl))
    |false=>exact(WI (op=14)).elim (fun e=> .inl (.inr e)) fun e=> .inr (h1 q1 q2 e)
 · cases q1:dG op with
   |true=>exact .inl rfl
   |false=>exact .inr (h2 q1)
 · exact(WI (op=65)).elim .inl fun e=> .inr (h3 e)
 · exact(WI (op=14)).elim .inl fun e=> .inr (by rw[h4 e];rfl)
theorem IL {op r:Int} {ll le:List Ins} (h0:nm op≠⟨#[]⟩) (cR:dx op=true) (hr:r=0∨r=1) (h4:op≠4→le=[]):fK (.mk op r 0 0 0 [] ll le)=true:=by
 simp only[fK,rz,dv,ky,kx,decide_eq_false_iff_not,decide_eq_true_eq,beq_iff_eq,ri,beq_eq_false_iff_ne,bne_eq_false_iff_eq]
 refine⟨fun e=>h0 ?_,by omega,by omega,.inl cR,?_,.inr trivial,.inr trivial,.inr trivial,.inr rfl⟩
 · cases hq:nm op with
   |mk d=>rw[hq] at e;congr 1;cases d;simpa using e
 · exact(WI (op=4)).elim .inl fun e=> .inr (by rw[h4 e];simp)
theorem IM {a:Int} (h:0≤a∧a<4294967296):(Lit.int .u32 a).wf=true:=by
 have e1:VO.max=4294967295:=by decide
 have e2:VO.min=0:=by decide
 have:VO.min≤a∧a≤VO.max:=⟨by omega,by omega⟩
 simpa[Lit.wf] using this
theorem PU {a:Int} (h : -2147483648≤a∧a<2147483648):(Lit.int .i32 a).wf=true:=by
 have e1:V9.max=2147483647:=by decide
 have e2:V9.min = -2147483648:=by decide
 have:V9.min≤a∧a≤V9.max:=⟨by omega,by omega⟩
 simpa[Lit.wf] using this
theorem SS {c:Nat} (h:c<256):(Lit.int .i64 (c:Int)).wf=true:=by
 have e1:vj.max=9223372036854775807:=by decide
 have e2:vj.min = -9223372036854775808:=by decide
 have:vj.min≤(c:Int)∧(c:Int)≤vj.max:=⟨by omega,by omega⟩
 simpa[Lit.wf] using this
theorem max_le {n:Nat} (h:n≤1000000000):n≤maxLen:=ch h (by decide)
theorem FW {b:List Nat} {c p:Nat} (hc:nm c≠⟨#[]⟩) (Kz:c<256) (cR:dx c=false) (h:(ah b c p).2.e=0) :
  ∃(a bb nn:Int) (tg:List Int),(ah b c p).1 = .mk c 0 a bb nn tg [] []∧fK (.mk c 0 a bb nn tg [] [])=true∧AQ (.mk c 0 a bb nn tg [] [])∧tg.length≤16384∧p+(A0 c a bb nn tg).length≤(ah b c p).2.p:=by
 have wf : ∀{a bb nn:Int} {tg:List Int},(0≤a∧a<4294967296)→(0≤bb∧bb<4294967296)→(-2147483648≤nn∧nn<2147483648)→tg.length≤16384→(∀t∈tg,0≤t∧t<4294967296)→AQ (.mk c 0 a bb nn tg [] []):=fun ha hb hn ht hw=>by
  simp only[AQ]
  exact⟨SS Kz,by decide,IM ha,IM hb,PU hn,⟨max_le (by omega),fun t q=>IM (hw t q)⟩,⟨Vr _,trivial⟩,Vr _,trivial⟩
 have KD : ¬dx (c:Int)=true:=by rw[cR];exact WC
 have KI:(0:Int)≤0∧(0:Int)<4294967296:=by decide
 have z31:(-2147483648:Int)≤0∧(0:Int)<2147483648:=by decide
 have nb : ∀{s:RS},(aA b s).2.e=0→s.e=0:=fun q=>(ig (B:=b) (n:=0) (Vr _)).back q
 have tb : ∀{ok:Nat→Bool} {s:RS},(cO ok b s).2.e=0→s.e=0:=fun q=>(ke (B:=b) (n:=0) (Vr _)).back q
 by_cases fS:(c:Int)=17
 · have e:ah b c p=(.mk c 0 (aA b ⟨p,0,0⟩).1 0 0 [] [] [],(cO xK b (aA b ⟨p,0,0⟩).2).2):=by unfold ah;rw[if_neg KD,if_pos fS]
   rw[e] at h ⊢
   obtain⟨n1,n2⟩:=iq (tb h)
   obtain⟨t1,_⟩:=rF h
   have j6:gh (c:Int)=true:=lO.2 (by omega)
   refine⟨_,_,_,_,rfl,mL hc (fun _ q=>by rw[j6] at q;cases q) (fun _=>rfl) (fun _=>rfl) (fun _=>rfl),wf ⟨by omega,by omega⟩ KI z31 (by simp) (fun t q=>by cases q),by simp,?_⟩
   unfold A0
   rw[if_pos fS,ei,List.length_singleton,V5]
   simp only at n2 ⊢
   omega
 by_cases j6:gh (c:Int)=true
 · have e:ah b c p=(.mk c 0 (aA b ⟨p,0,0⟩).1 0 0 [] [] [],(aA b ⟨p,0,0⟩).2):=by unfold ah;rw[if_neg KD,if_neg fS,if_pos j6]
   rw[e] at h ⊢
   obtain⟨n1,n2⟩:=iq h
   refine⟨_,_,_,_,rfl,mL hc (fun _ q=>by rw[j6] at q;cases q) (fun _=>rfl) (fun _=>rfl) (fun _=>rfl),wf ⟨by omega,by omega⟩ KI z31 (by simp) (fun t q=>by cases q),by simp,?_⟩
   unfold A0
   rw[if_neg fS,if_pos j6,V5]
   exact n2
 by_cases j7:(c:Int)=14
 · have e:ah b c p=(.mk c 0 (j9 aA (fun v=>j9 (A1 p v) fun _=>j9 (fun b s=>aY b v s) fun _=>aA) b ⟨p,0,0⟩).1.2.2.2 0 0 (j9 aA (fun v=>j9 (A1 p v) fun _=>j9 (fun b s=>aY b v s) fun _=>aA) b ⟨p,0,0⟩).1.2.2.1 [] [],(j9 aA (fun v=>j9 (A1 p v) fun _=>j9 (fun b s=>aY b v s) fun _=>aA) b ⟨p,0,0⟩).2):=by
    unfold ah;rw[if_neg KD,if_neg fS,if_neg j6,if_pos j7];rfl
   rw[e] at h ⊢
   unfold j9 at h ⊢
   dsimp only at h ⊢
   obtain⟨n1,n2⟩:=iq h
   have h3:=nb h
   obtain⟨t1,t2,t3⟩:=zH _ _ h3
   have h4:=(lR (B:=b) (n:=0) (Vr _) _).back h3
   have cY:(A1 p (aA b ⟨p,0,0⟩).1 b (aA b ⟨p,0,0⟩).2).2=(aA b ⟨p,0,0⟩).2∧(aA b ⟨p,0,0⟩).2.e=0∧(aA b ⟨p,0,0⟩).1≤16384:=by
    have h4:(A1 p (aA b ⟨p,0,0⟩).1 b (aA b ⟨p,0,0⟩).2).2.e=0:=h4
    unfold A1 at h4 ⊢
    by_cases q:16384<(aA b ⟨p,0,0⟩).1∧(aA b ⟨p,0,0⟩).2.e=0
    · rw[if_pos q] at h4;simp at h4
    · rw[if_neg q] at h4 ⊢
      have h4:(aA b ⟨p,0,0⟩).2.e=0:=h4
      exact⟨rfl,h4,by omega⟩
   obtain⟨l1,l2,l3⟩:=cY
   rw[l1] at h n1 n2 t1 t2 t3 ⊢
   obtain⟨m1,m2⟩:=iq l2
   refine⟨_,_,_,_,rfl,mL hc (fun _ _ q=>absurd j7 q) (fun _=>rfl) (fun _=>rfl) (fun q=>absurd j7 q),wf ⟨by omega,by omega⟩ KI z31 (by omega) t2,by omega,?_⟩
   unfold A0
   rw[if_neg fS,if_neg j6,if_pos j7,ei,ei,V5,t1]
   simp only at m2 ⊢
   omega
 by_cases h63:(c:Int)=63∨(c:Int)=64
 · have e:ah b c p=(.mk c 0 0 0 0 [] [] [],(cO xK b ⟨p,0,0⟩).2):=by unfold ah;rw[if_neg KD,if_neg fS,if_neg j6,if_neg j7,if_pos h63]
   rw[e] at h ⊢
   obtain⟨t1,_⟩:=rF h
   refine⟨_,_,_,_,rfl,mL hc (fun _ _ _=>rfl) (fun _=>rfl) (fun _=>rfl) (fun _=>rfl),wf KI KI z31 (by simp) (fun t q=>by cases q),by simp,?_⟩
   unfold A0
   rw[if_neg fS,if_neg j6,if_neg j7,if_pos h63,t1]
   exact df _
 by_cases qg:(c:Int)=65
 · have e:ah b c p=(if(gS b p).e≠0 then(.mk c 0 0 0 0 [] [] [],⟨p,(gS b p).e,(gS b p).fa⟩) else(.mk c 0 0 0 (CK b p) [] [] [],⟨xL b p,0,0⟩)):=by unfold ah;rw[if_neg KD,if_neg fS,if_neg j6,if_neg j7,if_neg h63,if_pos qg]
   rw[e] at h ⊢
   by_cases q:(gS b p).e≠0
   · rw[if_pos q] at h;exact absurd h q
   · rw[if_neg q]
     have q:(gS b p).e=0:=by simpa using q
     obtain⟨g1,g2⟩:=KH q
     refine⟨_,_,_,_,rfl,mL hc (fun _ _ _=>rfl) (fun _=>rfl) (fun q=>absurd qg q) (fun _=>rfl),wf KI KI g1 (by simp) (fun t q=>by cases q),by simp,?_⟩
     unfold A0
     rw[if_neg fS,if_neg j6,if_neg j7,if_neg h63,if_pos qg]
     exact g2
 by_cases hst:dG (c:Int)=true
 · have e:ah b c p=(.mk c 0 (aA b ⟨p,0,0⟩).1 (aA b (aA b ⟨p,0,0⟩).2).1 0 [] [] [],(aA b (aA b ⟨p,0,0⟩).2).2):=by unfold ah;rw[if_neg KD,if_neg fS,if_neg j6,if_neg j7,if_neg h63,if_neg qg,if_pos hst]
   rw[e] at h ⊢
   obtain⟨n1,n2⟩:=iq h
   obtain⟨m1,m2⟩:=iq (nb h)
   refine⟨_,_,_,_,rfl,mL hc (fun q=>by rw[hst] at q;cases q) (fun q=>by rw[hst] at q;cases q) (fun _=>rfl) (fun _=>rfl),wf ⟨by omega,by omega⟩ ⟨by omega,by omega⟩ z31 (by simp) (fun t q=>by cases q),by simp,?_⟩
   unfold A0
   rw[if_neg fS,if_neg j6,if_neg j7,if_neg h63,if_neg qg,if_pos hst,ei,V5,V5]
   simp only at m2 ⊢
   omega
 · have e:ah b c p=(.mk c 0 0 0 0 [] [] [],⟨p,0,0⟩):=by unfold ah;rw[if_neg KD,if_neg fS,if_neg j6,if_neg j7,if_neg h63,if_neg qg,if_neg hst]
   rw[e] at h ⊢
   refine⟨_,_,_,_,rfl,mL hc (fun _ _ _=>rfl) (fun _=>rfl) (fun _=>rfl) (fun _=>rfl),wf KI KI z31 (by simp) (fun t q=>by cases q),by simp,?_⟩
   unfold A0
   rw[if_neg fS,if_neg j6,if_neg j7,if_neg h63,if_neg qg,if_neg hst]
   exact df _
theorem KJ {b:List Nat} {c p:Nat} (cR:dx c=true) (h:(ah b c p).2.e=0) : ∃r:Int,(r=0∨r=1)∧(ah b c p).1.results=r∧(ah b c p).2.p=p+1:=by
 have e:ah b c p=(.mk c (if(cO rL b ⟨p,0,0⟩).1=127 then 1 else 0) 0 0 0 [] [] [],(cO rL b ⟨p,0,0⟩).2):=by unfold ah;rw[if_pos cR]
 rw[e] at h ⊢
 obtain⟨t1,_⟩:=rF h
 refine⟨_,?_,rfl,t1⟩
 split
 · exact .inr rfl
 · exact .inl rfl
end Go.Proofs.YtddfgnmjecogdaaDoor.N
end
