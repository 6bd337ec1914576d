import Derived.Test.YtdmmllcjgjmbbaaGreatDoorPG
import Derived.Test.YtdmmllcjgjmbbaaGreatDoorPF
import Derived.Test.YtdmmllcjgjmbbaaGreatDoorPE
import Derived.Test.YtdmmllcjgjmbbaaGreatDoorPC
open Nat renaming beq→ai,mul_one→aez,le_trans→ba,le_refl→aw,reduceAdd→aex
open Go.Fn renaming func→aeD
open Go.Proofs.Tryz renaming prog→aeB
open List renaming getElem?_eq_getElem→df,getElem_mem→eQ,getElem?_eq_some_iff→dt,flatMap→adw,getD_eq_getElem?_getD→de,map→adP,drop_eq_getElem_cons→aeo,any_eq_false→agC,drop_eq_nil_of_le→ae4,drop_zero→adr,mem_append→oE,getElem?_eq_none→dT,mem_of_getElem?→mf,getElem?_eq_none_iff→agD,length_reverse→agE,all_eq_true→QQ,mem_reverse→agF,length_take→eh,mem_map→fg,all_cons→af5,mem_cons→pB,any_cons→aew,mem_singleton→aet,getElem?_map→en,getElem_take→agT,length_map→ov,any_nil→agW
open Go.IntKind renaming i64→tp,u32→acU,u64→ae1,i32→aeY
open Bool renaming and_true→aeN,false_eq_true→pD,and_eq_true→jn,true_and→aeO,not_false→qf,or_eq_false_iff→qs,not_eq_true'→ka,true_eq_false→ag1,false_and→afc,or_eq_true→j1,not_true→xv,and_self→ag2,not_eq_false→ag3,false_or→xo,true_or→ae7
open Int renaming toNat_natCast→aeL,reduceBEq→agx,eq_ofNat_of_zero_le→agA,toNat_of_nonneg→ag5
open Go.Value renaming int→vd,bool→agu,string→aeH
open Option renaming map_some→kl,elim→ag7,none→aeE
open Option.some renaming injEq→kb
noncomputable section
set_option linter.unusedVariables false
set_option linter.unusedSimpArgs false
set_option linter.unusedSectionVars false
section
namespace Go.Proofs.YtdmmllcjgjmbbaaGreatDoor.N
open Go Go.Am
def vlC (f:FuncId) (_:List AV) (m:Mem):Option (AV×Mem):=cond (ai f 8) (some (.aD [.agg [sI .i64 0,sI .i64 0],sB false],m)) none
def ad7 (M:Mo) (s e n i a:Int):oP:=aJ (fun f _ m=>cond (ai f 90||ai f 95) (some (.agg [sI .i64 e,sI .i64 n,sI .i64 i,sI .i64 a],m)) none) av [] (fm 43 [(0,0),(0,1),(0,2),(0,3),(0,4),(0,5),(0,6),(0,7),(0,8)]) []
def agt:Sc:= .fin
def dI (e n i a:Int):aG:=
 (.out (.ret (.agg [sI .i64 e,sI .i64 n,sI .i64 i,sI .i64 a]) []))
def mh (M:Mo) (s e n i a:Int):aG:=
 (.test (s==2)
 (.call ⟨90,[sI .i64 2,sI .i64 (↑M.aP.length:Int),.fn (aeD 91) [] [.mp 0 0,.mp 1 0]],(gF M),(dV e n i a),(gF M)⟩
 (dI e n i a))
 (.test (s==3)
 (.call ⟨90,[sI .i64 3,sI .i64 (↑M.fns.length:Int),.fn (aeD 93) [] [.mp 0 0,.mp 1 0]],(gF M),(dV e n i a),(gF M)⟩
 (dI e n i a))
 (.test (s==6)
 (.call ⟨90,[sI .i64 6,sI .i64 (↑M.gls.length:Int),.fn (aeD 94) [] [.mp 0 0,.mp 1 0]],(jd M),(dV e n i a),(jd M)⟩
 (dI e n i a))
 (.test (s==7)
 (.call ⟨95,(bQ M),[],(dV e n i a),[]⟩
 (dI e n i a))
 (.test (s==8)
 (.test (M.st)
 (.call ⟨90,[sI .i64 8,sI .i64 1,.fn (aeD 96) [] [.mp 0 0]],[.pc M.aH],(dV e n i a),[.pc M.aH]⟩
 (dI e n i a))
 (.out (.ret (.agg [sI .i64 0,sI .i64 0,sI .i64 0,sI .i64 0]) [])))
 (.test (s==9)
 (.call ⟨90,[sI .i64 9,sI .i64 (↑M.els.length:Int),.fn (aeD 97) [] [.mp 0 0,.mp 1 0]],(gm M),(dV e n i a),(gm M)⟩
 (dI e n i a))
 (.test (s==10)
 (.call ⟨90,[sI .i64 10,sI .i64 (↑M.fns.length:Int),.fn (aeD 99) [] [.mp 0 0]],[.pc M.aH],(dV e n i a),[.pc M.aH]⟩
 (dI e n i a))
 (.test (s==11)
 (.call ⟨90,[sI .i64 11,sI .i64 (↑M.bw.length:Int),.fn (aeD 100) [] [.mp 0 0,.mp 1 0]],(gm M),(dV e n i a),(gm M)⟩
 (dI e n i a))
 (.out (.ret (.agg [sI .i64 0,sI .i64 0,sI .i64 0,sI .i64 0]) []))))))))))
theorem ke (M:Mo) (s e n i a:Int):aE aeB env (ad7 M s e n i a) 1000000 43 ([AV.agg (adP AV.p M.aH),sI tp s]) ([]) agt=mh M s e n i a:=by kernel_rfl
theorem Yi (M:Mo) (n:Nat):aE aeB env (aJ vlC av [] [(40,0,0)] []) 1000000 40 ([AV.agg (adP AV.p M.aH),sI tp (↑n:Int)]) ([]) (.fin) =
(.test (decide ((↑n:Int)≥(↑M.fns.length:Int)))
 (.out (.ret (.aD [sI .i64 6,sI .i64 0]) []))
 (.call ⟨8,[.agg (adP AV.p M.aH),sI .u32 (acU.wrap (tp.wrap ((↑M.aP.length:Int)+(↑n:Int))))],[],.aD [.agg [sI .i64 0,sI .i64 0],sB false],[]⟩
 (.out (.ret (.aD [sI .i64 6,sI .i64 0]) [])))):=by kernel_rfl
theorem an.ofS {f:FuncId} {args:List AV} {m m':Mem} {v:AV} (h:an aeB abt f args m v m'):an aeB env f args m v m':=h.env fun _ _ q=>q
theorem an.toS {f:FuncId} {args:List AV} {m m':Mem} {v:AV} (h:an aeB env f args m v m'):an aeB abt f args m v m':=h.env fun _ _ q=>q
theorem Ux {M:Mo} {x:Fu} (h:x∈M.fns):x.l∈Aj M:=by simp only[Aj,oE,fg];exact .inl (.inl (.inl ⟨x,h,rfl⟩))
theorem K6 {M:Mo} {x:Gl} (h:x∈M.gls):x.l∈Aj M:=by simp only[Aj,oE,fg];exact .inl (.inl (.inr ⟨x,h,rfl⟩))
theorem Uy {M:Mo} {x:El} (h:x∈M.els):x.l∈Aj M:=by simp only[Aj,oE,fg];exact .inl (.inr ⟨x,h,rfl⟩)
theorem Uz {M:Mo} {x:Da} (h:x∈M.bw):x.l∈Aj M:=by simp only[Aj,oE,fg];exact .inr ⟨x,h,rfl⟩
def mcF (ck:Int):Int:=if ck=141 then 141 else if ck=2 then 2 else 0
theorem UA {x:Ins} (h:je x=true):Cc x=true:=by
 obtain⟨op,r,a,b,nn,tg,ll,le⟩:=x
 unfold je ya at h
 simp only[jn,ka,decide_eq_false_iff_not] at h
 obtain⟨_,h1,h2,_⟩:=h
 show decide (0≤r∧r≤1)=true
 rw[decide_eq_true_eq]
 omega
mutual
theorem UB {p q:Ins→Bool} (h : ∀x,p x=true→q x=true) : ∀x:Ins,Gw p x=true→Gw q x=true
 |.mk op r a b n tags l e,hx=>by
  simp only[Gw,jn] at hx ⊢
  exact⟨h _ hx.1,wP h l hx.2.1,wP h e hx.2.2⟩
theorem wP {p q:Ins→Bool} (h : ∀x,p x=true→q x=true) : ∀l:List Ins,th p l=true→th q l=true
 |[],_=>rfl
 |x::r,hx=>by
  simp only[th,jn] at hx ⊢
  exact⟨UB h x hx.1,wP h r hx.2⟩
end
theorem abS {l:List Ins} (hw:Ke l) (h:mcF (cT je l)=0):Fit l 0 1:=by
 by_cases h1:th je l=false
 · rw[show cT je l=2 by unfold cT;rw[if_pos h1]] at h
   exact absurd h (by decide)
 by_cases h2:262144<bF l∨16384<iZ l∨900<dw 1 l
 · rw[show cT je l=141 by unfold cT;rw[if_neg h1,if_pos h2]] at h
   exact absurd h (by decide)
 · exact⟨wP (fun x=>UA) l (by simpa using h1),hw,by omega,by omega,by omega⟩
theorem kT {M:Mo} (h:M.Il) {y:Ty} (hy:y∈M.tys):0≤y.p∧y.p≤255∧0≤y.r∧y.r≤1:=by
 have m:=h.rest
 simp only[nZ,qs] at m
 have k:=agC.1 m.1.1.1.1.1.1.1 y hy
 unfold yf NW at k
 by_cases q:0≤y.p∧y.p≤255∧0≤y.r∧y.r≤1
 · exact q
 · rw[if_neg q] at k
   exact absurd rfl k
theorem UC {M:Mo} (h:M.Il) {x:Fu} (hx:x∈M.fns):0≤x.lo∧x.lo≤50000:=by
 have m:=h.rest
 simp only[nZ,qs] at m
 have k:=agC.1 m.1.1.1.1.1.2 x hx
 unfold tN at k
 simp only[j1,decide_eq_true_eq,not_or] at k
 omega
theorem UD {M:Mo} (h:M.Il) {x:Ex} (hx:x∈M.exs):0≤x.kind∧x.kind≤3:=by
 have m:=h.rest
 simp only[nZ,qs] at m
 have k:=agC.1 m.1.2 x hx
 unfold uR at k
 simp only[j1,decide_eq_true_eq,not_or] at k
 omega
theorem MI {M:Mo} (h:M.Il) {l:List Ins} (hl:l∈Aj M) (hw:Ke l):Fit l 0 1:=by
 have k1:=agC.1 h.abr l hl
 have k2:=agC.1 h.adO l hl
 refine abS hw ?_
 unfold mcF
 rw[if_neg (by simpa using k1),if_neg (by simpa using k2)]
def lxM (M:Mo):Md:=⟨M.tys.length,M.tys.flatMap bB,M.aP.length,M.aP.flatMap bg,M.fns.length,M.fns.flatMap aM,M.cN.length,M.cN.flatMap aS,M.cL.length,M.cL.flatMap aS,M.gls.length,M.gls.flatMap bC,M.exs.length,M.exs.flatMap aV,M.st,M.sn,M.els.length,M.els.flatMap aT,M.bw.length,M.bw.flatMap bz⟩
def lX (M:Mo) (y:Ty) (lo:Int):Lx:=⟨lxM M,y.p,y.r,y.p+lo⟩
theorem Cd {M:Mo} {a:Nat} {y:Ty} (h:xw M a=some y):y∈M.tys:=by
 unfold xw at h
 split at h
 · exact mf h
 · cases h
theorem Zs {M:Mo} (hM:M.fit) (hmay:M.Il) {y:Ty} (hy:y∈M.tys) {lo:Int} (h0:0≤lo∧lo≤50000):X2 (lX M y lo) (vM M y lo) where
 ret:=by
  have k:=kT hmay hy
  show y.r=((y.r.toNat:Nat):Int)
  omega
 X3:=by
  have k:=kT hmay hy
  show y.r.toNat≤1
  omega
 own:=by
  have k:=kT hmay hy
  show y.p+lo=(((y.p+lo).toNat:Nat):Int)
  omega
 agn:=by
  have k:=kT hmay hy
  show(y.p+lo).toNat≤1000000000
  omega
 ty a ha:=by
  have t:=BZ M hM a ha
  have hv:(vM M y lo).ty (a:Int)=(xw M a).map fun z=>(z.p.toNat,z.r.toNat):=by
   show(xw M (a:Int).toNat).map _=_
   rw[aeL]
  rw[hv]
  cases e:xw M a with
  |none=>
   rw[e] at t
   exact t
  |some z=>
   rw[e] at t
   have k:=kT hmay (Cd e)
   have e1:((z.p.toNat:Nat):Int)=z.p:=by omega
   have e2:((z.r.toNat:Nat):Int)=z.r:=by omega
   show z.r.toNat≤1∧_
   refine⟨by omega,?_⟩
   rw[e1,e2]
   exact t
 qn:=by have:=hM.tys;show M.tys.length≤1000000000;omega
 ind a:=by
  by_cases ha:0<(lX M y lo).M.Al∧a<(lX M y lo).M.qn
  · rw[if_pos ha]
    have h1:0<M.cN.length:=ha.1
    have h2:a<M.tys.length:=ha.2
    have hx:M.tys[a]? = some M.tys[a]:=df h2
    have k:=kT hmay (eQ h2)
    have c:=aQ (z:=2) (enc:=bB) (fun _=>rfl) hx
    have c0:(M.tys.flatMap bB).getD (a*2) .aU = .sc (.int .i64 M.tys[a].p):=c 0 (by decide)
    have c1:(M.tys.flatMap bB).getD (a*2+1) .aU = .sc (.int .i64 M.tys[a].r):=c 1 (by decide)
    refine⟨M.tys[a].p.toNat,M.tys[a].r.toNat,?_,by omega,?_,?_⟩
    · show(if 0<M.cN.length then(M.tys[(a:Int).toNat]?).map fun z=>(z.p.toNat,z.r.toNat) else none)=_
      rw[if_pos h1,aeL,hx]
      rfl
    · rw[show((M.tys[a].p.toNat:Nat):Int)=M.tys[a].p by omega]
      exact c0
    · rw[show((M.tys[a].r.toNat:Nat):Int)=M.tys[a].r by omega]
      exact c1
  · rw[if_neg ha]
    show(if 0<M.cN.length then(M.tys[(a:Int).toNat]?).map fun z=>(z.p.toNat,z.r.toNat) else none)=none
    by_cases h1:0<M.cN.length
    · have h2 : ¬a<M.tys.length:=fun q=>ha ⟨h1,q⟩
      rw[if_pos h1,aeL,dT (by omega)]
      rfl
    · rw[if_neg h1]
 ny:=by show M.gls.length=(M.gls.map Gl.mu).length;rw[ov]
 glM:=by have:=hM.gls;show(M.gls.map Gl.mu).length≤1000000000;rw[ov];omega
 gl a b h:=by
  have h:(M.gls.map Gl.mu)[a]? = some b:=h
  rw[en] at h
  cases e:M.gls[a]? with
  |none=>rw[e] at h;cases h
  |some x=>
   rw[e] at h
   cases h
   exact aQ (z:=2) (enc:=bC) (fun _=>rfl) e 0 (by decide)
 me:=rfl
theorem MJ (M:Mo) (hM:M.fit) (hw:M.wf) (hmay:M.Il) {n:Nat} (hn:n<M.fns.length):an aeB env 40 [.agg (M.aH.map .p),sI .i64 n] [] (.aD [sI .i64 (lookW M n).1,sI .i64 ((lookW M n).2:Nat)]) []:=by
 have h1:=hM.aP
 have h2:=hM.fns
 have hx:M.fns[n]? = some M.fns[n]:=df hn
 have hmem:=eQ hn
 have c:=aQ (z:=3) (enc:=aM) (fun _=>rfl) hx
 have t:=BZ M hM (M.aP.length+n) (by omega)
 unfold lookW
 rw[hx]
 dsimp only
 cases e:xw M (M.aP.length+n) with
 |none=>
  rw[e] at t
  have w1:tp.wrap ((M.aP.length:Int)+n)=((M.aP.length+n:Nat):Int):=by rw[aZ (by omega) (by omega)];omega
  have w2:acU.wrap ((M.aP.length+n:Nat):Int)=((M.aP.length+n:Nat):Int):=Zg (by omega) (by omega)
  have g1:decide ((n:Int)≥(M.fns.length:Int))=false:=by simp;omega
  refine aa aI (Yi M n) ?_
  simp only[aG.ok,w1,w2,g1,pD,false_implies,true_implies,true_and]
  first|exact⟨t,rfl⟩|exact⟨t,trivial⟩
 |some y=>
  rw[e] at t
  have k:=kT hmay (Cd e)
  have kf:=UC hmay hmem
  exact OK (X:=lX M y M.fns[n].lo) (V:=vM M y M.fns[n].lo) (Zs hM hmay (Cd e) kf) (n:=n) (lo:=M.fns[n].lo) (l:=M.fns[n].l) hn (by show M.fns.length≤1000000000;omega) (by show M.aP.length≤1000000000;omega) (c 1 (by decide)) (c 2 (by decide))
   ⟨by show 0≤y.p;omega,by show y.p≤1000000;omega⟩ ⟨by omega,by omega⟩ rfl t (MI hmay (Ux hmem) (hw.fns.2 _ hmem).2.2.2)
theorem K7 (M:Mo) {i:Nat} {x:Ex} (hx:M.exs[i]? = some x):iy M (M.exs.take (i+1)) []=tO (iy M (M.exs.take i) []) (jk M x.kind) x:=by
 rw[List.take_add_one,hx]
 simp[iy,List.foldl_append]
theorem Gk (M:Mo) (hM:M.fit) (hk : ∀x∈M.exs,0≤x.kind∧x.kind≤3):an aeB env 95 [.agg (M.aH.map .p)] [] (wV (bO M 7)) []:=by
 obtain⟨L',k⟩:=WZ (M:=M) (g:=123) (N:=M.exs.length) (by have:=hM.exs;omega) 7 (fun i=>(M.exs[i]?).elim 0 fun x=>j6 (iy M (M.exs.take i) []) (jk M x.kind) x) (fun _=>0)
  (fun i=>iy M (M.exs.take i) []) (oZ M) M.cN.length M.cL.length M.gls.length (fun i hi=>by
    have hx:=df hi
    have hr:=hk _ (eQ hi)
    simp only[K7 M hx]
    rw[hx]
    show an aeB env 123 _ _ (.aD [sI .i64 (j6 _ (jk M M.exs[i].kind) M.exs[i]),sI .i64 0]) _
    have h4:M.exs[i].kind=0∨M.exs[i].kind=1∨M.exs[i].kind=2∨M.exs[i].kind=3:=by omega
    rcases h4 with q|q|q|q
    · rw[show jk M M.exs[i].kind=oZ M by rw[q];rfl]
      exact TJ M _ _ _ _ _ hx q
    · rw[show jk M M.exs[i].kind=M.cN.length by rw[q];rfl]
      exact TK M _ _ _ _ _ hx q
    · rw[show jk M M.exs[i].kind=M.cL.length by rw[q];rfl]
      exact TL M _ _ _ _ _ hx q
    · rw[show jk M M.exs[i].kind=M.gls.length by rw[q];rfl]
      exact TM M _ _ _ _ _ hx q)
 rw[qm] at k
 refine an.ofS (aa aI (XG M L' (bO M 7).1 (bO M 7).2.1 (bO M 7).2.2.1 (bO M 7).2.2.2) ?_)
 exact⟨an.toS k,rfl⟩
section
variable (M:Mo) (hM:M.fit) (hw:M.wf) (hs:M.rY) (hmay:M.Il) (hel : ∀x∈M.els,x.fs.length≤1000000000)
include hM hw hs hmay hel
theorem K8:an aeB env 43 [.agg (M.aH.map .p),sI .i64 ((2:Nat):Int)] [] (wV (bO M 2)) []:=by
 have k:=ND M (by have:=hM.aP;omega)
 rw[qm] at k
 refine aa aI (ke M ((2:Nat):Int) (bO M 2).1 (bO M 2).2.1 (bO M 2).2.2.1 (bO M 2).2.2.2) ?_
 simp only[mh,dV,bQ,gF,gm,jd,dI,aG.ok,show(((2:Nat):Int)==2)=true from rfl,dO]
 first|exact⟨k,rfl⟩|exact⟨k,trivial⟩
theorem K9:an aeB env 43 [.agg (M.aH.map .p),sI .i64 ((3:Nat):Int)] [] (wV (bO M 3)) []:=by
 have k:=NF M (by have:=hM.fns;omega)
 rw[qm] at k
 refine aa aI (ke M ((3:Nat):Int) (bO M 3).1 (bO M 3).2.1 (bO M 3).2.2.1 (bO M 3).2.2.2) ?_
 simp only[mh,dV,bQ,gF,gm,jd,dI,aG.ok,show(((3:Nat):Int)==2)=false from rfl,show(((3:Nat):Int)==3)=true from rfl,dO]
 first|exact⟨k,rfl⟩|exact⟨k,trivial⟩
theorem La:an aeB env 43 [.agg (M.aH.map .p),sI .i64 ((4:Nat):Int)] [] (wV (bO M 4)) []:=by
 refine aa aI (ke M ((4:Nat):Int) (bO M 4).1 (bO M 4).2.1 (bO M 4).2.2.1 (bO M 4).2.2.2) ?_
 simp only[mh,dV,bQ,gF,gm,jd,dI,aG.ok,show(((4:Nat):Int)==2)=false from rfl,show(((4:Nat):Int)==3)=false from rfl,show(((4:Nat):Int)==6)=false from rfl,show(((4:Nat):Int)==7)=false from rfl,show(((4:Nat):Int)==8)=false from rfl,show(((4:Nat):Int)==9)=false from rfl,show(((4:Nat):Int)==10)=false from rfl,show(((4:Nat):Int)==11)=false from rfl,dO]
 rfl
theorem Lb:an aeB env 43 [.agg (M.aH.map .p),sI .i64 ((5:Nat):Int)] [] (wV (bO M 5)) []:=by
 refine aa aI (ke M ((5:Nat):Int) (bO M 5).1 (bO M 5).2.1 (bO M 5).2.2.1 (bO M 5).2.2.2) ?_
 simp only[mh,dV,bQ,gF,gm,jd,dI,aG.ok,show(((5:Nat):Int)==2)=false from rfl,show(((5:Nat):Int)==3)=false from rfl,show(((5:Nat):Int)==6)=false from rfl,show(((5:Nat):Int)==7)=false from rfl,show(((5:Nat):Int)==8)=false from rfl,show(((5:Nat):Int)==9)=false from rfl,show(((5:Nat):Int)==10)=false from rfl,show(((5:Nat):Int)==11)=false from rfl,dO]
 rfl
theorem Lc:an aeB env 43 [.agg (M.aH.map .p),sI .i64 ((6:Nat):Int)] [] (wV (bO M 6)) []:=by
 have k:=WY (M:=M) (g:=94) (N:=M.gls.length) (by have:=hM.gls;omega) 6 (fun i=>(M.gls[i]?).elim 0 fun x=>Cs x.l) (fun _=>0) fun i hi=>by
  rw[df hi]
  exact Xh M hi (hs _ (K6 (eQ hi)))
 rw[qm] at k
 refine aa aI (ke M ((6:Nat):Int) (bO M 6).1 (bO M 6).2.1 (bO M 6).2.2.1 (bO M 6).2.2.2) ?_
 simp only[mh,dV,bQ,gF,gm,jd,dI,aG.ok,show(((6:Nat):Int)==2)=false from rfl,show(((6:Nat):Int)==3)=false from rfl,show(((6:Nat):Int)==6)=true from rfl,dO]
 first|exact⟨k,rfl⟩|exact⟨k,trivial⟩
theorem Ld:an aeB env 43 [.agg (M.aH.map .p),sI .i64 ((7:Nat):Int)] [] (wV (bO M 7)) []:=by
 have k:=Gk M hM (fun x hx=>UD hmay hx)
 refine aa aI (ke M ((7:Nat):Int) (bO M 7).1 (bO M 7).2.1 (bO M 7).2.2.1 (bO M 7).2.2.2) ?_
 simp only[mh,dV,bQ,gF,gm,jd,dI,aG.ok,show(((7:Nat):Int)==2)=false from rfl,show(((7:Nat):Int)==3)=false from rfl,show(((7:Nat):Int)==6)=false from rfl,show(((7:Nat):Int)==7)=true from rfl,dO]
 first|exact⟨k,rfl⟩|exact⟨k,trivial⟩
theorem Le:an aeB env 43 [.agg (M.aH.map .p),sI .i64 ((8:Nat):Int)] [] (wV (bO M 8)) []:=by
 have b:acU.min≤M.sn∧M.sn≤acU.max:=by simpa[Lit.wf] using hw.sn
 have b0:0≤M.sn:=b.1
 have b1:M.sn≤4294967295:=b.2
 by_cases hst:M.st=true
 · have k:=Ml (M:=M) (g:=96) (N:=1) (by omega) 8 (fun _=>Oj M) (fun _=>0) (fun i hi=>XE M hM ⟨b0,by omega⟩ i)
   rw[qm] at k
   have e:bO M 8=l9 8 (fun _=>Oj M) (fun _=>0) 1 0:=by
    show(if M.st=true then l9 8 (fun _=>Oj M) (fun _=>0) 1 0 else(0,0,0,0))=_
    rw[if_pos hst]
   rw[←e] at k
   refine aa aI (ke M ((8:Nat):Int) (bO M 8).1 (bO M 8).2.1 (bO M 8).2.2.1 (bO M 8).2.2.2) ?_
   simp only[mh,dV,bQ,gF,gm,jd,dI,aG.ok,hst,show(((8:Nat):Int)==2)=false from rfl,show(((8:Nat):Int)==3)=false from rfl,show(((8:Nat):Int)==6)=false from rfl,show(((8:Nat):Int)==7)=false from rfl,show(((8:Nat):Int)==8)=true from rfl,dO]
   first|exact⟨k,rfl⟩|exact⟨k,trivial⟩
 · have e:bO M 8=(0,0,0,0):=by
    show(if M.st=true then l9 8 (fun _=>Oj M) (fun _=>0) 1 0 else(0,0,0,0))=_
    rw[if_neg hst]
   have hst:M.st=false:=by simpa using hst
   rw[e]
   refine aa aI (ke M ((8:Nat):Int) 0 0 0 0) ?_
   simp only[mh,dV,bQ,gF,gm,jd,dI,aG.ok,hst,show(((8:Nat):Int)==2)=false from rfl,show(((8:Nat):Int)==3)=false from rfl,show(((8:Nat):Int)==6)=false from rfl,show(((8:Nat):Int)==7)=false from rfl,show(((8:Nat):Int)==8)=true from rfl,dO]
   first|rfl|trivial
theorem Lf:an aeB env 43 [.agg (M.aH.map .p),sI .i64 ((9:Nat):Int)] [] (wV (bO M 9)) []:=by
 have k:=Mm (M:=M) (g:=97) (N:=M.els.length) (by have:=hM.els;omega) 9 (fun i=>(M.els[i]?).elim 0 fun x=>Oh M x) (fun _=>0) fun i hi=>by
  rw[df hi]
  exact XD M hi (hel _ (eQ hi)) (hs _ (Uy (eQ hi)))
 rw[qm] at k
 refine aa aI (ke M ((9:Nat):Int) (bO M 9).1 (bO M 9).2.1 (bO M 9).2.2.1 (bO M 9).2.2.2) ?_
 simp only[mh,dV,bQ,gF,gm,jd,dI,aG.ok,show(((9:Nat):Int)==2)=false from rfl,show(((9:Nat):Int)==3)=false from rfl,show(((9:Nat):Int)==6)=false from rfl,show(((9:Nat):Int)==7)=false from rfl,show(((9:Nat):Int)==8)=false from rfl,show(((9:Nat):Int)==9)=true from rfl,dO]
 first|exact⟨k,rfl⟩|exact⟨k,trivial⟩
theorem IN:an aeB env 43 [.agg (M.aH.map .p),sI .i64 ((10:Nat):Int)] [] (wV (bO M 10)) []:=by
 have k:=Ml (M:=M) (g:=99) (N:=M.fns.length) (by have:=hM.fns;omega) 10 (fun i=>(lookW M i).1) (fun i=>((lookW M i).2:Nat)) fun i hi=>aa aI (Xf M i 0 0 (lookW M i).1 ((lookW M i).2:Nat) false) ⟨MJ M hM hw hmay hi,rfl⟩
 rw[qm] at k
 refine aa aI (ke M ((10:Nat):Int) (bO M 10).1 (bO M 10).2.1 (bO M 10).2.2.1 (bO M 10).2.2.2) ?_
 simp only[mh,dV,bQ,gF,gm,jd,dI,aG.ok,show(((10:Nat):Int)==2)=false from rfl,show(((10:Nat):Int)==3)=false from rfl,show(((10:Nat):Int)==6)=false from rfl,show(((10:Nat):Int)==7)=false from rfl,show(((10:Nat):Int)==8)=false from rfl,show(((10:Nat):Int)==9)=false from rfl,show(((10:Nat):Int)==10)=true from rfl,dO]
 first|exact⟨k,rfl⟩|exact⟨k,trivial⟩
theorem IP:an aeB env 43 [.agg (M.aH.map .p),sI .i64 ((11:Nat):Int)] [] (wV (bO M 11)) []:=by
 have k:=Mm (M:=M) (g:=100) (N:=M.bw.length) (by have:=hM.bw;omega) 11 (fun i=>(M.bw[i]?).elim 0 fun x=>if M.cL.length=0 then 6 else Cs x.l) (fun _=>0) fun i hi=>by
  rw[df hi]
  exact Xi M hi (hs _ (Uz (eQ hi)))
 rw[qm] at k
 refine aa aI (ke M ((11:Nat):Int) (bO M 11).1 (bO M 11).2.1 (bO M 11).2.2.1 (bO M 11).2.2.2) ?_
 simp only[mh,dV,bQ,gF,gm,jd,dI,aG.ok,show(((11:Nat):Int)==2)=false from rfl,show(((11:Nat):Int)==3)=false from rfl,show(((11:Nat):Int)==6)=false from rfl,show(((11:Nat):Int)==7)=false from rfl,show(((11:Nat):Int)==8)=false from rfl,show(((11:Nat):Int)==9)=false from rfl,show(((11:Nat):Int)==10)=false from rfl,show(((11:Nat):Int)==11)=true from rfl,dO]
 first|exact⟨k,rfl⟩|exact⟨k,trivial⟩
end
theorem IQ (M:Mo) (hM:M.fit) (hw:M.wf) (hs:M.rY) (hel : ∀x∈M.els,x.fs.length≤1000000000):an aeB env 20 [.agg (M.aH.map .p)] [] (wV (qG M (bO M))) []:=
 Ol M (zB M hM hw hs) (bO M) fun z d h1 h2=>by
  have hmay:=(Ak M).1 z
  have hd:d=2∨d=3∨d=4∨d=5∨d=6∨d=7∨d=8∨d=9∨d=10∨d=11:=by omega
  rcases hd with rfl|rfl|rfl|rfl|rfl|rfl|rfl|rfl|rfl|rfl
  · exact K8 M hM hw hs hmay hel
  · exact K9 M hM hw hs hmay hel
  · exact La M hM hw hs hmay hel
  · exact Lb M hM hw hs hmay hel
  · exact Lc M hM hw hs hmay hel
  · exact Ld M hM hw hs hmay hel
  · exact Le M hM hw hs hmay hel
  · exact Lf M hM hw hs hmay hel
  · exact IN M hM hw hs hmay hel
  · exact IP M hM hw hs hmay hel
abbrev Gy (L:List Nat):List PV:=L.map fun(k:Nat)=>PV.sc (vd tp k)
structure Jd where
 M:Md
 tP:Int
 tR:Int
 own:Int
 L:List Nat
abbrev jB (J:Jd) (c e p:Int):bf:= .ac (J.M.cells++[sI .i64 J.tP,sI .i64 J.tR,sI .i64 J.own,.os (some 1) J.L.length 1 (Gy J.L),sI .i64 c,sI .i64 e,sI .i64 p])
abbrev jM (J:Jd) (c e p:Int):Mem:=[jB J c e p,.tok]
def jK (J:Jd) (c e p:Int):bf:=jB J c e p
abbrev hv (n:Int) (d:Bool):AV:= .agg [sI .i64 n,sB d]
def agv (J:Jd) (c:Int) (op r a b nn:Int) (tg:List Int) (ll le:List Ins) (x al:Int) (st g mu:Bool):Env:=mz [(143,58,sB false)]
def agw (J:Jd) (c:Int) (op r a b nn:Int) (tg:List Int) (ll le:List Ins) (x al:Int) (st g mu:Bool):Env:=mz [(143,58,sB true)]
def jnS (J:Jd) (c:Int) (op r a b nn:Int) (tg:List Int) (ll le:List Ins) (x al:Int) (st g mu:Bool):FuncId→Nat→Nat→Option (AV→AV):=cJ [(143,9,13,sB mu)]
def jcQ (J:Jd) (c:Int) (r a b nn:Int) (tg:List Int) (ll le:List Ins) (n:Int) (d:Bool) (x P Q P2 Q2:Int) (is:Bool) (n1 e1 p1 n2 e2 p2:Int) (i:Nat) (f:FuncId) (_:List AV) (m:Mem):Option (AV×Mem):=
 cond (ai f 9) (some (.aD [.agg [sI .i64 P,sI .i64 Q],sB is],m)) (cond (ai f 121) (match i with|1=>some (hv n1 d,jM J c e1 p1)|_=>some (hv n2 d,jM J c e2 p2)) none)
def agy (J:Jd) (c:Int) (r a b nn:Int) (tg:List Int) (ll le:List Ins) (n:Int) (d:Bool) (x P Q P2 Q2:Int) (is:Bool) (n1 e1 p1 n2 e2 p2:Int):Env:=mz [(142,30,sB false)]
def agz (J:Jd) (c:Int) (r a b nn:Int) (tg:List Int) (ll le:List Ins) (n:Int) (d:Bool) (x P Q P2 Q2:Int) (is:Bool) (n1 e1 p1 n2 e2 p2:Int):Env:=mz [(142,30,sB true)]
def jdS (J:Jd) (c:Int) (r a b nn:Int) (tg:List Int) (ll le:List Ins) (n:Int) (d:Bool) (x P Q P2 Q2:Int) (is:Bool) (n1 e1 p1 n2 e2 p2:Int):FuncId→Nat→Nat→Option (AV→AV):=cJ [(142,6,8,.agg [sI .i64 P2,sI .i64 Q2])]
abbrev jB3 (J:Jd) (t:Nat) (c e p:Int):bf:= .ac (J.M.cells++[sI .i64 J.tP,sI .i64 J.tR,sI .i64 J.own,.os (some t) J.L.length 1 (Gy J.L),sI .i64 c,sI .i64 e,sI .i64 p])
abbrev wos (W:List Nat):AV:= .os (some 1) W.length 1 (Gy W)
def jtQ (J:Jd) (W:List Nat) (l:List Ins) (i:Nat) (rs x n:Int) (d:Bool) (c e p:Int) (n1:Int) (d1:Bool) (c1 e1 p1 n2 e2 p2:Int) (op r a b nn:Int) (tg:List Int) (ll le:List Ins) (ph:Nat) (f:FuncId) (_:List AV) (m:Mem):Option (AV×Mem):=
 cond (ai f 120) (some (hv n1 d1,jM J c1 e1 p1)) (cond (ai f 121) (some (hv n2 d,jM J c e2 p2)) none)
def jtS (J:Jd) (W:List Nat) (l:List Ins) (i:Nat) (rs x n:Int) (d:Bool) (c e p:Int) (n1:Int) (d1:Bool) (c1 e1 p1 n2 e2 p2:Int) (op r a b nn:Int) (tg:List Int) (ll le:List Ins):FuncId→Nat→Nat→Option (AV→AV):=cJ [(86,8,4,cr op r a b nn tg ll le),(86,6,1,sI .i64 (i+1:Nat))]
theorem IS (J:Jd) (c e p a x:Int):aE aeB env (aJ aB av [] [(166,0,0),(122,0,0)] [(166,0,1)]) 1000000 166 ([AV.mp 0 0,sI acU a,sI tp x]) (jM J c e p) (.fin) =
(.test (decide (tp.wrap a≥(↑J.L.length:Int)))
 (.test (e==0)
 (.must true
 (.out (.ret (sI .i64 0) [jK J c 6 x,.tok])))
 (.must true
 (.out (.ret (sI .i64 0) [jK J c e p,.tok]))))
 (.must (bE (tp.wrap (tp.wrap ((↑J.L.length:Int)-1)-tp.wrap a)) J.L.length&&true&&(isInt tp (aA (Gy J.L) ((tp.wrap (tp.wrap ((↑J.L.length:Int)-1)-tp.wrap a)).toNat*1))&&true)&&true)
 (.must true
 (.out (.ret (sI .i64 (au (aA (Gy J.L) ((tp.wrap (tp.wrap ((↑J.L.length:Int)-1)-tp.wrap a)).toNat*1)))) [jK J c e p,.tok]))))):=by kernel_rfl
def abT:oP:=aJ aB av [] [(121,2,5),(121,0,0),(122,0,0)] []
def ad8:Sc:=(.fork .fin (.lit .fin))
def pG (J:Jd) (c e p n:Int) (d:Bool) (k:Int):aG:=
 (.out (.ret (.agg [sI .i64 (bif false then Min.min (tp.wrap (n-k)) 0 else Max.max (tp.wrap (n-k)) 0),.p (.sc (.bool d))]) [jK J c e p,.tok]))
def Gm (J:Jd) (c e p n:Int) (d:Bool) (k x:Int):aG:=
 (.test (decide (k>n))
 (.test (!d)
 (.test (e==0)
 (.out (.ret (.agg [sI .i64 (bif false then Min.min (tp.wrap (n-k)) 0 else Max.max (tp.wrap (n-k)) 0),.p (.sc (.bool d))]) [jK J c 200 x,.tok]))
 (pG J c e p n d k))
 (pG J c e p n d k))
 (pG J c e p n d k))
theorem IT (J:Jd) (c e p n:Int) (d:Bool) (k x:Int):aE aeB env abT 1000000 121 ([AV.mp 0 0,hv n d,sI tp k,sI tp x]) (jM J c e p) ad8=Gm J c e p n d k x:=by kernel_rfl
def Yj (J:Jd) (c op r a b nn:Int) (tg:List Int) (ll:List Ins) (le:List Ins) (x al:Int) (st:Bool) (g:Bool) (mu:Bool):oP:=fc aB av [] (fm 143 [(3,4),(0,0),(0,1),(6,4),(0,3),(0,2),(11,2),(0,6),(14,2),(0,7),(11,7),(0,5)]) [(143,0,4)] (jnS J c op r a b nn tg ll le x al st g mu)
def abU (J:Jd) (c op r a b nn:Int) (tg:List Int) (ll:List Ins) (le:List Ins) (x al:Int) (st:Bool) (g:Bool) (mu:Bool):Sc:=(.ans 167 ((ff al st)) ([]) (jv 11 513994362562030275037244349282399).1)
def eX (J:Jd) (c:Int):aG:=
 (.out (.ret (.aD []) [jK J c 0 0,.tok]))
def fP (J:Jd) (c:Int) (x:Int):aG:=
 (.out (.ret (.aD []) [jK J c 6 x,.tok]))
def kU (J:Jd) (c a:Int) (x al:Int) (st:Bool):aG:=
 (.test ((↑J.M.so:Int)==0) (.must (st) (.test (decide (a>al)) (fP J c x) (fP J c x))) (.must (st) (.test (decide (a>al)) (.out (.ret (.aD []) [jK J c 211 x,.tok])) (eX J c))))
def kV (J:Jd) (c op a:Int) (x:Int):aG:=
 (.test (decide (tp.wrap a≥(↑J.M.ny:Int))) (fP J c x) (.must (dy (.p (.sc (.bool (op==36)))) (sB false)&&true&&true) (eX J c)))
def sD (J:Jd) (c op r a b nn:Int) (tg:List Int) (ll:List Ins) (le:List Ins) (x al:Int) (st:Bool) (g:Bool) (mu:Bool):aG:=
 (.call ⟨167,[sI .i64 op],[],(ff al st),[]⟩
 (.test (decide (op≥32))
 (.test (decide (op≤34))
 (.test (decide (tp.wrap a≥J.own))
 (fP J c x)
 (eX J c))
 (.test (op==35)
 (kV J c op a x)
 (.test (op==36)
 (kV J c op a x)
 (.test (st)
 (kU J c a x al st)
 (.test (op==63)
 (.test ((↑J.M.so:Int)==0)
 (.must (!(st))
 (fP J c x))
 (.must (!(st))
 (eX J c)))
 (.test (op==64)
 (.test ((↑J.M.so:Int)==0)
 (.must (!(st))
 (fP J c x))
 (.must (!(st))
 (eX J c)))
 (eX J c)))))))
 (.must (!(op==35))
 (.must (!(op==36))
 (.test (st)
 (kU J c a x al st)
 (.must (!(op==63))
 (.must (!(op==64))
 (eX J c))))))))
theorem yF (J:Jd) (c op r a b nn:Int) (tg:List Int) (ll:List Ins) (le:List Ins) (x al:Int) (st:Bool) (g:Bool) (mu:Bool):aE aeB (agv J c op r a b nn tg ll le x al st g mu) (Yj J c op r a b nn tg ll le x al st g mu) 1000000 143 ([AV.mp 0 0,cr op r a b nn tg ll le,sI tp x]) (jM J c 0 0) (abU J c op r a b nn tg ll le x al st g mu)=sD J c op r a b nn tg ll le x al st g mu:=by kernel_rfl
def Yk (J:Jd) (c op r a b nn:Int) (tg:List Int) (ll:List Ins) (le:List Ins) (x al:Int) (st:Bool) (g:Bool) (mu:Bool):oP:=fc aB av [] (fm 143 [(3,4),(0,0),(0,1),(6,4),(0,3),(0,4),(0,2),(11,2),(0,6),(14,2),(0,7),(11,7),(0,5)]) [(143,0,4)] (jnS J c op r a b nn tg ll le x al st g mu)
def abV (J:Jd) (c op r a b nn:Int) (tg:List Int) (ll:List Ins) (le:List Ins) (x al:Int) (st:Bool) (g:Bool) (mu:Bool):Sc:=(.ans 167 ((ff al st)) ([]) (jv 11 513994362562030275037244349282399).1)
def qv (J:Jd) (c op a:Int) (x:Int):aG:=
 (.test (decide (tp.wrap a≥(↑J.M.ny:Int))) (.out (.ret (.aD []) [jK J c 6 x,.tok])) (.must (dy (.p (.sc (.bool (op==36)))) (sB true)&&(bE a J.M.ny&&true&&true&&(isBool (aA J.M.Iq (a.toNat*2+0))&&true&&true))&&true) (.test (!aW (aA J.M.Iq (a.toNat*2+0))) (.out (.ret (.aD []) [jK J c 212 x,.tok])) (.out (.ret (.aD []) [jK J c 0 0,.tok])))))
def qw (J:Jd) (c a:Int) (x al:Int) (st:Bool):aG:=
 (.test ((↑J.M.so:Int)==0) (.must (st) (.test (decide (a>al)) (.out (.ret (.aD []) [jK J c 6 x,.tok])) (.out (.ret (.aD []) [jK J c 6 x,.tok])))) (.must (st) (.test (decide (a>al)) (.out (.ret (.aD []) [jK J c 211 x,.tok])) (.out (.ret (.aD []) [jK J c 0 0,.tok])))))
def jD (J:Jd) (c:Int):aG:=
 (.out (.ret (.aD []) [jK J c 0 0,.tok]))
def Ce (J:Jd) (c op r a b nn:Int) (tg:List Int) (ll:List Ins) (le:List Ins) (x al:Int) (st:Bool) (g:Bool) (mu:Bool):aG:=
 (.call ⟨167,[sI .i64 op],[],(ff al st),[]⟩
 (.test (decide (op≥32))
 (.test (decide (op≤34))
 (.test (decide (tp.wrap a≥J.own))
 (.out (.ret (.aD []) [jK J c 6 x,.tok]))
 (jD J c))
 (.test (op==35)
 (qv J c op a x)
 (.test (op==36)
 (qv J c op a x)
 (.test (st)
 (qw J c a x al st)
 (.test (op==63)
 (.test ((↑J.M.so:Int)==0)
 (.must (!(st))
 (.out (.ret (.aD []) [jK J c 6 x,.tok])))
 (.must (!(st))
 (jD J c)))
 (.test (op==64)
 (.test ((↑J.M.so:Int)==0)
 (.must (!(st))
 (.out (.ret (.aD []) [jK J c 6 x,.tok])))
 (.must (!(st))
 (jD J c)))
 (jD J c)))))))
 (.must (!(op==35))
 (.must (!(op==36))
 (.test (st)
 (qw J c a x al st)
 (.must (!(op==63))
 (.must (!(op==64))
 (jD J c))))))))
theorem EO (J:Jd) (c op r a b nn:Int) (tg:List Int) (ll:List Ins) (le:List Ins) (x al:Int) (st:Bool) (g:Bool) (mu:Bool):aE aeB (agw J c op r a b nn tg ll le x al st g mu) (Yk J c op r a b nn tg ll le x al st g mu) 1000000 143 ([AV.mp 0 0,cr op r a b nn tg ll le,sI tp x]) (jM J c 0 0) (abV J c op r a b nn tg ll le x al st g mu)=Ce J c op r a b nn tg ll le x al st g mu:=by kernel_rfl
abbrev eC (x0:Int) (x1:Bool) (x2:Int) (x3:Int):List AV:=[.mp 0 0,.agg [sI .i64 x0,.p (.sc (.bool x1))],sI .i64 x2,sI .i64 x3]
abbrev bD (x0:Int) (x1:Bool):AV:= .agg [sI .i64 x0,.p (.sc (.bool x1))]
theorem IU (J:Jd) (c r a b nn:Int) (tg:List Int) (ll:List Ins) (le:List Ins) (n:Int) (d:Bool) (x P Q P2 Q2:Int) (is:Bool) (n1 e1 p1 n2 e2 p2:Int):aE aeB env (aJ aB av [] [(142,0,2)] []) 1000000 142 ([AV.mp 0 0,cr 16 r a b nn tg ll le,hv n d,sI tp x]) (jM J c 0 0) (.ou 142 1 (jcQ J c r a b nn tg ll le n d x P Q P2 Q2 is n1 e1 p1 n2 e2 p2 0) (.fork .fin (.ans 121 ((bD n1 d)) ([jK J c e1 p1,.tok]) .fin))) =
(.call ⟨9,[.agg (iQ J.M),sI .u32 a],[],(gp P Q is),[]⟩
 (.test (!is)
 (.out (.ret (.agg [sI .i64 n,.p (.sc (.bool d))]) [jK J c 6 x,.tok]))
 (.call ⟨121,(eC n d P x),[jK J c 0 0,.tok],(bD n1 d),[jK J c e1 p1,.tok]⟩
 (.out (.ret (.agg [sI .i64 (tp.wrap (n1+Q)),.p (.sc (.bool d))]) [jK J c e1 p1,.tok]))))):=by kernel_rfl
theorem OL (J:Jd) (c r a b nn:Int) (tg:List Int) (ll:List Ins) (le:List Ins) (n:Int) (d:Bool) (x P Q P2 Q2:Int) (is:Bool) (n1 e1 p1 n2 e2 p2:Int):aE aeB (agy J c r a b nn tg ll le n d x P Q P2 Q2 is n1 e1 p1 n2 e2 p2) (fc aB av [] [] [(142,0,1)] (jdS J c r a b nn tg ll le n d x P Q P2 Q2 is n1 e1 p1 n2 e2 p2)) 1000000 142 ([AV.mp 0 0,cr 17 r a b nn tg ll le,hv n d,sI tp x]) (jM J c 0 0) (.ou 142 1 (jcQ J c r a b nn tg ll le n d x P Q P2 Q2 is n1 e1 p1 n2 e2 p2 0) .fin) =
(.call ⟨9,[.agg (iQ J.M),sI .u32 a],[],(gp P Q is),[]⟩
 (.must (dy (.p (.sc (.bool (decide ((↑J.M.Al:Int)>0))))) (sB false)&&true&&true)
 (.out (.ret (.agg [sI .i64 n,.p (.sc (.bool d))]) [jK J c 6 x,.tok])))):=by kernel_rfl
abbrev gi (x0:Int) (x1:Bool) (x2:Int):List AV:=[.mp 0 0,.agg [sI .i64 x0,.p (.sc (.bool x1))],sI .i64 1,sI .i64 x2]
theorem EP (J:Jd) (c r a b nn:Int) (tg:List Int) (ll:List Ins) (le:List Ins) (n:Int) (d:Bool) (x P Q P2 Q2:Int) (is:Bool) (n1 e1 p1 n2 e2 p2:Int):aE aeB (agz J c r a b nn tg ll le n d x P Q P2 Q2 is n1 e1 p1 n2 e2 p2) (fc aB av [] [(142,0,1),(142,0,2)] [(142,0,1),(142,0,2)] (jdS J c r a b nn tg ll le n d x P Q P2 Q2 is n1 e1 p1 n2 e2 p2)) 1000000 142 ([AV.mp 0 0,cr 17 r a b nn tg ll le,hv n d,sI tp x]) (jM J c 0 0) (.ou 142 1 (jcQ J c r a b nn tg ll le n d x P Q P2 Q2 is n1 e1 p1 n2 e2 p2 0) (.fork (.no (.ans 121 ((bD n1 d)) ([jK J c e1 p1,.tok]) (.ans 121 ((bD n2 d)) ([jK J c e2 p2,.tok]) .fin))) (.yes .fin))) =
(.call ⟨9,[.agg (iQ J.M),sI .u32 a],[],(gp P Q is),[]⟩
 (.must (dy (.p (.sc (.bool (decide ((↑J.M.Al:Int)>0))))) (sB true)&&true&&true)
 (.test (decide (tp.wrap a<(↑J.M.qn:Int)))
 (.must (bE a J.M.qn&&true&&true&&(isInt tp (aA J.M.va (a.toNat*2))&&(isInt tp (aA J.M.va (a.toNat*2+1))&&true)&&true&&true)&&true)
 (.must (!(!decide (tp.wrap a<(↑J.M.qn:Int))))
 (.call ⟨121,(gi n d x),[jK J c 0 0,.tok],(bD n1 d),[jK J c e1 p1,.tok]⟩
 (.call ⟨121,[.mp 0 0,.agg [sI .i64 n1,.p (.sc (.bool d))],sI .i64 (au (aA J.M.va (a.toNat*2))),sI .i64 x],[jK J c e1 p1,.tok],(bD n2 d),[jK J c e2 p2,.tok]⟩
 (.out (.ret (.agg [sI .i64 (tp.wrap (n2+au (aA J.M.va (a.toNat*2+1)))),.p (.sc (.bool d))]) [jK J c e2 p2,.tok]))))))
 (.must (!decide (tp.wrap a<(↑J.M.qn:Int)))
 (.out (.ret (.agg [sI .i64 n,.p (.sc (.bool d))]) [jK J c 6 x,.tok])))))):=by kernel_rfl
theorem UE (J:Jd) (c r a b nn:Int) (tg:List Int) (ll:List Ins) (le:List Ins) (n:Int) (d:Bool) (x k n1 e1 p1 n2 e2 p2 e3 p3:Int):aE aeB env (aJ aB av [] [] []) 1000000 141 ([AV.mp 0 0,cr 15 r a b nn tg ll le,hv n d,sI tp x]) (jM J c 0 0) (.ans 121 ((bD n1 d)) ([jK J c e1 p1,.tok]) .fin) =
(.call ⟨121,[.mp 0 0,.agg [sI .i64 n,.p (.sc (.bool d))],sI .i64 J.tR,sI .i64 x],[jK J c 0 0,.tok],(bD n1 d),[jK J c e1 p1,.tok]⟩
 (.out (.ret (.agg [sI .i64 0,sB true]) [jK J c e1 p1,.tok]))):=by kernel_rfl
theorem UF (J:Jd) (c r a b nn:Int) (tg:List Int) (ll:List Ins) (le:List Ins) (n:Int) (d:Bool) (x k n1 e1 p1 n2 e2 p2 e3 p3:Int):aE aeB env (aJ aB av [] [] []) 1000000 141 ([AV.mp 0 0,cr 12 r a b nn tg ll le,hv n d,sI tp x]) (jM J c 0 0) (.ans 166 (sI .i64 k) ([jK J c e3 p3,.tok]) (.ans 121 ((bD n1 d)) ([jK J c e1 p1,.tok]) .fin)) =
(.call ⟨166,(eI a x),[jK J c 0 0,.tok],sI .i64 k,[jK J c e3 p3,.tok]⟩
 (.call ⟨121,(eC n d k x),[jK J c e3 p3,.tok],(bD n1 d),[jK J c e1 p1,.tok]⟩
 (.out (.ret (.agg [sI .i64 0,sB true]) [jK J c e1 p1,.tok])))):=by kernel_rfl
theorem UG (J:Jd) (c r a b nn:Int) (tg:List Int) (ll:List Ins) (le:List Ins) (n:Int) (d:Bool) (x k n1 e1 p1 n2 e2 p2 e3 p3:Int):aE aeB env (aJ aB av [] [] []) 1000000 141 ([AV.mp 0 0,cr 13 r a b nn tg ll le,hv n d,sI tp x]) (jM J c 0 0) (.ans 166 (sI .i64 k) ([jK J c e3 p3,.tok]) (.ans 121 ((bD n1 d)) ([jK J c e1 p1,.tok]) (.ans 121 ((bD n2 d)) ([jK J c e2 p2,.tok]) .fin))) =
(.call ⟨166,(eI a x),[jK J c 0 0,.tok],sI .i64 k,[jK J c e3 p3,.tok]⟩
 (.call ⟨121,(gi n d x),[jK J c e3 p3,.tok],(bD n1 d),[jK J c e1 p1,.tok]⟩
 (.call ⟨121,(eC n1 d k x),[jK J c e1 p1,.tok],(bD n2 d),[jK J c e2 p2,.tok]⟩
 (.out (.ret (.agg [sI .i64 (tp.wrap (n2+k)),.p (.sc (.bool d))]) [jK J c e2 p2,.tok]))))):=by kernel_rfl
theorem UH (J:Jd) (c r a b nn:Int) (tg:List Int) (ll:List Ins) (le:List Ins) (n:Int) (d:Bool) (x k n1 e1 p1 n2 e2 p2 e3 p3:Int):aE aeB env (aJ aB av [(141,3),(141,5)] [] []) 1000000 141 ([AV.mp 0 0,cr 14 r a b nn tg ll le,hv n d,sI tp x]) (jM J c 0 0) (.fin) =
(.at (ah aeB env 141 3 [.mp 0 0,sI .i64 x,.mp 2 0,.mp 3 0,.mp 4 0,sI .i64 0] ([jK J c 0 0,.tok,.pc [sP 14,sP r,.sc (.int .u32 a),.sc (.int .u32 b),.sc (.int .i32 nn),.ps tg.length 1 (dg acU tg),.ps ll.length 8 (ak ll),.ps le.length 8 (ak le)],.pc [sP n,.sc (.bool d)],.pc [sP 0,.sc (.bool false)]]) 2 120)):=by kernel_rfl
abbrev mj (x0:List Ins) (x1:Int) (x2:Int):List AV:=[.mp 0 0,.p (.ps x0.length 8 (ak x0)),sI .i64 x1,sI .i64 x1,sI .i64 x2]
def abW:oP:=aJ aB av [] (fm 120 [(0,0),(0,1),(0,2),(0,3),(0,4),(0,5),(0,6),(0,9),(0,7),(0,8),(0,10),(0,11)]) []
def ad9 (J:Jd) (c op r a b nn:Int) (tg:List Int) (ll:List Ins) (le:List Ins) (n:Int) (d:Bool) (x n1:Int) (d1:Bool) (c1 e1 p1 c2 e2 p2 e3 p3 tk tl:Int) (is:Bool):Sc:=(.fork .fin (.fork (.ans 86 (.aD []) ([jK J c1 e1 p1,.tok]) .fin) (.fork (.ans 86 (.aD []) ([jK J c1 e1 p1,.tok]) .fin) (.fork (.ans 121 ((bD n1 d1)) ([jK J c e3 p3,.tok]) (.fork (.ans 86 (.aD []) ([jK J c1 e1 p1,.tok]) (.fork (.ans 86 (.aD []) ([jK J c2 e2 p2,.tok]) .fin) .fin)) (.no .fin))) (.fork (.yes (.ans 141 ((bD n1 d1)) ([jK J c e1 p1,.tok]) .fin)) (.fork (.yes (.ans 141 ((bD n1 d1)) ([jK J c e1 p1,.tok]) .fin)) (.fork (.yes (.ans 141 ((bD n1 d1)) ([jK J c e1 p1,.tok]) .fin)) (.fork (.ans 141 ((bD n1 d1)) ([jK J c e1 p1,.tok]) .fin) (.fork (.yes (.ans 142 ((bD n1 d1)) ([jK J c e1 p1,.tok]) .fin)) (.fork (.ans 142 ((bD n1 d1)) ([jK J c e1 p1,.tok]) .fin) (.ans 143 (.aD []) ([jK J c e3 p3,.tok]) (.ans 144 ((gK tk tl is)) ([]) (.ans 121 ((bD n1 d1)) ([jK J c e1 p1,.tok]) .fin)))))))))))))
def eP (J:Jd) (c op r a b nn:Int) (tg:List Int) (ll:List Ins) (le:List Ins) (n:Int) (d:Bool) (x n1:Int) (d1:Bool) (e1 p1:Int):aG:=
 (.call ⟨141,[.mp 0 0,.agg [sI .i64 op,sI .i64 r,sI .u32 a,sI .u32 b,sI .i32 nn,.p (.ps tg.length 1 (dg acU tg)),.p (.ps ll.length 8 (ak ll)),.p (.ps le.length 8 (ak le))],.agg [sI .i64 n,.p (.sc (.bool d))],sI .i64 x],[jK J c 0 0,.tok],(bD n1 d1),[jK J c e1 p1,.tok]⟩ (.out (.ret (.agg [sI .i64 n1,.p (.sc (.bool d1))]) [jK J c e1 p1,.tok])))
def gj (J:Jd) (c op r a b nn:Int) (tg:List Int) (ll:List Ins) (le:List Ins) (n:Int) (d:Bool) (x n1:Int) (d1:Bool) (e1 p1:Int):aG:=
 (.call ⟨142,[.mp 0 0,.agg [sI .i64 op,sI .i64 r,sI .u32 a,sI .u32 b,sI .i32 nn,.p (.ps tg.length 1 (dg acU tg)),.p (.ps ll.length 8 (ak ll)),.p (.ps le.length 8 (ak le))],.agg [sI .i64 n,.p (.sc (.bool d))],sI .i64 x],[jK J c 0 0,.tok],(bD n1 d1),[jK J c e1 p1,.tok]⟩ (.out (.ret (.agg [sI .i64 n1,.p (.sc (.bool d1))]) [jK J c e1 p1,.tok])))
def lA (J:Jd) (c op r a b nn:Int) (tg:List Int) (ll:List Ins) (le:List Ins) (n:Int) (d:Bool) (x n1:Int) (d1:Bool) (c1 e1 p1 c2 e2 p2 e3 p3 tk tl:Int) (is:Bool):aG:=
 (.test (op==0)
 (.out (.ret (.agg [sI .i64 0,sB true]) [jK J c 0 0,.tok]))
 (.test (op==2)
 (.call ⟨86,(mj ll r x),[jK J c 0 0,.tok],.aD [],[jK J c1 e1 p1,.tok]⟩
 (.out (.ret (.agg [sI .i64 (tp.wrap (n+r)),.p (.sc (.bool d))]) [jK J c1 e1 p1,.tok])))
 (.test (op==3)
 (.call ⟨86,[.mp 0 0,.p (.ps ll.length 8 (ak ll)),sI .i64 0,sI .i64 r,sI .i64 x],[jK J c 0 0,.tok],.aD [],[jK J c1 e1 p1,.tok]⟩
 (.out (.ret (.agg [sI .i64 (tp.wrap (n+r)),.p (.sc (.bool d))]) [jK J c1 e1 p1,.tok])))
 (.test (op==4)
 (.call ⟨121,(gi n d x),[jK J c 0 0,.tok],(bD n1 d1),[jK J c e3 p3,.tok]⟩
 (.test (e3==0)
 (.call ⟨86,(mj ll r x),[jK J c e3 p3,.tok],.aD [],[jK J c1 e1 p1,.tok]⟩
 (.test (e1==0)
 (.call ⟨86,(mj le r x),[jK J c1 e1 p1,.tok],.aD [],[jK J c2 e2 p2,.tok]⟩
 (.out (.ret (.agg [sI .i64 (tp.wrap (n1+r)),.p (.sc (.bool d1))]) [jK J c2 e2 p2,.tok])))
 (.out (.ret (.agg [sI .i64 (tp.wrap (n1+r)),.p (.sc (.bool d1))]) [jK J c1 e1 p1,.tok]))))
 (.must (!(e3==0))
 (.out (.ret (.agg [sI .i64 (tp.wrap (n1+r)),.p (.sc (.bool d1))]) [jK J c e3 p3,.tok])))))
 (.test (op==12)
 (.must (op==12)
 (eP J c op r a b nn tg ll le n d x n1 d1 e1 p1))
 (.test (op==13)
 (.must (op==13)
 (eP J c op r a b nn tg ll le n d x n1 d1 e1 p1))
 (.test (op==14)
 (.must (op==14)
 (eP J c op r a b nn tg ll le n d x n1 d1 e1 p1))
 (.test (op==15)
 (eP J c op r a b nn tg ll le n d x n1 d1 e1 p1)
 (.test (op==16)
 (.must (op==16)
 (gj J c op r a b nn tg ll le n d x n1 d1 e1 p1))
 (.test (op==17)
 (gj J c op r a b nn tg ll le n d x n1 d1 e1 p1)
 (.call ⟨143,(fJ op r a b nn tg ll le x),[jK J c 0 0,.tok],.aD [],[jK J c e3 p3,.tok]⟩
 (.call ⟨144,[sI .i64 op],[],(gK tk tl is),[]⟩
 (.call ⟨121,(eC n d tk x),[jK J c e3 p3,.tok],(bD n1 d1),[jK J c e1 p1,.tok]⟩
 (.out (.ret (.agg [sI .i64 (tp.wrap (n1+tl)),.p (.sc (.bool d1))]) [jK J c e1 p1,.tok])))))))))))))))
theorem lN (J:Jd) (c op r a b nn:Int) (tg:List Int) (ll:List Ins) (le:List Ins) (n:Int) (d:Bool) (x n1:Int) (d1:Bool) (c1 e1 p1 c2 e2 p2 e3 p3 tk tl:Int) (is:Bool):aE aeB env abW 1000000 120 ([AV.mp 0 0,cr op r a b nn tg ll le,hv n d,sI tp x]) (jM J c 0 0) (ad9 J c op r a b nn tg ll le n d x n1 d1 c1 e1 p1 c2 e2 p2 e3 p3 tk tl is)=lA J c op r a b nn tg ll le n d x n1 d1 c1 e1 p1 c2 e2 p2 e3 p3 tk tl is:=by kernel_rfl
theorem UI (J:Jd) (c:Int) (l:List Ins) (lab rs x:Int):aE aeB env (aJ aB av [(86,0)] [] [(86,2,3),(86,2,6)]) 1000000 86 ([AV.mp 0 0,aL l,sI tp lab,sI tp rs,sI tp x]) (jM J c 0 0) (.fin) =
(.must (((0+J.L.length)*8).ble eY&&(0+J.L.length).ble eY&&true)
 (.must (((0+J.L.length+1)*8).ble eY&&(0+J.L.length+1).ble eY&&true)
 (.at (ah aeB env 86 0 [.mp 0 0,.p (.ps l.length 8 (ak l)),sI .i64 rs,sI .i64 x,.os (some 1) J.L.length 1 (Gy J.L),.mp 2 0,sI .i64 0] ([.ac (iQ J.M++[sI .i64 J.tP,sI .i64 J.tR,sI .i64 J.own,.os (some 3) (0+J.L.length+1) 1 ([]++Gy J.L++[sP lab]),sI .i64 c,sI .i64 0,sI .i64 0]),.tok,.pc [sP 0,.sc (.bool false)],.tok]) 2 78)))):=by kernel_rfl
theorem OM (J:Jd) (c:Int) (l:List Ins) (lab rs x:Int):aE aeB env (aJ aB av [(86,0)] [] []) 1000000 86 ([AV.mp 0 0,aL l,sI tp lab,sI tp rs,sI tp x]) ([bf.ac (J.M.cells++[sI tp J.tP,sI tp J.tR,sI tp J.own,AV.os aeE 0 0 [],sI tp c,sI tp 0,sI tp 0])]) (.fin) =
(.at (ah aeB env 86 0 [.mp 0 0,.p (.ps l.length 8 (ak l)),sI .i64 rs,sI .i64 x,bP,.mp 1 0,sI .i64 0] ([.ac (iQ J.M++[sI .i64 J.tP,sI .i64 J.tR,sI .i64 J.own,.os (some 2) 1 1 [sP lab],sI .i64 c,sI .i64 0,sI .i64 0]),.pc [sP 0,.sc (.bool false)],.tok]) 1 78)):=by kernel_rfl
abbrev wQ (x0:Jd) (x1:List Nat) (x2:Int) (x3:Int) (x4:Int):Mem:=[.ac (iQ x0.M++[sI .i64 x0.tP,sI .i64 x0.tR,sI .i64 x0.own,.os (some 1) x1.length 1 (Gy x1),sI .i64 x2,sI .i64 x3,sI .i64 x4]),.tok]
abbrev qK (x0:Nat) (x1:List Ins):Bool:=bE (↑x0:Int) x1.length&&true&&true&&(isInt tp (aA (ak x1) (aF x0*8))&&(isInt tp (aA (ak x1) (aF x0*8+1))&&(isInt acU (aA (ak x1) (aF x0*8+1+1))&&(isInt acU (aA (ak x1) (aF x0*8+1+1+1))&&(isInt aeY (aA (ak x1) (aF x0*8+1+1+1+1))&&(aX (aA (ak x1) (aF x0*8+1+1+1+1+1))&&(aX (aA (ak x1) (aF x0*8+1+1+1+1+1+1))&&(aX (aA (ak x1) (aF x0*8+1+1+1+1+1+1+1))&&true)))))))&&true&&true)&&true
abbrev qL (x0:List Ins) (x1:Nat) (x2:Int) (x3:Bool) (x4:Int):List AV:=[.mp 0 0,.agg [sI .i64 (au (aA (ak x0) (aF x1*8))),sI .i64 (au (aA (ak x0) (aF x1*8+1))),sI .u32 (au (aA (ak x0) (aF x1*8+1+1))),sI .u32 (au (aA (ak x0) (aF x1*8+1+1+1))),sI .i32 (au (aA (ak x0) (aF x1*8+1+1+1+1))),.p (.ps (aq (aA (ak x0) (aF x1*8+1+1+1+1+1))) (aK (aA (ak x0) (aF x1*8+1+1+1+1+1))) (aj (aA (ak x0) (aF x1*8+1+1+1+1+1)))),.p (.ps (aq (aA (ak x0) (aF x1*8+1+1+1+1+1+1))) (aK (aA (ak x0) (aF x1*8+1+1+1+1+1+1))) (aj (aA (ak x0) (aF x1*8+1+1+1+1+1+1)))),.p (.ps (aq (aA (ak x0) (aF x1*8+1+1+1+1+1+1+1))) (aK (aA (ak x0) (aF x1*8+1+1+1+1+1+1+1))) (aj (aA (ak x0) (aF x1*8+1+1+1+1+1+1+1))))],.agg [sI .i64 x2,.p (.sc (.bool x3))],sI .i64 (tp.wrap (x4+1))]
theorem sE (J:Jd) (W:List Nat) (l:List Ins) (i:Nat) (rs x n:Int) (d:Bool) (c e p n1:Int) (d1:Bool) (c1 e1 p1 n2 e2 p2 op r a b nn:Int) (tg:List Int) (ll:List Ins) (le:List Ins):grow aeB env (fc aB av [(86,0)] [(86,5,5),(86,0,1),(86,0,2),(86,0,3),(122,0,0)] [(86,0,2)] (jtS J W l i rs x n d c e p n1 d1 c1 e1 p1 n2 e2 p2 op r a b nn tg ll le)) 1000000 true (ah aeB env 86 0 ([AV.mp 0 0,aL l,sI tp rs,sI tp x,wos W,AV.mp 2 0,sI tp (↑i:Int)]) ([jB3 J 3 c e p,bf.tok,bf.pc [PV.sc (vd tp n),PV.sc (agu d)],bf.tok]) 2 78) (.fork (.fork (.ou 86 7 (jtQ J W l i rs x n d c e p n1 d1 c1 e1 p1 n2 e2 p2 op r a b nn tg ll le 0) .fin) (.no .fin)) (.lit (.fork (.ans 121 ((bD n2 d)) ([jK J c e2 p2,.tok]) .fin) .fin))) atEnd =
(.test ((dh i l))
 (.test (e==0)
 (.call ⟨120,(qL l i n d c),[jK J (tp.wrap (c+1)) e p,.tok],(bD n1 d1),[jK J c1 e1 p1,.tok]⟩
 (.must ((qK i l))
 (.need ((bK i))
 (.at (ah aeB env 86 0 [.mp 0 0,.p (.ps l.length 8 (ak l)),sI .i64 rs,sI .i64 x,.os (some 1) W.length 1 (Gy W),.mp 2 0,sI .i64 (↑(i+1):Int)] ([.ac (iQ J.M++[sI .i64 J.tP,sI .i64 J.tR,sI .i64 J.own,.os (some 3) J.L.length 1 (Gy J.L),sI .i64 c1,sI .i64 e1,sI .i64 p1]),.tok,.pc [sP n1,.sc (.bool d1)],.tok]) 2 78)))))
 (.must (!(e==0))
 (.out (.ret (.aD []) (wQ J W c e p)))))
 (.test (e==0)
 (.call ⟨121,(eC n d rs x),[jK J c e p,.tok],(bD n2 d),[jK J c e2 p2,.tok]⟩
 (.test (decide (n2>0))
 (.test (e2==0)
 (.out (.ret (.aD []) [.ac (iQ J.M++[sI .i64 J.tP,sI .i64 J.tR,sI .i64 J.own,.os (some 1) W.length 1 (Gy W),sI .i64 c,sI .i64 201,sI .i64 x]),.tok]))
 (.out (.ret (.aD []) (wQ J W c e2 p2))))
 (.out (.ret (.aD []) (wQ J W c e2 p2)))))
 (.out (.ret (.aD []) (wQ J W c e p))))):=by kernel_rfl
abbrev wR (x0:Jd) (x1:Int) (x2:Int) (x3:Int):Mem:=[.ac (iQ x0.M++[sI .i64 x0.tP,sI .i64 x0.tR,sI .i64 x0.own,bP,sI .i64 x1,sI .i64 x2,sI .i64 x3])]
theorem sF (J:Jd) (W:List Nat) (l:List Ins) (i:Nat) (rs x n:Int) (d:Bool) (c e p n1:Int) (d1:Bool) (c1 e1 p1 n2 e2 p2 op r a b nn:Int) (tg:List Int) (ll:List Ins) (le:List Ins):grow aeB env (fc aB av [(86,0)] [(86,5,5),(86,0,1),(86,0,2),(86,0,3),(122,0,0)] [(86,0,2)] (jtS J W l i rs x n d c e p n1 d1 c1 e1 p1 n2 e2 p2 op r a b nn tg ll le)) 1000000 true (ah aeB env 86 0 ([AV.mp 0 0,aL l,sI tp rs,sI tp x,AV.os aeE 0 0 [],AV.mp 1 0,sI tp (↑i:Int)]) ([jB3 J 2 c e p,bf.pc [PV.sc (vd tp n),PV.sc (agu d)],bf.tok]) 1 78) (.fork (.fork (.ou 86 7 (jtQ J W l i rs x n d c e p n1 d1 c1 e1 p1 n2 e2 p2 op r a b nn tg ll le 0) .fin) (.no .fin)) (.lit (.fork (.ans 121 ((bD n2 d)) ([jK J c e2 p2,.tok]) .fin) .fin))) atEnd =
(.test ((dh i l))
 (.test (e==0)
 (.call ⟨120,(qL l i n d c),[jK J (tp.wrap (c+1)) e p,.tok],(bD n1 d1),[jK J c1 e1 p1,.tok]⟩
 (.must ((qK i l))
 (.need ((bK i))
 (.at (ah aeB env 86 0 [.mp 0 0,.p (.ps l.length 8 (ak l)),sI .i64 rs,sI .i64 x,bP,.mp 1 0,sI .i64 (↑(i+1):Int)] ([.ac (iQ J.M++[sI .i64 J.tP,sI .i64 J.tR,sI .i64 J.own,.os (some 2) J.L.length 1 (Gy J.L),sI .i64 c1,sI .i64 e1,sI .i64 p1]),.pc [sP n1,.sc (.bool d1)],.tok]) 1 78)))))
 (.must (!(e==0))
 (.out (.ret (.aD []) (wR J c e p)))))
 (.test (e==0)
 (.call ⟨121,(eC n d rs x),[jK J c e p,.tok],(bD n2 d),[jK J c e2 p2,.tok]⟩
 (.test (decide (n2>0))
 (.test (e2==0)
 (.out (.ret (.aD []) [.ac (iQ J.M++[sI .i64 J.tP,sI .i64 J.tR,sI .i64 J.own,bP,sI .i64 c,sI .i64 201,sI .i64 x])]))
 (.out (.ret (.aD []) (wR J c e2 p2))))
 (.out (.ret (.aD []) (wR J c e2 p2)))))
 (.out (.ret (.aD []) (wR J c e p))))):=by kernel_rfl
theorem UJ (op:Int):aE aeB env (aJ aB av [] (fm 167 [(0,0),(0,1),(0,2),(0,4),(0,3),(0,5),(0,7),(0,6)]) []) 1000000 167 ([sI tp op]) ([]) (jv 9 2153521138014).1 =
(.test (op==40)
 (.must (op==40)
 (.out (.ret (.aD [sI .u32 2,sB true]) [])))
 (.test (op==54)
 (.out (.ret (.aD [sI .u32 2,sB true]) []))
 (.test (op==46)
 (.must (op==46)
 (.out (.ret (.aD [sI .u32 1,sB true]) [])))
 (.test (op==47)
 (.must (op==47)
 (.out (.ret (.aD [sI .u32 1,sB true]) [])))
 (.test (op==59)
 (.out (.ret (.aD [sI .u32 1,sB true]) []))
 (.test (op==44)
 (.must (op==44)
 (.out (.ret (.aD [sI .u32 0,sB true]) [])))
 (.test (op==45)
 (.must (op==45)
 (.out (.ret (.aD [sI .u32 0,sB true]) [])))
 (.test (op==58)
 (.out (.ret (.aD [sI .u32 0,sB true]) []))
 (.out (.ret (.aD [sI .u32 0,sB false]) [])))))))))):=by kernel_rfl
abbrev UK (x0:Md) (x1:Int) (x2:Int) (x3:Int):Prop:=AV.agg [sI .i64 (au (aA x0.va (x1.toNat*2))),sI .i64 (au (aA x0.va (x1.toNat*2+1)))]=AV.agg [sI tp x2,sI tp x3]
def fe (e w:Int):Int:=if e=0 then w else e
def fp (e p x:Int):Int:=if e=0 then x else p
theorem fe0 (w:Int):fe 0 w=w:=by unfold fe;rw[if_pos rfl]
theorem fp0 (p x:Int):fp 0 p x=x:=by unfold fp;rw[if_pos rfl]
theorem feE {e:Int} (h:e≠0) (w:Int):fe e w=e:=by unfold fe;rw[if_neg h]
theorem fpE {e:Int} (h:e≠0) (p x:Int):fp e p x=p:=by unfold fp;rw[if_neg h]
structure Gn (J:Jd) (V:fS):Prop where
 v:X2 ⟨J.M,J.tP,J.tR,J.own⟩ V
 ty : ∀a:Nat,a<4294967296→match V.ty a with
  |some (p,r)=>p≤1000000000∧an aeB env 9 [.agg J.M.cells,sI .u32 a] [] (.aD [.agg [sI .i64 p,sI .i64 r],sB true]) []
  |none=>an aeB env 9 [.agg J.M.cells,sI .u32 a] [] (.aD [.agg [sI .i64 0,sI .i64 0],sB false]) []
 Yl : ∀(a:Int) (p r:Nat),V.ind a=some (p,r)→p≤1000000000
 lab : ∀k∈J.L,k≤1
 len:J.L.length≤1000000000
section
variable {J:Jd} {V:fS}
theorem Ym {a k:Nat} (hL:J.L.length≤1000000000) (h:J.L.reverse[a]? = some k) (c e p x:Int):an aeB env 166 [.mp 0 0,sI .u32 a,sI .i64 x] (jM J c e p) (sI .i64 k) (jM J c e p):=by
 refine aa aI (IS J c e p a x) ?_
 obtain⟨h1,h2⟩:=dt.1 h
 rw[agE] at h1
 have w1:tp.wrap (a:Int)=a:=aZ (by omega) (by omega)
 have w2:tp.wrap ((J.L.length:Int)-1)=J.L.length-1:=aZ (by omega) (by omega)
 have w3:tp.wrap ((J.L.length:Int)-1-a)=J.L.length-1-a:=aZ (by omega) (by omega)
 have t:((J.L.length:Int)-1-a).toNat=J.L.length-1-a:=by omega
 have g:(Gy J.L).getD (J.L.length-1-a) .aU = .sc (.int .i64 k):=by
  rw[de,en,df (by omega)]
  rw[List.getElem_reverse] at h2
  simp only[kl,Option.getD_some,h2]
 have d1:decide ((a:Int)≥J.L.length)=false:=by simp;omega
 simp only[br,aG.ok,w1,w2,w3,t,aez,g,d1,isInt,au,ik,bE,dO,aeN,jn,decide_eq_true_eq]
 exact⟨by omega,rfl⟩
theorem Yn {a:Nat} (ha:a<4294967296) (h:J.L.reverse[a]? = none) (c e p x:Int):an aeB env 166 [.mp 0 0,sI .u32 a,sI .i64 x] (jM J c e p) (sI .i64 (0:Nat)) (jM J c (fe e 6) (fp e p x)):=by
 refine aa aI (IS J c e p a x) ?_
 have h1:=agD.1 h
 rw[agE] at h1
 have w1:tp.wrap (a:Int)=a:=aZ (by omega) (by omega)
 have d1:decide ((a:Int)≥J.L.length)=true:=by simp;omega
 simp only[br,aG.ok,w1,d1,dO]
 refine⟨fun h=> ?_,fun h=> ?_⟩
 · have h:e=0:=by simpa using h
   subst h
   rw[fe0,fp0];rfl
 · have h:e≠0:=by simpa using h
   rw[feE h,fpE h];rfl
theorem aea {n k:Nat} {d:Bool} (hn:n≤1000000000) (hk:k≤1000000000) (h : ¬(n<k∧d=false)) (c e p x:Int):an aeB env 121 [.mp 0 0,hv n d,sI .i64 k,sI .i64 x] (jM J c e p) (hv (n-k:Nat) d) (jM J c e p):=by
 refine aa aI (IT J c e p n d k x) ?_
 have w1:tp.wrap ((n:Int)-k)=n-k:=aZ (by omega) (by omega)
 have mx:max ((n:Int)-k) 0=((n-k:Nat):Int):=by omega
 simp only[Gm,pG,aG.ok,w1,cond_false,mx]
 refine⟨fun h1=>⟨fun h2=>⟨fun h3=> ?_,fun h3=> ?_⟩,fun h2=>rfl⟩,fun h1=>rfl⟩ <;>
 · simp only[decide_eq_true_eq,ka] at h1 h2
   exact absurd ⟨by omega,h2⟩ h
theorem abX {n k:Nat} {d:Bool} (hn:n≤1000000000) (hk:k≤1000000000) (h:n<k∧d=false) (c e p x:Int):an aeB env 121 [.mp 0 0,hv n d,sI .i64 k,sI .i64 x] (jM J c e p) (hv (n-k:Nat) d) (jM J c (fe e 200) (fp e p x)):=by
 refine aa aI (IT J c e p n d k x) ?_
 have w1:tp.wrap ((n:Int)-k)=n-k:=aZ (by omega) (by omega)
 have mx:max ((n:Int)-k) 0=((n-k:Nat):Int):=by omega
 obtain⟨h1,rfl⟩:=h
 have d1:decide ((k:Int)>n)=true:=by simp;omega
 simp only[Gm,pG,aG.ok,w1,cond_false,mx,d1,qf,pD,ag1,false_implies,true_implies,and_true]
 refine⟨fun h=> ?_,fun h=> ?_⟩
 · have h:e=0:=by simpa using h
   subst h
   rw[fe0,fp0];rfl
 · have h:e≠0:=by simpa using h
   rw[feE h,fpE h];rfl
theorem kW {n k:Nat} (d:Bool) (hn:n≤1000000000) (hk:k≤1000000000) (c e p x:Int) : ∃e' p',an aeB env 121 [.mp 0 0,hv n d,sI .i64 k,sI .i64 x] (jM J c e p) (hv (n-k:Nat) d) (jM J c e' p')∧(e≠0→e'=e∧p'=p)∧(e=0→(¬(n<k∧d=false)∧e'=0∧p'=p)∨((n<k∧d=false)∧e'=200∧p'=x)):=by
 by_cases h:n<k∧d=false
 · refine⟨_,_,abX hn hk h c e p x,fun he=>⟨feE he _,fpE he _ _⟩,fun he=> .inr ⟨h,?_,?_⟩⟩
   · rw[he,fe0]
   · rw[he,fp0]
 · exact⟨_,_,aea hn hk h c e p x,fun _=>⟨rfl,rfl⟩,fun he=> .inl ⟨h,he,rfl⟩⟩
theorem yG (hJ:Gn J V) (a:Nat) (ha:a<4294967296) (c e p x:Int) : ∃(k:Nat) (e' p':Int),k≤1∧an aeB env 166 [.mp 0 0,sI .u32 a,sI .i64 x] (jM J c e p) (sI .i64 k) (jM J c e' p')∧(e≠0→e'=e∧p'=p)∧(e=0→(J.L.reverse[a]? = some k∧e'=0∧p'=p)∨(J.L.reverse[a]? = none∧e'=6∧p'=x))∧k=J.L.reverse.getD a 0:=by
 cases h:J.L.reverse[a]? with
 |none=>exact⟨0,_,_,by omega,Yn ha h c e p x,fun he=>⟨feE he _,fpE he _ _⟩,fun he=> .inr ⟨rfl,by rw[he,fe0],by rw[he,fp0]⟩,by rw[de,h];rfl⟩
 |some k=>
  have hk:k≤1:=hJ.lab k (by
   obtain⟨h1,h2⟩:=dt.1 h
   have:=eQ h1
   rw[h2] at this
   simpa using this)
  exact⟨k,e,p,hk,Ym hJ.len h c e p x,fun _=>⟨rfl,rfl⟩,fun he=> .inl ⟨rfl,he,rfl⟩,by rw[de,h];rfl⟩
theorem UL (op:Int):an aeB env 167 [sI .i64 op] [] (.aD [sI .u32 (dr op),sB (gI op)]) []:=by
 refine aa aI (UJ op) ?_
 by_cases h40:op=40
 · subst h40;simp[aG.ok,dr,gI]
 by_cases h54:op=54
 · subst h54;simp[aG.ok,dr,gI]
 by_cases h46:op=46
 · subst h46;simp[aG.ok,dr,gI]
 by_cases h47:op=47
 · subst h47;simp[aG.ok,dr,gI]
 by_cases h59:op=59
 · subst h59;simp[aG.ok,dr,gI]
 by_cases h44:op=44
 · subst h44;simp[aG.ok,dr,gI]
 by_cases h45:op=45
 · subst h45;simp[aG.ok,dr,gI]
 by_cases h58:op=58
 · subst h58;simp[aG.ok,dr,gI]
 simp[aG.ok,dr,gI,h40,h54,h46,h47,h59,h44,h45,h58]
def abY (J:Jd) (r:VR) (v:AV) (m:Mem):Prop:=match r with
 |.ok n d c=>v=hv n d∧m=jM J c 0 0
 |.aU e p=> ∃(n:Int) (d:Bool) (c:Int),v=hv n d∧m=jM J c e p
def UM (J:Jd) (f:FuncId) (x:AV) (n:Nat) (d:Bool) (c:Nat) (r:VR):Prop:= ∃v m,an aeB env f [.mp 0 0,x,hv n d,sI .i64 c] (jM J c 0 0) v m∧abY J r v m
def oh (J:Jd) (c:Nat) (r:VR) (v:AV) (m:Mem):Prop:=match r with
 |.ok n d c'=>v=hv n d∧m=jM J c 0 0∧c'=c
 |.aU e p=> ∃(n:Int) (d:Bool),v=hv n d∧m=jM J c e p
def lO (J:Jd) (f:FuncId) (x:AV) (n:Nat) (d:Bool) (c:Nat) (r:VR):Prop:= ∃v m,an aeB env f [.mp 0 0,x,hv n d,sI .i64 c] (jM J c 0 0) v m∧oh J c r v m
variable {r a b nn:Int} {tg:List Int} {ll le:List Ins} {n c:Nat} {d:Bool}
theorem UN (hJ:Gn J V) (hn:n≤1000000000) (ls:List Nat):lO J 141 (cr 15 r a b nn tg ll le) n d c (dW V ls 15 a tg n d c):=by
 have Uw:J.tR=V.ret:=hJ.v.ret
 have CN:=hJ.v.X3
 obtain⟨e',p',hd,_,hz⟩:=kW (J:=J) (n:=n) (k:=V.ret) d hn (by omega) c 0 0 c
 rw[←Uw] at hd
 refine⟨hv 0 true,jM J c e' p',aa aI (UE J c r a b nn tg ll le n d c 0 (n-V.ret:Nat) e' p' 0 0 0 0 0) ?_,?_⟩
 · simp only[bD,aG.ok]
   exact⟨hd,rfl⟩
 show oh J c (bU c V.ret n d fun _=> .ok 0 true c) _ _
 unfold bU
 rcases hz rfl with⟨h1,rfl,rfl⟩|⟨h1,rfl,rfl⟩
 · rw[if_neg h1];exact⟨rfl,rfl,rfl⟩
 · rw[if_pos h1];exact⟨_,_,rfl,rfl⟩
theorem Yo (hJ:Gn J V) (hn:n≤1000000000) (a:Nat) (ha:a<4294967296):lO J 141 (cr 12 r a b nn tg ll le) n d c (dW V J.L.reverse 12 a tg n d c):=by
 obtain⟨k,e1,p1,hk,hl,hA,hB,_⟩:=yG hJ a ha c 0 0 c
 obtain⟨e2,p2,hd,hC,hD⟩:=kW (J:=J) (n:=n) (k:=k) d hn (by omega) c e1 p1 c
 refine⟨hv 0 true,jM J c e2 p2,aa aI (UF J c r a b nn tg ll le n d c k (n-k:Nat) e2 p2 0 0 0 e1 p1) ?_,?_⟩
 · simp only[bD,eC,eI,aG.ok]
   exact⟨hl,hd,rfl⟩
 show oh J c (match J.L.reverse[(a:Int).toNat]? with
  |none=> .aU 6 c
  |some k=>bU c k n d fun _=> .ok 0 true c) _ _
 rw[aeL]
 rcases hB rfl with⟨h1,rfl,rfl⟩|⟨h1,rfl,rfl⟩
 · rw[h1]
   show oh J c (bU c k n d fun _=> .ok 0 true c) _ _
   unfold bU
   rcases hD rfl with⟨h1,rfl,rfl⟩|⟨h1,rfl,rfl⟩
   · rw[if_neg h1];exact⟨rfl,rfl,rfl⟩
   · rw[if_pos h1];exact⟨_,_,rfl,rfl⟩
 · rw[h1]
   obtain⟨rfl,rfl⟩:=hC (by decide)
   exact⟨_,_,rfl,rfl⟩
theorem Yp (hJ:Gn J V) (hn:n≤1000000000) (a:Nat) (ha:a<4294967296):lO J 141 (cr 13 r a b nn tg ll le) n d c (dW V J.L.reverse 13 a tg n d c):=by
 obtain⟨k,e1,p1,hk,hl,hA,hB,_⟩:=yG hJ a ha c 0 0 c
 obtain⟨e2,p2,hd,hC,hD⟩:=kW (J:=J) (n:=n) (k:=1) d hn (by omega) c e1 p1 c
 obtain⟨e3,p3,hd3,hE,hF⟩:=kW (J:=J) (n:=n-1) (k:=k) d (by omega) (by omega) c e2 p2 c
 have w:tp.wrap (((n-1-k:Nat):Int)+k)=((n-1-k+k:Nat):Int):=by rw[aZ (by omega) (by omega)];rfl
 refine⟨hv (n-1-k+k:Nat) d,jM J c e3 p3,aa aI (UG J c r a b nn tg ll le n d c k (n-1:Nat) e2 p2 (n-1-k:Nat) e3 p3 e1 p1) ?_,?_⟩
 · simp only[bD,eC,eI,gi,aG.ok,w]
   exact⟨hl,hd,hd3,rfl⟩
 show oh J c (match J.L.reverse[(a:Int).toNat]? with
  |none=> .aU 6 c
  |some k=>bU c 1 n d fun n1=>bU c k n1 d fun n2=> .ok (n2+k) d c) _ _
 rw[aeL]
 rcases hB rfl with⟨h1,rfl,rfl⟩|⟨h1,rfl,rfl⟩
 · rw[h1]
   show oh J c (bU c 1 n d fun n1=>bU c k n1 d fun n2=> .ok (n2+k) d c) _ _
   unfold bU
   rcases hD rfl with⟨h1,rfl,rfl⟩|⟨h1,rfl,rfl⟩
   · rw[if_neg h1]
     dsimp only
     rcases hF rfl with⟨h1,rfl,rfl⟩|⟨h1,rfl,rfl⟩
     · rw[if_neg h1];exact⟨rfl,rfl,rfl⟩
     · rw[if_pos h1];exact⟨_,_,rfl,rfl⟩
   · rw[if_pos h1]
     obtain⟨rfl,rfl⟩:=hE (by decide)
     exact⟨_,_,rfl,rfl⟩
 · rw[h1]
   obtain⟨rfl,rfl⟩:=hC (by decide)
   obtain⟨rfl,rfl⟩:=hE (by decide)
   exact⟨_,_,rfl,rfl⟩
theorem ON (hJ:Gn J V) (hn:n≤1000000000) (a:Nat) (ha:a<4294967296) (ls:List Nat):lO J 142 (cr 16 r a b nn tg ll le) n d c (dW V ls 16 a tg n d c):=by
 have hty:=hJ.ty a ha
 have aeb:=hJ.v.ty a ha
 show lO J 142 _ n d c (match V.ty a with
  |none=> .aU 6 c
  |some (p,r)=>bU c p n d fun n1=> .ok (n1+r) d c)
 cases h:V.ty a with
 |none=>
  rw[h] at hty
  refine⟨hv n d,jM J c 6 c,aa aI (IU J c r a b nn tg ll le n d c 0 0 0 0 false 0 0 0 0 0 0) ?_,_,_,rfl,rfl⟩
  simp only[bD,eC,gp,aG.ok,qf,ag1,false_implies,true_implies,and_true]
  exact⟨hty,rfl⟩
 |some pr=>
  obtain⟨P,Q⟩:=pr
  rw[h] at hty aeb
  obtain⟨hP,hty⟩:=hty
  have hQ:Q≤1:=aeb.1
  obtain⟨e2,p2,hd,hC,hD⟩:=kW (J:=J) (n:=n) (k:=P) d hn (by omega) c 0 0 c
  have w:tp.wrap (((n-P:Nat):Int)+Q)=((n-P+Q:Nat):Int):=by rw[aZ (by omega) (by omega)];rfl
  refine⟨hv (n-P+Q:Nat) d,jM J c e2 p2,aa aI (IU J c r a b nn tg ll le n d c P Q 0 0 true (n-P:Nat) e2 p2 0 0 0) ?_,?_⟩
  · simp only[bD,eC,gp,aG.ok,w,xv,pD,false_implies,true_implies,true_and]
    exact⟨hty,hd,rfl⟩
  show oh J c (bU c P n d fun n1=> .ok (n1+Q) d c) _ _
  unfold bU
  rcases hD rfl with⟨h1,rfl,rfl⟩|⟨h1,rfl,rfl⟩
  · rw[if_neg h1];exact⟨rfl,rfl,rfl⟩
  · rw[if_pos h1];exact⟨_,_,rfl,rfl⟩
theorem ab0 (hJ:Gn J V) (a:Nat) (ha:a<4294967296) : ∃(P Q:Int) (is:Bool),an aeB env 9 [.agg J.M.cells,sI .u32 a] [] (.aD [.agg [sI .i64 P,sI .i64 Q],sB is]) []:=by
 have hty:=hJ.ty a ha
 cases h:V.ty a with
 |none=>rw[h] at hty;exact⟨_,_,_,hty⟩
 |some pr=>rw[h] at hty;exact⟨_,_,_,hty.2⟩
theorem UO (hJ:Gn J V) (hn:n≤1000000000) (a:Nat) (ha:a<4294967296) (ls:List Nat):lO J 142 (cr 17 r a b nn tg ll le) n d c (dW V ls 17 a tg n d c):=by
 obtain⟨P0,Q0,is,hty⟩:=ab0 hJ a ha
 have hin:=hJ.v.ind a
 have hN:J.M.qn≤1000000000:=hJ.v.qn
 have w1:tp.wrap (a:Int)=a:=aZ (by omega) (by omega)
 show lO J 142 _ n d c (match V.ind a with
  |none=> .aU 6 c
  |some (p,r)=>bU c 1 n d fun n1=>bU c p n1 d fun n2=> .ok (n2+r) d c)
 by_cases ht:0<J.M.Al
 · have tt:decide ((J.M.Al:Int)>0)=true:=by simp;omega
   by_cases hlt:a<J.M.qn
   · have hin : ∃p r:Nat,V.ind a=some (p,r)∧r≤1∧J.M.va.getD (a*2) .aU = .sc (.int .i64 p)∧J.M.va.getD (a*2+1) .aU = .sc (.int .i64 r):=by
      rw[if_pos ⟨ht,hlt⟩] at hin;exact hin
     obtain⟨P,Q,hV,hQ,hp,hq⟩:=hin
     have hP:=hJ.Yl _ _ _ hV
     obtain⟨e2,p2,hd,hC,hD⟩:=kW (J:=J) (n:=n) (k:=1) d hn (by omega) c 0 0 c
     obtain⟨e3,p3,hd3,hE,hF⟩:=kW (J:=J) (n:=n-1) (k:=P) d (by omega) (by omega) c e2 p2 c
     have w:tp.wrap (((n-1-P:Nat):Int)+Q)=((n-1-P+Q:Nat):Int):=by rw[aZ (by omega) (by omega)];rfl
     have d1:decide ((a:Int)<J.M.qn)=true:=by simp;omega
     refine⟨hv (n-1-P+Q:Nat) d,jM J c e3 p3,an.eN (aa aI (EP J c r a b nn tg ll le n d c P0 Q0 P Q is (n-1:Nat) e2 p2 (n-1-P:Nat) e3 p3) ?_),?_⟩
     · simp only[bD,gp,gi,br,aG.ok,w1,d1,tt,aeL,hp,hq,au,isInt,ik,w,bE,xv,qf,dO,aeN,jn,decide_eq_true_eq]
       exact⟨an.cW hty,rfl,by omega,an.cW hd,an.cW hd3,rfl⟩
     rw[hV]
     show oh J c (bU c 1 n d fun n1=>bU c P n1 d fun n2=> .ok (n2+Q) d c) _ _
     unfold bU
     rcases hD rfl with⟨h1,rfl,rfl⟩|⟨h1,rfl,rfl⟩
     · rw[if_neg h1]
       dsimp only
       rcases hF rfl with⟨h1,rfl,rfl⟩|⟨h1,rfl,rfl⟩
       · rw[if_neg h1];exact⟨rfl,rfl,rfl⟩
       · rw[if_pos h1];exact⟨_,_,rfl,rfl⟩
     · rw[if_pos h1]
       obtain⟨rfl,rfl⟩:=hE (by decide)
       exact⟨_,_,rfl,rfl⟩
   · have hin:V.ind a=none:=by rw[if_neg (fun q=>hlt q.2)] at hin;exact hin
     have d1:decide ((a:Int)<J.M.qn)=false:=by simp;omega
     rw[hin]
     refine⟨hv n d,jM J c 6 c,an.eN (aa aI (EP J c r a b nn tg ll le n d c P0 Q0 0 0 is 0 0 0 0 0 0) ?_),_,_,rfl,rfl⟩
     simp only[bD,gp,gi,br,aG.ok,w1,d1,tt,xv,qf,dO,aeN]
     exact⟨an.cW hty,rfl,rfl⟩
 · have hin:V.ind a=none:=by rw[if_neg (fun q=>ht q.1)] at hin;exact hin
   have tt:decide ((J.M.Al:Int)>0)=false:=by simp;omega
   rw[hin]
   refine⟨hv n d,jM J c 6 c,an.eN (aa aI (OL J c r a b nn tg ll le n d c P0 Q0 0 0 is 0 0 0 0 0 0) ?_),_,_,rfl,rfl⟩
   simp only[gp,aG.ok,tt,aeN]
   exact⟨an.cW hty,rfl,rfl⟩
end
section
variable {J:Jd} {V:fS} {op r b nn:Int} {tg:List Int} {ll le:List Ins} {n c:Nat} {d:Bool}
theorem Yq (hJ:Gn J V) (op:Int) (a:Nat) (ha:a<4294967296) (c x:Int) :
  an aeB env 143 [.mp 0 0,cr op r a b nn tg ll le,sI .i64 x] (jM J c 0 0) (.aD []) (jM J c (bJ V op a) (if bJ V op a=0 then 0 else x)):=by
 have hal:=UL op
 have w1:tp.wrap (a:Int)=a:=aZ (by omega) (by omega)
 have hown:J.own=V.own:=hJ.v.own
 have hgl:J.M.ny=V.cX.length:=hJ.v.ny
 have hgm:=hJ.v.glM
 have hme:V.mem=decide (0<J.M.so):=hJ.v.me
 have L0:bJ V op a=0→Out.ret (.aD []) (jM J c 0 0)=Out.ret (.aD []) (jM J c (bJ V op a) (if bJ V op a=0 then 0 else x)):=fun h=>by rw[h];rfl
 have L1 : ∀w,bJ V op a=w→w≠0→Out.ret (.aD []) (jM J c w x)=Out.ret (.aD []) (jM J c (bJ V op a) (if bJ V op a=0 then 0 else x)):=fun w h hw=>by rw[h,if_neg hw]
 by_cases o1:32≤op∧op≤34
 · have hn:bJ V op a=if(a:Int)<V.own then 0 else 6:=by unfold bJ;rw[if_pos (by omega)]
   have d1:decide (op≥32)=true:=by simp;omega
   have d2:decide (op≤34)=true:=by simp;omega
   refine an.eN (aa aI (yF J c op r a b nn tg ll le x (dr op) (gI op) false false) ?_)
   simp only[sD,ff,eX,fP,kU,kV,aG.ok,d1,d2,w1,pD,ag1,false_implies,true_implies,and_true]
   refine⟨an.cW hal,fun h=> ?_,fun h=> ?_⟩
   · rw[hown] at h;exact L1 6 (by rw[hn,if_neg];simpa using h) (by decide)
   · rw[hown] at h;exact L0 (by rw[hn,if_pos];simpa using h)
 by_cases o36:op=36
 · subst o36
   have d1:decide ((36:Int)≥32)=true:=rfl
   have d2:decide ((36:Int)≤34)=false:=rfl
   have d3:((36:Int)==35)=false:=rfl
   have d4:((36:Int)==36)=true:=rfl
   by_cases h:V.cX.length≤a
   · have n1:bJ V 36 a=6:=by
      unfold bJ
      rw[if_neg (by decide),if_pos rfl,aeL,dT h]
     have d5:decide ((a:Int)≥J.M.ny)=true:=by simp;omega
     refine an.eN (aa aI (EO J c 36 r a b nn tg ll le x (dr 36) (gI 36) true false) ?_)
     simp only[Ce,ff,qv,qw,jD,br,aG.ok,d1,d2,d3,d4,d5,w1,dO]
     exact⟨an.cW hal,L1 6 n1 (by decide)⟩
   · have d5:decide ((a:Int)≥J.M.ny)=false:=by simp;omega
     obtain⟨mu,hmu⟩ : ∃mu,V.cX[a]? = some mu:=⟨_,df (by omega)⟩
     have hg:J.M.Iq.getD (a*2+0) .aU = .sc (.bool mu):=hJ.v.gl a mu hmu
     have n1:bJ V 36 a=if mu=true then 0 else 212:=by
      unfold bJ
      rw[if_neg (by decide),if_pos rfl,aeL,hmu]
      cases mu<;>rfl
     refine an.eN (aa aI (EO J c 36 r a b nn tg ll le x (dr 36) (gI 36) true false) ?_)
     have hi:bE (a:Int) J.M.ny=true:=by unfold bE;simp;omega
     simp only[Ce,ff,qv,qw,jD,br,aG.ok,d1,d2,d3,d4,d5,w1,hi,hg,aeL,isBool,aW,dy,aeN,dO]
     refine⟨an.cW hal,by decide,fun h=> ?_,fun h=> ?_⟩
     · exact L1 212 (by rw[n1,if_neg (by simpa using h)]) (by decide)
     · exact L0 (by rw[n1,if_pos (by simpa using h)])
 have d1:decide (op≥32)=true→decide (op≤34)=true→False:=fun h1 h2=>o1 ⟨by simpa using h1,by simpa using h2⟩
 have d4:(op==36)=false:=by simpa using o36
 by_cases o35:op=35
 · subst o35
   have n1:bJ V 35 a=if(a:Int)<V.cX.length then 0 else 6:=by unfold bJ;rw[if_neg (by decide),if_neg (by decide),if_pos rfl]
   have d1:decide ((35:Int)≥32)=true:=rfl
   have d2:decide ((35:Int)≤34)=false:=rfl
   have d3:((35:Int)==35)=true:=rfl
   refine an.eN (aa aI (yF J c 35 r a b nn tg ll le x (dr 35) (gI 35) false false) ?_)
   simp only[sD,ff,eX,fP,kU,kV,aG.ok,d1,d2,d3,d4,w1,dy,aeN,dO]
   refine⟨an.cW hal,fun h=> ?_,fun h=>⟨by decide,?_⟩⟩
   · rw[hgl] at h;exact L1 6 (by rw[n1,if_neg];simpa using h) (by decide)
   · rw[hgl] at h;exact L0 (by rw[n1,if_pos];simpa using h)
 have d3:(op==35)=false:=by simpa using o35
 have n1:bJ V op a=if op=63∨op=64 then(if V.mem=true then 0 else 6)
  else if gI op=true then(if V.mem=true then(if dr op<a then 211 else 0) else 6)
  else 0:=by
  unfold bJ
  rw[if_neg (by omega),if_neg o36,if_neg o35]
 refine an.eN (aa aI (yF J c op r a b nn tg ll le x (dr op) (gI op) false false) ?_)
 by_cases hs:gI op=true
 · have o6 : ¬(op=63∨op=64):=by
    unfold gI at hs
    simp only[decide_eq_true_eq] at hs
    omega
   rw[if_neg o6,if_pos hs] at n1
   have M1:((J.M.so:Int)==0)=true→bJ V op a=6:=fun h=>by
    have h:J.M.so=0:=by simpa using h
    rw[n1,hme,h];rfl
   have M2:((J.M.so:Int)==0)=false→bJ V op a=if dr op<a then 211 else 0:=fun h=>by
    have h:J.M.so≠0:=by simpa using h
    rw[n1,hme,if_pos (by simp;omega)]
   have key:(((J.M.so:Int)==0)=true→gI op=true∧(decide ((a:Int)>dr op)=true→Out.ret (.aD []) (jM J c 6 x)=Out.ret (.aD []) (jM J c (bJ V op a) (if bJ V op a=0 then 0 else x)))∧(decide ((a:Int)>dr op)=false→Out.ret (.aD []) (jM J c 6 x)=Out.ret (.aD []) (jM J c (bJ V op a) (if bJ V op a=0 then 0 else x)))) ∧
    (((J.M.so:Int)==0)=false→gI op=true∧(decide ((a:Int)>dr op)=true→Out.ret (.aD []) (jM J c 211 x)=Out.ret (.aD []) (jM J c (bJ V op a) (if bJ V op a=0 then 0 else x)))∧(decide ((a:Int)>dr op)=false→Out.ret (.aD []) (jM J c 0 0)=Out.ret (.aD []) (jM J c (bJ V op a) (if bJ V op a=0 then 0 else x)))):=
    ⟨fun h=>⟨hs,fun _=>L1 6 (M1 h) (by decide),fun _=>L1 6 (M1 h) (by decide)⟩,fun h=>⟨hs,fun q=>L1 211 (by rw[M2 h,if_pos];simpa using q) (by decide),fun q=>L0 (by rw[M2 h,if_neg];simpa using q)⟩⟩
   simp only[sD,ff,eX,fP,kU,kV,aG.ok,d3,d4,dO,qf]
   refine⟨an.cW hal,fun h1=>⟨fun h2=>(d1 h1 h2).elim,fun _=>⟨fun _=>key,fun q=> ?_⟩⟩,fun _=>⟨fun _=>key,fun q=> ?_⟩⟩
   · exact absurd (hs.symm.trans q) (by decide)
   · exact absurd (hs.symm.trans q) (by decide)
 · have hs:gI op=false:=by simpa using hs
   rw[hs,if_neg (c:=false=true) (by decide)] at n1
   rw[hs] at hal
   have M1:(op=63∨op=64)→((J.M.so:Int)==0)=true→bJ V op a=6:=fun o h=>by
    have h:J.M.so=0:=by simpa using h
    rw[n1,if_pos o,hme,h];rfl
   have M2:(op=63∨op=64)→((J.M.so:Int)==0)=false→bJ V op a=0:=fun o h=>by
    have h:J.M.so≠0:=by simpa using h
    rw[n1,if_pos o,hme,if_pos (by simp;omega)]
   have M3 : ¬(op=63∨op=64)→bJ V op a=0:=fun o=>by rw[n1,if_neg o]
   simp only[sD,ff,eX,fP,kU,kV,aG.ok,d3,d4,hs,dO,qf]
   refine⟨an.cW hal,fun h1=>⟨fun h2=>(d1 h1 h2).elim,fun _=>⟨fun o=> ?_,fun o=>⟨fun o2=> ?_,fun o2=> ?_⟩⟩⟩,fun h1=> ?_⟩
   · have o:op=63∨op=64:= .inl (by simpa using o)
     exact⟨fun q=>L1 6 (M1 o q) (by decide),fun q=>L0 (M2 o q)⟩
   · have o:op=63∨op=64:= .inr (by simpa using o2)
     exact⟨fun q=>L1 6 (M1 o q) (by decide),fun q=>L0 (M2 o q)⟩
   · have o : ¬(op=63∨op=64):=by
      simp only[beq_eq_false_iff_ne,ne_eq] at o o2
      exact fun q=>q.elim o o2
     exact L0 (M3 o)
   · have h1 : ¬(op≥32):=by simpa using h1
     exact⟨by simp;omega,by simp;omega,L0 (M3 (by omega))⟩
theorem Lg (hJ:Gn J V) (hn:n≤1000000000) (a:Nat) (ha:a<4294967296) (ls:List Nat)
  (ho:op≠0∧op≠2∧op≠3∧op≠4∧op≠12∧op≠13∧op≠14∧op≠15∧op≠16∧op≠17):lO J 120 (cr op r a b nn tg ll le) n d c (dW V ls op a tg n d c):=by
 obtain⟨o0,o2,o3,o4,Zm,Zn,Zo,Zp,Zq,Zr⟩:=ho
 have hk:gC op≤3:=Om op
 have ht:iw op≤1:=yu op
 have hnm:=Yq (r:=r) (b:=b) (nn:=nn) (tg:=tg) (ll:=ll) (le:=le) hJ op a ha c c
 have hsh:=Ui op
 obtain⟨e2,p2,hd,hC,hD⟩:=kW (J:=J) (n:=n) (k:=gC op) d hn (by omega) c (bJ V op a) (if bJ V op a=0 then 0 else c) c
 have w:tp.wrap (((n-gC op:Nat):Int)+(iw op:Nat))=((n-gC op+iw op:Nat):Int):=by rw[aZ (by omega) (by omega)];rfl
 have f0:(op==0)=false:=by simpa using o0
 have f2:(op==2)=false:=by simpa using o2
 have f3:(op==3)=false:=by simpa using o3
 have f4:(op==4)=false:=by simpa using o4
 have f12:(op==12)=false:=by simpa using Zm
 have f13:(op==13)=false:=by simpa using Zn
 have f14:(op==14)=false:=by simpa using Zo
 have f15:(op==15)=false:=by simpa using Zp
 have f16:(op==16)=false:=by simpa using Zq
 have f17:(op==17)=false:=by simpa using Zr
 refine⟨hv (n-gC op+iw op:Nat) d,jM J c e2 p2,aa aI (lN J c op r a b nn tg ll le n d c (n-gC op:Nat) d 0 e2 p2 0 0 0 (bJ V op a) (if bJ V op a=0 then 0 else c) (gC op:Nat) (iw op:Nat) (wE op)) ?_,?_⟩
 · simp only[lA,bD,fJ,eC,gK,gi,mj,eP,bD,gj,bD,aG.ok,f0,f2,f3,f4,f12,f13,f14,f15,f16,f17,w,pD,false_implies,true_implies,true_and]
   exact⟨hnm,hsh,hd,rfl⟩
 unfold dW
 rw[if_neg Zm,if_neg Zn,if_neg Zo,if_neg Zp,if_neg Zq,if_neg Zr]
 by_cases hz:bJ V op a=0
 · rw[if_neg (by simpa using hz)]
   unfold bU
   rcases hD hz with⟨h1,rfl,rfl⟩|⟨h1,rfl,rfl⟩
   · rw[if_neg h1,if_pos hz];exact⟨rfl,rfl,rfl⟩
   · rw[if_pos h1];exact⟨_,_,rfl,rfl⟩
 · rw[if_pos hz]
   obtain⟨h1,h2⟩:=hC hz
   rw[h1,h2,if_neg hz]
   exact⟨_,_,rfl,rfl⟩
theorem oh.is {J:Jd} {c:Nat} {r:VR} {v:AV} {m:Mem} (h:oh J c r v m) : ∃(n1:Int) (d1:Bool) (e1 p1:Int),v=hv n1 d1∧m=jM J c e1 p1:=by
 cases r with
 |ok n d c'=>exact⟨_,_,_,_,h.1,h.2.1⟩
 |aU e p=>obtain⟨n,d,h1,h2⟩:=h;exact⟨n,d,e,p,h1,h2⟩
theorem lO.run {J:Jd} {f:FuncId} {x:AV} {n:Nat} {d:Bool} {c:Nat} {r:VR} (h:lO J f x n d c r):UM J f x n d c r:=by
 obtain⟨v,m,hd,ho⟩:=h
 refine⟨v,m,hd,?_⟩
 cases r with
 |ok n d c'=>obtain⟨h1,h2,rfl⟩:=ho;exact⟨h1,h2⟩
 |aU e p=>obtain⟨n,d,h1,h2⟩:=ho;exact⟨n,d,c,h1,h2⟩
theorem tD {a:Int} {v:VR} (ho:op=12∨op=13∨op=14∨op=15) (h:lO J 141 (cr op r a b nn tg ll le) n d c v):lO J 120 (cr op r a b nn tg ll le) n d c v:=by
 obtain⟨w,m,hd,hq⟩:=h
 refine⟨w,m,?_,hq⟩
 obtain⟨n1,d1,e1,p1,rfl,rfl⟩:=hq.is
 refine aa aI (lN J c op r a b nn tg ll le n d c n1 d1 0 e1 p1 0 0 0 0 0 0 0 false) ?_
 rcases ho with rfl|rfl|rfl|rfl <;>
 · simp only[lA,bD,fJ,eC,gK,gi,mj,eP,bD,gj,bD,aG.ok,agx,dO]
   exact⟨hd,rfl⟩
theorem ER {a:Int} {v:VR} (ho:op=16∨op=17) (h:lO J 142 (cr op r a b nn tg ll le) n d c v):lO J 120 (cr op r a b nn tg ll le) n d c v:=by
 obtain⟨w,m,hd,hq⟩:=h
 refine⟨w,m,?_,hq⟩
 obtain⟨n1,d1,e1,p1,rfl,rfl⟩:=hq.is
 refine aa aI (lN J c op r a b nn tg ll le n d c n1 d1 0 e1 p1 0 0 0 0 0 0 0 false) ?_
 rcases ho with rfl|rfl <;>
 · simp only[lA,bD,fJ,eC,gK,gi,mj,eP,bD,gj,bD,aG.ok,agx,dO]
   exact⟨hd,rfl⟩
theorem OO {a:Int}:lO J 120 (cr 0 r a b nn tg ll le) n d c (.ok 0 true c):=by
 refine⟨hv (0:Nat) true,jM J c 0 0,aa aI (lN J c 0 r a b nn tg ll le n d c 0 false 0 0 0 0 0 0 0 0 0 0 false) ?_,rfl,rfl,rfl⟩
 simp only[lA,bD,fJ,eC,gK,gi,mj,eP,bD,gj,bD,aG.ok,agx,dO]
 rfl
end
def xC (r a b nn:Int) (tg:List Int) (ll le:List Ins):List PV:=[.sc (.int .i64 14),.sc (.int .i64 r),.sc (.int .u32 a),.sc (.int .u32 b),.sc (.int .i32 nn),.ps tg.length 1 (dg .u32 tg),.ps ll.length 8 (ak ll),.ps le.length 8 (ak le)]
def tkS (J:Jd) (c e p:Int) (r a b nn:Int) (tg:List Int) (ll le:List Ins) (n:Int) (d:Bool) (x:Int) (i:Nat) (t k k2 e1 p1 e2 p2 n1 e3 p3 n2 e4 p4:Int):FuncId→Nat→Nat→Option (AV→AV):=cJ [(141,19,5,sI .u32 t),(141,18,1,sI .i64 (i+1:Nat)),(141,24,5,sI .u32 t),(141,23,1,sI .i64 (i+1:Nat))]
abbrev sG (x0:Jd) (x1:Int) (x2:Int) (x3:Int) (x4:Int) (x5:Int) (x6:Int) (x7:Int) (x8:List Int) (x9:List Ins) (x10:List Ins) (x11:Int) (x12:Bool):Mem:=[jK x0 x1 x2 x3,.tok,.pc [sP 14,sP x4,.sc (.int .u32 x5),.sc (.int .u32 x6),.sc (.int .i32 x7),.ps x8.length 1 (dg acU x8),.ps x9.length 8 (ak x9),.ps x10.length 8 (ak x10)],.pc [sP x11,.sc (.bool x12)],.pc [sP 0,.sc (.bool false)]]
theorem wT (J:Jd) (c e p r a b nn:Int) (tg:List Int) (ll:List Ins) (le:List Ins) (n:Int) (d:Bool) (x:Int) (i:Nat) (t k k2 e1 p1 e2 p2 n1 e3 p3 n2 e4 p4:Int):grow aeB env (fc aB av [(141,3),(141,5)] [(141,0,4)] [(141,19,4),(141,19,5)] (tkS J c e p r a b nn tg ll le n d x i t k k2 e1 p1 e2 p2 n1 e3 p3 n2 e4 p4)) 1000000 true (ah aeB env 141 3 ([AV.mp 0 0,sI tp x,AV.mp 2 0,AV.mp 3 0,AV.mp 4 0,sI tp (↑i:Int)]) ([jB J c e p,bf.tok,bf.pc (xC r a b nn tg ll le),bf.pc [PV.sc (vd tp n),PV.sc (agu d)],bf.pc [PV.sc (vd tp 0),PV.sc (agu false)]]) 2 120) (.fork (.ans 166 (sI .i64 k) ([jK J c e1 p1,.tok]) .fin) (.ans 166 (sI .i64 k) ([jK J c e1 p1,.tok]) .fin)) atEnd =
(.test ((gB i tg))
 (.must ((gA i tg))
 (.must ((j5 tg i))
 (.need ((iR tg i t))
 (.call ⟨166,(eI t x),[jK J c e p,.tok],sI .i64 k,[jK J c e1 p1,.tok]⟩
 (.need ((bK i))
 (.at (ah aeB env 141 3 [.mp 0 0,sI .i64 x,.mp 2 0,.mp 3 0,.mp 4 0,sI .i64 (↑(i+1):Int)] ((sG J c e1 p1 r a b nn tg ll le n d)) 2 120)))))))
 (.call ⟨166,(eI a x),[jK J c e p,.tok],sI .i64 k,[jK J c e1 p1,.tok]⟩
 (.at (ah aeB env 141 5 [.mp 0 0,sI .i64 x,.mp 2 0,.mp 3 0,.mp 4 0,sI .i64 k,sI .i64 0] ((sG J c e1 p1 r a b nn tg ll le n d)) 2 120)))):=by kernel_rfl
def ab1 (J:Jd) (c e p r a b nn:Int) (tg:List Int) (ll:List Ins) (le:List Ins) (n:Int) (d:Bool) (x:Int) (i:Nat) (t k k2 e1 p1 e2 p2 n1 e3 p3 n2 e4 p4:Int):oP:=fc aB av [(141,3),(141,5)] [(141,22,6),(141,0,6),(141,0,7),(122,0,0)] [(141,24,4),(141,24,5)] (tkS J c e p r a b nn tg ll le n d x i t k k2 e1 p1 e2 p2 n1 e3 p3 n2 e4 p4)
def aec (J:Jd) (c e p r a b nn:Int) (tg:List Int) (ll:List Ins) (le:List Ins) (n:Int) (d:Bool) (x:Int) (i:Nat) (t k k2 e1 p1 e2 p2 n1 e3 p3 n2 e4 p4:Int):Sc:=(.fork (.fork (.ans 166 (sI .i64 k2) ([jK J c e1 p1,.tok]) .fin) (.ans 121 ((bD n1 d)) ([jK J c e3 p3,.tok]) (.ans 121 ((bD n2 d)) ([jK J c e4 p4,.tok]) .fin))) (.lit (.ans 121 ((bD n1 d)) ([jK J c e3 p3,.tok]) (.ans 121 ((bD n2 d)) ([jK J c e4 p4,.tok]) .fin))))
def mQ (J:Jd) (c r a b nn:Int) (tg:List Int) (ll:List Ins) (le:List Ins) (n:Int) (d:Bool) (x:Int) (i:Nat) (k e1 p1:Int):aG:=
 (.need ((bK i)) (.at (ah aeB env 141 5 [.mp 0 0,sI .i64 x,.mp 2 0,.mp 3 0,.mp 4 0,sI .i64 k,sI .i64 (↑(i+1):Int)] ((sG J c e1 p1 r a b nn tg ll le n d)) 2 120)))
def mR (J:Jd) (c e p:Int) (n:Int) (d:Bool) (x:Int) (k n1 e3 p3 n2 e4 p4:Int):aG:=
 (.call ⟨121,(gi n d x),[jK J c e p,.tok],(bD n1 d),[jK J c e3 p3,.tok]⟩ (.call ⟨121,(eC n1 d k x),[jK J c e3 p3,.tok],(bD n2 d),[jK J c e4 p4,.tok]⟩ (.out (.ret (.agg [sI .i64 0,sB true]) [jK J c e4 p4,.tok]))))
def wU (J:Jd) (c e p r a b nn:Int) (tg:List Int) (ll:List Ins) (le:List Ins) (n:Int) (d:Bool) (x:Int) (i:Nat) (t k k2 e1 p1 e2 p2 n1 e3 p3 n2 e4 p4:Int):aG:=
 (.test ((gB i tg))
 (.test (e==0)
 (.must ((gA i tg))
 (.must ((j5 tg i))
 (.need ((iR tg i t))
 (.call ⟨166,(eI t x),[jK J c e p,.tok],sI .i64 k2,[jK J c e1 p1,.tok]⟩
 (.test (k2 != k)
 (.test (e1==0)
 (.need ((bK i))
 (.at (ah aeB env 141 5 [.mp 0 0,sI .i64 x,.mp 2 0,.mp 3 0,.mp 4 0,sI .i64 k,sI .i64 (↑(i+1):Int)] ([jK J c 214 x,.tok,.pc [sP 14,sP r,.sc (.int .u32 a),.sc (.int .u32 b),.sc (.int .i32 nn),.ps tg.length 1 (dg acU tg),.ps ll.length 8 (ak ll),.ps le.length 8 (ak le)],.pc [sP n,.sc (.bool d)],.pc [sP 0,.sc (.bool false)]]) 2 120)))
 (mQ J c r a b nn tg ll le n d x i k e1 p1))
 (mQ J c r a b nn tg ll le n d x i k e1 p1))))))
 (mR J c e p n d x k n1 e3 p3 n2 e4 p4))
 (mR J c e p n d x k n1 e3 p3 n2 e4 p4))
theorem Cf (J:Jd) (c e p r a b nn:Int) (tg:List Int) (ll:List Ins) (le:List Ins) (n:Int) (d:Bool) (x:Int) (i:Nat) (t k k2 e1 p1 e2 p2 n1 e3 p3 n2 e4 p4:Int):grow aeB env (ab1 J c e p r a b nn tg ll le n d x i t k k2 e1 p1 e2 p2 n1 e3 p3 n2 e4 p4) 1000000 true (ah aeB env 141 5 ([AV.mp 0 0,sI tp x,AV.mp 2 0,AV.mp 3 0,AV.mp 4 0,sI tp k,sI tp (↑i:Int)]) ([jB J c e p,bf.tok,bf.pc (xC r a b nn tg ll le),bf.pc [PV.sc (vd tp n),PV.sc (agu d)],bf.pc [PV.sc (vd tp 0),PV.sc (agu false)]]) 2 120) (aec J c e p r a b nn tg ll le n d x i t k k2 e1 p1 e2 p2 n1 e3 p3 n2 e4 p4) atEnd=wU J c e p r a b nn tg ll le n d x i t k k2 e1 p1 e2 p2 n1 e3 p3 n2 e4 p4:=by kernel_rfl
section
variable {J:Jd} {V:fS} {r b nn:Int} {tg:List Int} {ll le:List Ins} {n c k:Nat} {d:Bool}
abbrev Zt (c k n:Nat) (d:Bool):VR:=bU c 1 n d fun n1=>bU c k n1 d fun _=> .ok 0 true c
noncomputable abbrev aed (J:Jd) (c:Nat) (e p r a b nn:Int) (tg:List Int) (ll le:List Ins) (n:Nat) (d:Bool) (k i:Nat):cw:=
 ah aeB env 141 5 [.mp 0 0,sI .i64 c,.mp 2 0,.mp 3 0,.mp 4 0,sI .i64 k,sI .i64 i] [jB J c e p,.tok,.pc (xC r a b nn tg ll le),.pc [.sc (.int .i64 n),.sc (.bool d)],.pc [.sc (.int .i64 0),.sc (.bool false)]] 2 120
noncomputable abbrev ab2 (J:Jd) (c:Nat) (e p r a b nn:Int) (tg:List Int) (ll le:List Ins) (n:Nat) (d:Bool) (i:Nat):cw:=
 ah aeB env 141 3 [.mp 0 0,sI .i64 c,.mp 2 0,.mp 3 0,.mp 4 0,sI .i64 i] [jB J c e p,.tok,.pc (xC r a b nn tg ll le),.pc [.sc (.int .i64 n),.sc (.bool d)],.pc [.sc (.int .i64 0),.sc (.bool false)]] 2 120
theorem wW (hn:n≤1000000000) (hk:k≤1) (hl:tg.length≤1000000000) (a e p:Int) (i:Nat) (hi:i≤tg.length) (hz:e≠0∨i=tg.length) :
  ∃e4 p4,bp aeB env (aed J c e p r a b nn tg ll le n d k i) (.ret (hv (0:Nat) true) (jM J c e4 p4))∧(e≠0→e4=e∧p4=p)∧(e=0→p=0→oh J c (Zt c k n d) (hv (0:Nat) true) (jM J c e4 p4)):=by
 obtain⟨e3,p3,h3,hA,hB⟩:=kW (J:=J) (n:=n) (k:=1) d hn (by omega) c e p c
 obtain⟨e4,p4,h4,hC,hD⟩:=kW (J:=J) (n:=n-1) (k:=k) d (by omega) (by omega) c e3 p3 c
 refine⟨e4,p4,af aI (Cf J c e p r a b nn tg ll le n d c i 0 k 0 0 0 0 0 (n-1:Nat) e3 p3 (n-1-k:Nat) e4 p4) ?_,fun he=> ?_,fun he hp=> ?_⟩
 · by_cases he:e=0
   · have hi:i=tg.length:=by rcases hz with h|h;exact absurd he h;exact h
     have d1:decide ((i:Int)<tg.length)=false:=by simp;omega
     simp only[wU,bK,j5,eI,iR,gB,gA,mQ,bK,sG,mR,bD,eC,gi,br,aG.ok,d1,pD,false_implies,true_implies,true_and]
     exact⟨h3,h4,rfl⟩
   · have d2:(e==0)=false:=by simpa using he
     simp only[wU,bK,j5,eI,iR,gB,gA,mQ,bK,sG,mR,bD,eC,gi,br,aG.ok,d2,pD,false_implies,true_implies,true_and]
     exact⟨fun _=>⟨h3,h4,rfl⟩,fun _=>⟨h3,h4,rfl⟩⟩
 · obtain⟨rfl,rfl⟩:=hA he
   exact hC he
 · subst hp
   show oh J c (bU c 1 n d fun n1=>bU c k n1 d fun _=> .ok 0 true c) _ _
   unfold bU
   rcases hB he with⟨h1,rfl,rfl⟩|⟨h1,rfl,rfl⟩
   · rw[if_neg h1]
     dsimp only
     rcases hD rfl with⟨h1,rfl,rfl⟩|⟨h1,rfl,rfl⟩
     · rw[if_neg h1];exact⟨rfl,rfl,rfl⟩
     · rw[if_pos h1];exact⟨_,_,rfl,rfl⟩
   · rw[if_pos h1]
     obtain⟨rfl,rfl⟩:=hC (by decide)
     exact⟨_,_,rfl,rfl⟩
theorem aee (hJ:Gn J V) (hn:n≤1000000000) (hk:k≤1) (hl:tg.length≤1000000000) (ht : ∀t∈tg,0≤t∧t<J.L.length) (a:Int) : ∀m i:Nat,i+m=tg.length →
  ∃e4 p4,bp aeB env (aed J c 0 0 r a b nn tg ll le n d k i) (.ret (hv (0:Nat) true) (jM J c e4 p4)) ∧
   oh J c (if(tg.drop i).all (fun t=>J.L.reverse.getD t.toNat 0==k)=true then Zt c k n d else .aU 214 c) (hv (0:Nat) true) (jM J c e4 p4)
 |0,i,hi=>by
  obtain⟨e4,p4,h1,_,h3⟩:=wW (J:=J) (c:=c) (r:=r) (b:=b) (nn:=nn) (ll:=ll) (le:=le) (d:=d) hn hk hl a 0 0 i (by omega) (.inr (by omega))
  refine⟨e4,p4,h1,?_⟩
  rw[ae4 (by omega)]
  exact h3 rfl rfl
 |m+1,i,hi=>by
  have hlt:i<tg.length:=by omega
  have PC:tg.drop i=tg[i]::tg.drop (i+1):=aeo hlt
  have hmem:tg[i]∈tg:=eQ hlt
  have mE:tg.getD i 0=tg[i]:=by rw[de,df hlt];rfl
  have IV:=kN .u32 tg i hlt
  rw[mE] at IV
  rw[PC]
  obtain⟨tt,htt⟩ : ∃tt:Nat,tg[i]=(tt:Int):=⟨tg[i].toNat,by have:=(ht _ hmem).1;omega⟩
  have hb:=(ht _ hmem).2
  rw[htt] at IV hb ⊢
  have hlen:=hJ.len
  obtain⟨k2,e1,p1,hk2,wX,_,hq,hk3⟩:=yG hJ tt (by omega) c 0 0 c
  have hok:e1=0∧p1=0:=by
   rcases hq rfl with⟨_,h1,h2⟩|⟨h1,_,_⟩
   · exact⟨h1,h2⟩
   · have:=agD.1 h1
     rw[agE] at this
     omega
  obtain⟨rfl,rfl⟩:=hok
  have d1:decide ((i:Int)<tg.length)=true:=by simp;omega
  have w:=fk i (by omega)
  have hi2:bE (i:Int) tg.length=true:=by unfold bE;simp;omega
  by_cases hkk:k2=k
  · obtain⟨e4,p4,h1,h2⟩:=aee hJ hn hk hl ht a m (i+1) (by omega)
    refine⟨e4,p4,af aI (Cf J c 0 0 r a b nn tg ll le n d c i tt k k2 0 0 0 0 0 0 0 0 0 0) ?_,?_⟩
    · have d2:((k2:Int) != k)=false:=by simp;omega
      have d3:((0:Int)==0)=true:=rfl
      simp only[wU,bK,j5,eI,iR,gB,gA,mQ,bK,sG,mR,bD,eC,gi,br,aG.ok,d1,d2,d3,w,hi2,IV,aeL,aez,au,isInt,ik,Yf,aeN,dO]
      exact⟨wX,h1⟩
    · rw[af5]
      have:(J.L.reverse.getD (tt:Int).toNat 0==k)=true:=by rw[aeL,←hk3];simpa using hkk
      rw[this,aeO]
      exact h2
  · obtain⟨e4,p4,h1,h2,_⟩:=wW (J:=J) (c:=c) (r:=r) (b:=b) (nn:=nn) (ll:=ll) (le:=le) (d:=d) hn hk hl a 214 c (i+1) (by omega) (.inl (by decide))
    obtain⟨rfl,rfl⟩:=h2 (by decide)
    refine⟨214,c,af aI (Cf J c 0 0 r a b nn tg ll le n d c i tt k k2 0 0 0 0 0 0 0 0 0 0) ?_,?_⟩
    · have d2:((k2:Int) != k)=true:=by simp;omega
      have d3:((0:Int)==0)=true:=rfl
      simp only[wU,bK,j5,eI,iR,gB,gA,mQ,bK,sG,mR,bD,eC,gi,br,aG.ok,d1,d2,d3,w,hi2,IV,aeL,aez,au,isInt,ik,Yf,aeN,dO]
      exact⟨wX,h1⟩
    · rw[af5]
      have:(J.L.reverse.getD (tt:Int).toNat 0==k)=false:=by rw[aeL,←hk3];simpa using hkk
      rw[this,afc,if_neg (by decide)]
      exact⟨_,_,rfl,rfl⟩
theorem ab3 (hJ:Gn J V) (hl:tg.length≤1000000000) (ht : ∀t∈tg,0≤t∧t<4294967296) (a:Int) (o:Out) (m:Nat) : ∀(i:Nat) (e p:Int),i+m=tg.length →
  bp aeB env (ab2 J c (if e=0 then(if(tg.drop i).all (fun t=>decide (t<J.L.reverse.length))=true then 0 else 6) else e) (if e=0 then(if(tg.drop i).all (fun t=>decide (t<J.L.reverse.length))=true then p else c) else p) r a b nn tg ll le n d tg.length) o →
  bp aeB env (ab2 J c e p r a b nn tg ll le n d i) o:=by
 induction m with
 |zero=>
  intro i e p hi h
  obtain rfl:i=tg.length:=by omega
  rw[ae4 (aw _)] at h
  rw[List.all_nil] at h
  by_cases he:e=0
  · rw[if_pos he,if_pos he,if_pos rfl,if_pos rfl] at h
    rw[he];exact h
  · rw[if_neg he,if_neg he] at h;exact h
 |succ m ih=>
  intro i e p hi h
  have hlt:i<tg.length:=by omega
  have PC:tg.drop i=tg[i]::tg.drop (i+1):=aeo hlt
  have hmem:tg[i]∈tg:=eQ hlt
  have mE:tg.getD i 0=tg[i]:=by rw[de,df hlt];rfl
  have IV:=kN .u32 tg i hlt
  rw[mE] at IV
  rw[PC,af5] at h
  obtain⟨tt,htt⟩ : ∃tt:Nat,tg[i]=(tt:Int):=⟨tg[i].toNat,by have:=(ht _ hmem).1;omega⟩
  have hb:=(ht _ hmem).2
  rw[htt] at IV hb h
  obtain⟨k2,e1,p1,hk2,wX,hE,hq,hk3⟩:=yG hJ tt (by omega) c e p c
  have d1:decide ((i:Int)<tg.length)=true:=by simp;omega
  have w:=fk i (by omega)
  have hi2:bE (i:Int) tg.length=true:=by unfold bE;simp;omega
  refine af aI (wT J c e p r a b nn tg ll le n d c i tt k2 0 e1 p1 0 0 0 0 0 0 0 0) ?_
  simp only[bK,sG,j5,eI,iR,gB,gA,br,aG.ok,d1,w,hi2,IV,aeL,aez,au,isInt,ik,Yf,aeN,dO]
  refine⟨wX,ih (i+1) e1 p1 (by omega) ?_⟩
  by_cases he:e=0
  · rw[if_pos he,if_pos he] at h
    rcases hq he with⟨h1,rfl,rfl⟩|⟨h1,rfl,rfl⟩
    · have hlt:tt<J.L.reverse.length:=(dt.1 h1).1
      have:decide ((tt:Int)<J.L.reverse.length)=true:=by simp at hlt ⊢;omega
      rw[this,aeO] at h
      exact h
    · have hge:=agD.1 h1
      have:decide ((tt:Int)<J.L.reverse.length)=false:=by simp at hge ⊢;omega
      rw[this,afc,if_neg (by decide),if_neg (by decide)] at h
      rw[if_neg (by decide),if_neg (by decide)]
      exact h
  · obtain⟨rfl,rfl⟩:=hE he
    rw[if_neg he,if_neg he] at h ⊢
    exact h
theorem UP (hJ:Gn J V) (hn:n≤1000000000) (hl:tg.length≤1000000000) (ht : ∀t∈tg,0≤t∧t<4294967296) (a:Nat) (ha:a<4294967296):lO J 141 (cr 14 r a b nn tg ll le) n d c (dW V J.L.reverse 14 a tg n d c):=by
 have hlen:J.L.reverse.length=J.L.length:=agE
 have hJl:=hJ.len
 show lO J 141 _ n d c (match zT J.L.reverse tg a with
  |.inl e=> .aU e c
  |.inr k=>bU c 1 n d fun n1=>bU c k n1 d fun _=> .ok 0 true c)
 have d1:decide (((tg.length:Nat):Int)<tg.length)=false:=by simp
 suffices hs : ∃e4 p4,bp aeB env (ab2 J c 0 0 r a b nn tg ll le n d 0) (.ret (hv (0:Nat) true) (jM J c e4 p4))∧oh J c (match zT J.L.reverse tg a with
  |.inl e=> .aU e c
  |.inr k=>bU c 1 n d fun n1=>bU c k n1 d fun _=> .ok 0 true c) (hv (0:Nat) true) (jM J c e4 p4) by
  obtain⟨e4,p4,h1,h2⟩:=hs
  exact⟨_,_,aa aI (UH J c r a b nn tg ll le n d c 0 0 0 0 0 0 0 0 0) (by simp only[aG.ok];exact h1),h2⟩
 unfold zT
 by_cases hall:tg.all (fun t=>decide (t<J.L.reverse.length))=true
 · rw[if_neg (by rw[hall];decide),aeL]
   have ht2 : ∀t∈tg,0≤t∧t<J.L.length:=fun t hm=>⟨(ht t hm).1,by have:=QQ.1 hall t hm;rw[hlen] at this;simpa using this⟩
   obtain⟨k,e1,p1,hk,wX,_,hq,hk3⟩:=yG hJ a ha c 0 0 c
   rcases hq rfl with⟨h1,rfl,rfl⟩|⟨h1,rfl,rfl⟩
   · obtain⟨e4,p4,hg,ho⟩:=aee (c:=c) (r:=r) (b:=b) (nn:=nn) (ll:=ll) (le:=le) (d:=d) hJ hn hk hl ht2 a tg.length 0 (by omega)
     refine⟨e4,p4,ab3 hJ hl ht a _ tg.length 0 0 0 (by omega) ?_,?_⟩
     · rw[adr,hall,if_pos rfl,if_pos rfl,if_pos rfl]
       refine af aI (wT J c 0 0 r a b nn tg ll le n d c tg.length 0 k 0 0 0 0 0 0 0 0 0 0 0) ?_
       simp only[bK,sG,j5,eI,iR,gB,gA,br,aG.ok,d1,pD,false_implies,true_implies,true_and]
       exact⟨wX,hg⟩
     · rw[h1]
       rw[adr] at ho
       dsimp only
       by_cases q:tg.all (fun t=>J.L.reverse.getD t.toNat 0==k)=true
       · rw[if_pos q] at ho ⊢;exact ho
       · rw[if_neg q] at ho ⊢;exact ho
   · obtain⟨e4,p4,hg,h2,_⟩:=wW (J:=J) (c:=c) (k:=k) (r:=r) (b:=b) (nn:=nn) (tg:=tg) (ll:=ll) (le:=le) (d:=d) hn hk hl a 6 c 0 (by omega) (.inl (by decide))
     obtain⟨rfl,rfl⟩:=h2 (by decide)
     refine⟨6,c,ab3 hJ hl ht a _ tg.length 0 0 0 (by omega) ?_,?_⟩
     · rw[adr,hall,if_pos rfl,if_pos rfl,if_pos rfl]
       refine af aI (wT J c 0 0 r a b nn tg ll le n d c tg.length 0 k 0 6 c 0 0 0 0 0 0 0 0) ?_
       simp only[bK,sG,j5,eI,iR,gB,gA,br,aG.ok,d1,pD,false_implies,true_implies,true_and]
       exact⟨wX,hg⟩
     · rw[h1]
       exact⟨_,_,rfl,rfl⟩
 · have hall:tg.all (fun t=>decide (t<J.L.reverse.length))=false:=by simpa using hall
   rw[if_pos hall]
   obtain⟨k,e1,p1,hk,wX,hE,_,_⟩:=yG hJ a ha c 6 c c
   obtain⟨rfl,rfl⟩:=hE (by decide)
   obtain⟨e4,p4,hg,h2,_⟩:=wW (J:=J) (c:=c) (k:=k) (r:=r) (b:=b) (nn:=nn) (tg:=tg) (ll:=ll) (le:=le) (d:=d) hn hk hl a 6 c 0 (by omega) (.inl (by decide))
   obtain⟨rfl,rfl⟩:=h2 (by decide)
   refine⟨6,c,ab3 hJ hl ht a _ tg.length 0 0 0 (by omega) ?_,_,_,rfl,rfl⟩
   rw[adr,hall,if_pos rfl,if_neg (by decide),if_pos rfl,if_neg (by decide)]
   refine af aI (wT J c 6 c r a b nn tg ll le n d c tg.length 0 k 0 6 c 0 0 0 0 0 0 0 0) ?_
   simp only[bK,sG,j5,eI,iR,gB,gA,br,aG.ok,d1,pD,false_implies,true_implies,true_and]
   exact⟨wX,hg⟩
end
end Go.Proofs.YtdmmllcjgjmbbaaGreatDoor.N
end
section
namespace Go.Am
def sH (ls ls':List Nat):Prop:= ∃q,ls'=ls++q
theorem sH.get {ls ls':List Nat} (h:sH ls ls') {i k:Nat} (hi:ls[i]? = some k):ls'[i]? = some k:=by
 obtain⟨q,rfl⟩:=h
 obtain⟨h1,h2⟩:=dt.1 hi
 rw[List.getElem?_append_left h1,hi]
theorem sH.len {ls ls':List Nat} (h:sH ls ls'):ls.length≤ls'.length:=by obtain⟨q,rfl⟩:=h;simp
theorem sH.cons {ls ls':List Nat} (h:sH ls ls') (k:Nat):sH (k::ls) (k::ls'):=by obtain⟨q,rfl⟩:=h;exact⟨q,rfl⟩
def tS (n:Nat) (d:Bool) (n':Nat) (d':Bool):Prop:=(n'=n∧d'=d)∨(d'=true∧n'≤n)
theorem tS.refl (n:Nat) (d:Bool):tS n d n d:= .inl ⟨rfl,rfl⟩
def wY (a b:VR):Prop:= ∀n d c,a = .ok n d c → ∃n' d' c',b = .ok n' d' c'∧tS n d n' d'
theorem wY.aU {e:Int} {p:Nat} {b:VR}:wY (.aU e p) b:=fun n d c h=>by cases h
theorem wY.ok {n n' c c':Nat} {d d':Bool} (h:tS n d n' d'):wY (.ok n d c) (.ok n' d' c'):=fun n1 d1 c1 e=>by
 cases e
 exact⟨n',d',c',rfl,h⟩
theorem wY.pop {p p' k n n':Nat} {d d':Bool} {f f':Nat→VR} (h:tS n d n' d') (hf : ∀m m',tS m d m' d'→wY (f m) (f' m')):wY (bU p k n d f) (bU p' k n' d' f'):=by
 unfold bU
 by_cases h1:n<k∧d=false
 · rw[if_pos h1];exact .aU
 · rw[if_neg h1]
   have h2 : ¬(n'<k∧d'=false):=by
    rcases h with⟨rfl,rfl⟩|⟨rfl,h⟩
    · exact h1
    · simp
   rw[if_neg h2]
   refine hf _ _ ?_
   rcases h with⟨rfl,rfl⟩|⟨rfl,h⟩
   · exact .refl _ _
   · exact .inr ⟨rfl,by omega⟩
theorem wY.dx {r n n' p p':Nat} {d d':Bool} {f f':VR} (h:tS n d n' d') (hf:wY f f'):wY (dx r n d p f) (dx r n' d' p' f'):=by
 unfold Am.dx
 refine wY.pop h fun m m' hm=> ?_
 by_cases h1:0<m
 · rw[if_pos h1];exact .aU
 · rw[if_neg h1,if_neg (by rcases hm with⟨rfl,_⟩|⟨_,q⟩<;>omega)]
   exact hf
theorem tS.add {n n':Nat} {d d':Bool} (h:tS n d n' d') (k:Nat):tS (n+k) d (n'+k) d':=by
 rcases h with⟨rfl,rfl⟩|⟨rfl,h⟩
 · exact .refl _ _
 · exact .inr ⟨rfl,by omega⟩
theorem OP {ls ls':List Nat} (h:sH ls ls') {tags:List Int} {a:Int} {k:Nat} (ht : ∀t∈tags,0≤t) (e:zT ls tags a = .inr k):zT ls' tags a = .inr k:=by
 unfold zT at e ⊢
 split at e
 · cases e
 rename_i h1
 have h1:tags.all (fun t=>decide (t<ls.length))=true:=by simpa using h1
 have h2:tags.all (fun t=>decide (t<ls'.length))=true:=by
  rw[QQ] at h1 ⊢
  intro t hm
  have:=h1 t hm
  have:=h.len
  simp only[decide_eq_true_eq] at *
  omega
 rw[if_neg (by rw[h2];simp)]
 split at e
 · cases e
 rename_i k' hk
 rw[h.get hk]
 dsimp only
 split at e
 · rename_i h3
   rw[if_pos]
   · exact e
   · rw[QQ] at h3 ⊢
     intro t hm
     have h3:=h3 t hm
     have h4:=QQ.1 h1 t hm
     simp only[decide_eq_true_eq] at h4
     have hlt:t.toNat<ls.length:=by have:=ht t hm;omega
     have e1:ls'.getD t.toNat 0=ls.getD t.toNat 0:=by
      rw[de,de,df hlt,h.get (df hlt)]
     rw[e1];exact h3
 · cases e
theorem Lh {V:fS} {ls ls':List Nat} (h:sH ls ls') {op a:Int} {tags:List Int} {n n' c c':Nat} {d d':Bool} (ht : ∀t∈tags,0≤t) (hw:tS n d n' d'):wY (dW V ls op a tags n d c) (dW V ls' op a tags n' d' c'):=by
 unfold dW
 by_cases o:op=12
 · rw[if_pos o,if_pos o]
   cases hk:ls[a.toNat]? with
   |none=>exact .aU
   |some k=>rw[h.get hk];exact .pop hw fun _ _ _=> .ok (.refl _ _)
 rw[if_neg o,if_neg o];clear o
 by_cases o:op=13
 · rw[if_pos o,if_pos o]
   cases hk:ls[a.toNat]? with
   |none=>exact .aU
   |some k=>rw[h.get hk];exact .pop hw fun _ _ q=> .pop q fun _ _ q=> .ok (q.add _)
 rw[if_neg o,if_neg o];clear o
 by_cases o:op=14
 · rw[if_pos o,if_pos o]
   cases hk:zT ls tags a with
   |inl e=>exact .aU
   |inr k=>rw[OP h ht hk];exact .pop hw fun _ _ q=> .pop q fun _ _ q=> .ok (.refl _ _)
 rw[if_neg o,if_neg o];clear o
 by_cases o:op=15
 · rw[if_pos o,if_pos o];exact .pop hw fun _ _ _=> .ok (.refl _ _)
 rw[if_neg o,if_neg o];clear o
 by_cases o:op=16
 · rw[if_pos o,if_pos o]
   cases V.ty a with
   |none=>exact .aU
   |some pr=>exact .pop hw fun _ _ q=> .ok (q.add _)
 rw[if_neg o,if_neg o];clear o
 by_cases o:op=17
 · rw[if_pos o,if_pos o]
   cases V.ind a with
   |none=>exact .aU
   |some pr=>exact .pop hw fun _ _ q=> .pop q fun _ _ q=> .ok (q.add _)
 rw[if_neg o,if_neg o];clear o
 by_cases o:bJ V op a≠0
 · rw[if_pos o,if_pos o];exact .aU
 rw[if_neg o,if_neg o]
 exact .pop hw fun _ _ q=> .ok (q.add _)
theorem UQ {op r a b nn:Int} {tags:List Int} {l e:List Ins} (h:Jt (.mk op r a b nn tags l e)) : ∀t∈tags,0≤t:=fun t ht=>by
 have:=h.2.2.2.2.2.1.2 t ht
 have h0:acU.min=0:=rfl
 simp[Lit.wf] at this
 omega
mutual
theorem yw {V:fS} : ∀(x:Ins) {ls ls':List Nat} (h:sH ls ls') (hx:Jt x) {n n':Nat} {d d':Bool} (c c':Nat) (hw:tS n d n' d'),wY (gQ V ls x n d c) (gQ V ls' x n' d' c')
 |.mk op r a b nn tags l e,ls,ls',h,hx,n,n',d,d',c,c',hw=>by
  have hl:=hx.2.2.2.2.2.2.1.2
  have he:=hx.2.2.2.2.2.2.2.2
  simp only[gQ]
  by_cases o:op=0
  · rw[if_pos o,if_pos o];exact .ok (.refl _ _)
  rw[if_neg o,if_neg o];clear o
  by_cases o:op=2∨op=3
  · rw[if_pos o,if_pos o]
    have ih:=iF (V:=V) l (h.cons (if op=3 then 0 else r.toNat)) hl c c' (tS.refl 0 false)
    cases hk:cM V ((if op=3 then 0 else r.toNat)::ls) l 0 false c with
    |aU e p=>exact .aU
    |ok n1 d1 c1=>
     obtain⟨n2,d2,c2,e2,w2⟩:=ih _ _ _ hk
     rw[e2]
     exact .dx w2 (.ok (hw.add _))
  rw[if_neg o,if_neg o];clear o
  by_cases o:op=4
  · rw[if_pos o,if_pos o]
    refine .pop hw fun m m' hm=> ?_
    have ih:=iF (V:=V) l (h.cons r.toNat) hl c c' (tS.refl 0 false)
    cases hk:cM V (r.toNat::ls) l 0 false c with
    |aU e p=>exact .aU
    |ok n1 d1 c1=>
     obtain⟨n2,d2,c2,e2,w2⟩:=ih _ _ _ hk
     rw[e2]
     refine .dx w2 ?_
     have ih:=iF (V:=V) e (h.cons r.toNat) he c1 c2 (tS.refl 0 false)
     cases hk:cM V (r.toNat::ls) e 0 false c1 with
     |aU e p=>exact .aU
     |ok n3 d3 c3=>
      obtain⟨n4,d4,c4,e4,w4⟩:=ih _ _ _ hk
      rw[e4]
      exact .dx w4 (.ok (hm.add _))
  rw[if_neg o,if_neg o]
  exact Lh h (UQ hx) hw
theorem iF {V:fS} : ∀(l:List Ins) {ls ls':List Nat} (h:sH ls ls') (hx:Ke l) {n n':Nat} {d d':Bool} (c c':Nat) (hw:tS n d n' d'),wY (cM V ls l n d c) (cM V ls' l n' d' c')
 |[],ls,ls',h,hx,n,n',d,d',c,c',hw=>by
  simp only[cM]
  exact .ok hw
 |x::r,ls,ls',h,hx,n,n',d,d',c,c',hw=>by
  simp only[cM]
  have ih:=yw (V:=V) x h hx.1 (c+1) (c'+1) hw
  cases hk:gQ V ls x n d (c+1) with
  |aU e p=>exact .aU
  |ok n1 d1 c1=>
   obtain⟨n2,d2,c2,e2,w2⟩:=ih _ _ _ hk
   rw[e2]
   exact iF r h hx.2 c1 c2 w2
end
theorem Jw {e:Int} (he:e≠0):e≠0:=he
theorem Yr {ls:List Nat} {tags:List Int} {a e:Int} (h:zT ls tags a = .inl e):e≠0:=by
 unfold zT at h
 split at h
 · cases h;decide
 split at h
 · cases h;decide
 split at h
 · cases h
 · cases h;decide
def NB (a:VR):Prop:= ∀e p,a = .aU e p→e≠0
theorem NB.ok {n c:Nat} {d:Bool}:NB (.ok n d c):=fun _ _ h=>by cases h
theorem NB.aU {e:Int} {p:Nat} (h:e≠0):NB (.aU e p):=fun _ _ q=>by cases q;exact h
theorem NB.pop {p k n:Nat} {d:Bool} {f:Nat→VR} (h : ∀m,NB (f m)):NB (bU p k n d f):=by
 unfold bU
 split
 · exact .aU (by decide)
 · exact h _
theorem NB.dx {r n p:Nat} {d:Bool} {f:VR} (h:NB f):NB (dx r n d p f):=by
 unfold Am.dx
 refine .pop fun m=> ?_
 split
 · exact .aU (by decide)
 · exact h
theorem NB.flat {V:fS} {ls:List Nat} {op a:Int} {tags:List Int} {n c:Nat} {d:Bool}:NB (dW V ls op a tags n d c):=by
 unfold dW
 split
 · split
   · exact .aU (by decide)
   · exact .pop fun _=> .ok
 split
 · split
   · exact .aU (by decide)
   · exact .pop fun _=> .pop fun _=> .ok
 split
 · split
   · rename_i e he;exact .aU (Yr he)
   · exact .pop fun _=> .pop fun _=> .ok
 split
 · exact .pop fun _=> .ok
 split
 · split
   · exact .aU (by decide)
   · exact .pop fun _=> .ok
 split
 · split
   · exact .aU (by decide)
   · exact .pop fun _=> .pop fun _=> .ok
 split
 · rename_i h;exact .aU h
 · exact .pop fun _=> .ok
mutual
theorem NB.ins {V:fS} : ∀(x:Ins) (ls:List Nat) (n:Nat) (d:Bool) (c:Nat),NB (gQ V ls x n d c)
 |.mk op r a b nn tags l e,ls,n,d,c=>by
  simp only[gQ]
  by_cases o:op=0
  · rw[if_pos o];exact .ok
  rw[if_neg o];clear o
  by_cases o:op=2∨op=3
  · rw[if_pos o]
    have ih:=NB.list (V:=V) l ((if op=3 then 0 else r.toNat)::ls) 0 false c
    cases hk:cM V ((if op=3 then 0 else r.toNat)::ls) l 0 false c with
    |aU e p=>rw[hk] at ih;exact ih
    |ok n1 d1 c1=>exact .dx .ok
  rw[if_neg o];clear o
  by_cases o:op=4
  · rw[if_pos o]
    refine .pop fun m=> ?_
    have ih:=NB.list (V:=V) l (r.toNat::ls) 0 false c
    cases hk:cM V (r.toNat::ls) l 0 false c with
    |aU e p=>rw[hk] at ih;exact ih
    |ok n1 d1 c1=>
     refine .dx ?_
     have ih:=NB.list (V:=V) e (r.toNat::ls) 0 false c1
     cases hk:cM V (r.toNat::ls) e 0 false c1 with
     |aU e p=>rw[hk] at ih;exact ih
     |ok n3 d3 c3=>exact .dx .ok
  rw[if_neg o]
  exact .flat
theorem NB.list {V:fS} : ∀(l:List Ins) (ls:List Nat) (n:Nat) (d:Bool) (c:Nat),NB (cM V ls l n d c)
 |[],ls,n,d,c=>by simp only[cM];exact .ok
 |x::r,ls,n,d,c=>by
  simp only[cM]
  have ih:=NB.ins (V:=V) x ls n d (c+1)
  cases hk:gQ V ls x n d (c+1) with
  |aU e p=>rw[hk] at ih;exact ih
  |ok n1 d1 c1=>exact NB.list r ls n1 d1 c1
end
end Go.Am
end
section
namespace Go.Proofs.YtdmmllcjgjmbbaaGreatDoor.N
open Go Go.Am
theorem jw {p k n n1 c1:Nat} {d d1:Bool} {f:Nat→VR} (h:bU p k n d f = .ok n1 d1 c1):f (n-k) = .ok n1 d1 c1:=by
 unfold bU at h
 split at h
 · cases h
 · exact h
theorem Gp {r p n n1 c1:Nat} {d d1:Bool} {f:VR} (h:dx r n d p f = .ok n1 d1 c1):f = .ok n1 d1 c1:=by
 unfold dx at h
 have h:=jw h
 split at h
 · cases h
 · exact h
structure PG (V:fS):Prop where
 ret:V.ret≤1
 ty : ∀a p r,V.ty a=some (p,r)→r≤1
 ind : ∀a p r,V.ind a=some (p,r)→r≤1
theorem Ys {V:fS} (hV:PG V) {ls:List Nat} (hls : ∀k∈ls,k≤1) {op a:Int} {tags:List Int} {n c n1 c1:Nat} {d d1:Bool} (h:dW V ls op a tags n d c = .ok n1 d1 c1):n1≤n+1∧c1=c:=by
 have ht:=yu op
 unfold dW at h
 split at h
 · split at h
   · cases h
   · have h:=jw h;cases h;exact⟨by omega,rfl⟩
 split at h
 · split at h
   · cases h
   · rename_i k hk
     have hk:=hls k (mf hk)
     have h:=jw (jw h);cases h;exact⟨by omega,rfl⟩
 split at h
 · split at h
   · cases h
   · have h:=jw (jw h);cases h;exact⟨by omega,rfl⟩
 split at h
 · have h:=jw h;cases h;exact⟨by omega,rfl⟩
 split at h
 · split at h
   · cases h
   · rename_i p r hr
     have:=hV.ty _ _ _ hr
     have h:=jw h;cases h;exact⟨by omega,rfl⟩
 split at h
 · split at h
   · cases h
   · rename_i p r hr
     have:=hV.ind _ _ _ hr
     have h:=jw (jw h);cases h;exact⟨by omega,rfl⟩
 split at h
 · cases h
 · have h:=jw h;cases h;exact⟨by omega,rfl⟩
mutual
theorem Gq {V:fS} (hV:PG V) : ∀(x:Ins) (ls:List Nat) (hls : ∀k∈ls,k≤1) (hr:Gw Cc x=true) (n:Nat) (d:Bool) (c n1:Nat) (d1:Bool) (c1:Nat),gQ V ls x n d c = .ok n1 d1 c1→n1≤n+1∧c≤c1∧c1+1≤c+jz x
 |.mk op r a b nn tags l e,ls,hls,hr,n,d,c,n1,d1,c1,h=>by
  simp only[Gw,jn] at hr
  obtain⟨CN,hrl,hre⟩:=hr
  have CN:0≤r∧r≤1:=of_decide_eq_true CN
  have hN:jz (.mk op r a b nn tags l e)=1+bF l+bF e:=by simp only[jz]
  rw[hN]
  simp only[gQ] at h
  by_cases o:op=0
  · rw[if_pos o] at h;cases h;omega
  rw[if_neg o] at h;clear o
  by_cases o:op=2∨op=3
  · rw[if_pos o] at h
    cases hk:cM V ((if op=3 then 0 else r.toNat)::ls) l 0 false c with
    |aU e p=>rw[hk] at h;cases h
    |ok n2 d2 c2=>
     rw[hk] at h
     have h:=Gp h
     cases h
     have:=wZ hV l ((if op=3 then 0 else r.toNat)::ls) (by
      intro k hk
      rcases pB.1 hk with rfl|hk
      · split<;>omega
      · exact hls k hk) hrl _ _ _ _ _ _ hk
     omega
  rw[if_neg o] at h;clear o
  by_cases o:op=4
  · rw[if_pos o] at h
    have h:=jw h
    have aef : ∀k∈r.toNat::ls,k≤1:=by
     intro k hk
     rcases pB.1 hk with rfl|hk
     · omega
     · exact hls k hk
    cases hk:cM V (r.toNat::ls) l 0 false c with
    |aU e p=>rw[hk] at h;cases h
    |ok n2 d2 c2=>
     rw[hk] at h
     have h:=Gp h
     have:=wZ hV l _ aef hrl _ _ _ _ _ _ hk
     cases hk2:cM V (r.toNat::ls) e 0 false c2 with
     |aU e p=>rw[hk2] at h;cases h
     |ok n3 d3 c3=>
      rw[hk2] at h
      have h:=Gp h
      cases h
      have:=wZ hV e _ aef hre _ _ _ _ _ _ hk2
      omega
  rw[if_neg o] at h
  obtain⟨h1,rfl⟩:=Ys hV hls h
  omega
theorem wZ {V:fS} (hV:PG V) : ∀(l:List Ins) (ls:List Nat) (hls : ∀k∈ls,k≤1) (hr:th Cc l=true) (n:Nat) (d:Bool) (c n1:Nat) (d1:Bool) (c1:Nat),cM V ls l n d c = .ok n1 d1 c1→(n≤c→n1≤c1)∧c≤c1∧c1≤c+bF l
 |[],ls,hls,hr,n,d,c,n1,d1,c1,h=>by
  simp only[cM] at h
  cases h
  omega
 |x::r,ls,hls,hr,n,d,c,n1,d1,c1,h=>by
  simp only[th,jn] at hr
  simp only[cM] at h
  simp only[bF]
  cases hk:gQ V ls x n d (c+1) with
  |aU e p=>rw[hk] at h;cases h
  |ok n2 d2 c2=>
   rw[hk] at h
   have h1:=Gq hV x ls hls hr.1 _ _ _ _ _ _ hk
   have h2:=wZ hV r ls hls hr.2 _ _ _ _ _ _ h
   omega
end
def ES (J:Jd) (r:VR) (m:Mem):Prop:=match r with
 |.ok _ _ c=>m=jM J c 0 0
 |.aU e p=> ∃c:Int,m=jM J c e p
abbrev qx (J:Jd) (lab:Nat):Jd:={J with L:=J.L++[lab]}
abbrev Yt (rs x:Nat) (r:VR):VR:=match r with
 |.aU e p=> .aU e p
 |.ok n d c=>dx rs n d x (.ok 0 false c)
noncomputable abbrev OQ (J:Jd) (W:List Nat) (l:List Ins) (i:Nat) (rs x:Nat) (n:Int) (d:Bool) (c e p:Int):cw:=
 ah aeB env 86 0 [.mp 0 0,aL l,sI .i64 rs,sI .i64 x,wos W,.mp 2 0,sI .i64 i] [jB3 J 3 c e p,.tok,.pc [.sc (.int .i64 n),.sc (.bool d)],.tok] 2 78
section
variable {J:Jd} {V:fS}
theorem OR (W:List Nat) (l:List Ins) (i rs x:Nat) (n:Int) (d:Bool) (c:Int) {e:Int} (p:Int) (he:e≠0) :
  bp aeB env (OQ J W l i rs x n d c e p) (.ret (.aD []) (jM {J with L:=W} c e p)):=by
 have d2:(e==0)=false:=by simpa using he
 refine af aI (sE J W l i rs x n d c e p 0 false 0 0 0 0 0 0 0 0 0 0 0 [] [] []) ?_
 simp only[bK,qL,bD,qK,wQ,dh,eC,br,aG.ok,d2,pD,false_implies,true_implies,true_and,qf]
 exact⟨fun _=>rfl,fun _=>rfl⟩
theorem OS (W:List Nat) (l:List Ins) (rs x n:Nat) (d:Bool) (c:Nat) (hn:n≤1000000000) (hr:rs≤1) :
  ∃m,bp aeB env (OQ J W l l.length rs x n d c 0 0) (.ret (.aD []) m)∧ES {J with L:=W} (dx rs n d x (.ok 0 false c)) m:=by
 obtain⟨e2,p2,hd,hC,hD⟩:=kW (J:=J) (n:=n) (k:=rs) d hn (by omega) c 0 0 x
 have d1:decide (((l.length:Nat):Int)<l.length)=false:=by simp
 have d0:((0:Int)==0)=true:=rfl
 unfold dx bU
 rcases hD rfl with⟨h1,rfl,rfl⟩|⟨h1,rfl,rfl⟩
 · rw[if_neg h1]
   dsimp only
   by_cases hz:0<n-rs
   · rw[if_pos hz]
     have d3:decide (((n-rs:Nat):Int)>0)=true:=by simp;omega
     refine⟨jM {J with L:=W} c 201 x,af aI (sE J W l l.length rs x n d c 0 0 0 false 0 0 0 (n-rs:Nat) 0 0 0 0 0 0 0 [] [] []) ?_,c,rfl⟩
     simp only[bK,qL,bD,qK,wQ,dh,eC,br,aG.ok,d0,d1,d3,dO]
     exact⟨hd,rfl⟩
   · rw[if_neg hz]
     have d3:decide (((n-rs:Nat):Int)>0)=false:=by simp;omega
     refine⟨jM {J with L:=W} c 0 0,af aI (sE J W l l.length rs x n d c 0 0 0 false 0 0 0 (n-rs:Nat) 0 0 0 0 0 0 0 [] [] []) ?_,rfl⟩
     simp only[bK,qL,bD,qK,wQ,dh,eC,br,aG.ok,d0,d1,d3,dO]
     exact⟨hd,rfl⟩
 · rw[if_pos h1]
   refine⟨jM {J with L:=W} c 200 x,af aI (sE J W l l.length rs x n d c 0 0 0 false 0 0 0 (n-rs:Nat) 200 x 0 0 0 0 0 [] [] []) ?_,c,rfl⟩
   have d3:decide (((n-rs:Nat):Int)>0)=false:=by simp;omega
   have d4:((200:Int)==0)=false:=rfl
   simp only[bK,qL,bD,qK,wQ,dh,eC,br,aG.ok,d0,d1,d3,d4,dO]
   exact⟨hd,rfl⟩
end
theorem qy (r n p0:Nat) (d:Bool):(∃e p,e≠0 ∧ ∀f,dx r n d p0 f = .aU e p) ∨ ∀f,dx r n d p0 f=f:=by
 unfold dx bU
 by_cases h1:n<r∧d=false
 · exact .inl ⟨200,p0,by decide,fun f=>by rw[if_pos h1]⟩
 · by_cases h2:0<n-r
   · exact .inl ⟨201,p0,by decide,fun f=>by rw[if_neg h1];dsimp only;rw[if_pos h2]⟩
   · exact .inr fun f=>by rw[if_neg h1];dsimp only;rw[if_neg h2]
section
variable {V:fS}
def JI (J:Jd) (V:fS) (x:Ins):Prop:= ∀(n:Nat) (d:Bool) (c:Nat),n≤c→c+jz x≤1000000001→UM J 120 (HB x) n d c (gQ V J.L.reverse x n d c)
def JL (J:Jd) (V:fS) (l:List Ins):Prop:= ∀lab rs x c:Nat,lab≤1→rs≤1→c+bF l≤1000000000 →
 ∃m,an aeB env 86 [.mp 0 0,aL l,sI .i64 lab,sI .i64 rs,sI .i64 x] (jM J c 0 0) (.aD []) m∧ES J (Yt rs x (cM V (lab::J.L.reverse) l 0 false c)) m
theorem Lj {J:Jd} (hV:PG V) (hls : ∀k∈J.L.reverse,k≤1) (W:List Nat) (l:List Ins) (hres:th Cc l=true) (hlen:bF l≤1000000000) (IH : ∀x∈l,JI J V x) (rs x:Nat) (hr:rs≤1) (m:Nat) :
  ∀(i n:Nat) (d:Bool) (c:Nat),i+m=l.length→n≤c→c+bF (l.drop i)≤1000000000 →
  ∃mm,bp aeB env (OQ J W l i rs x n d c 0 0) (.ret (.aD []) mm)∧ES {J with L:=W} (Yt rs x (cM V J.L.reverse (l.drop i) n d c)) mm:=by
 induction m with
 |zero=>
  intro i n d c hi hn hc
  obtain rfl:i=l.length:=by omega
  rw[ae4 (aw _)] at hc ⊢
  simp only[cM]
  exact OS W l rs x n d c (by omega) hr
 |succ m ih=>
  intro i n d c hi hn hc
  have hlt:i<l.length:=by omega
  have MZ:=eu l
  have PC:l.drop i=l[i]::l.drop (i+1):=aeo hlt
  have CT:l[i]? = some l[i]:=df hlt
  have hmem:l[i]∈l:=eQ hlt
  have hI:=IH _ hmem
  have hok:=tB hres _ hmem
  rw[PC] at hc ⊢
  simp only[bF] at hc
  generalize l[i]=y at *
  have hrun:=hI n d (c+1) (by omega) (by omega)
  obtain⟨v,mm,hd,ho⟩:=hrun
  obtain⟨op,r,a,b,nn,tg,ll,le⟩:=y
  have hc0:=oS CT
  have k0:(ak l).getD (i*8) .aU = .sc (.int .i64 op):=hc0 0 (by omega)
  have k1:(ak l).getD (i*8+1) .aU = .sc (.int .i64 r):=hc0 1 (by omega)
  have k2:(ak l).getD (i*8+1+1) .aU = .sc (.int .u32 a):=hc0 2 (by omega)
  have k3:(ak l).getD (i*8+1+1+1) .aU = .sc (.int .u32 b):=hc0 3 (by omega)
  have k4:(ak l).getD (i*8+1+1+1+1) .aU = .sc (.int .i32 nn):=hc0 4 (by omega)
  have k5:(ak l).getD (i*8+1+1+1+1+1) .aU = .ps tg.length 1 (dg .u32 tg):=hc0 5 (by omega)
  have k6:(ak l).getD (i*8+1+1+1+1+1+1) .aU = .ps ll.length 8 (ak ll):=hc0 6 (by omega)
  have k7:(ak l).getD (i*8+1+1+1+1+1+1+1) .aU = .ps le.length 8 (ak le):=hc0 7 (by omega)
  have d0:((0:Int)==0)=true:=rfl
  have d1:decide ((i:Int)<l.length)=true:=by simp;omega
  have w:=fk i (by omega)
  have w2:=fk c (by omega)
  have hi2:bE (i:Int) l.length=true:=by unfold bE;simp;omega
  have hvl:cM V J.L.reverse (.mk op r a b nn tg ll le::l.drop (i+1)) n d c=(match gQ V J.L.reverse (.mk op r a b nn tg ll le) n d (c+1) with
   |.aU e p=> .aU e p
   |.ok n1 d1 c1=>cM V J.L.reverse (l.drop (i+1)) n1 d1 c1):=by
   simp only[cM]
   cases gQ V J.L.reverse (.mk op r a b nn tg ll le) n d (c+1)<;>rfl
  rw[hvl]
  have key : ∀(n1:Int) (C2:Bool) (c1 e1 p1:Int) (o:Out),v=hv n1 C2→mm=jM J c1 e1 p1→bp aeB env (OQ J W l (i+1) rs x n1 C2 c1 e1 p1) o→bp aeB env (OQ J W l i rs x n d c 0 0) o:=by
   intro n1 C2 c1 e1 p1 o hv hm hg
   subst hv
   subst hm
   refine af aI (sE J W l i rs x n d c 0 0 n1 C2 c1 e1 p1 0 0 0 op r a b nn tg ll le) ?_
   simp only[bK,qL,bD,qK,wQ,dh,eC,br,aG.ok,d0,d1,w,w2,hi2,k0,k1,k2,k3,k4,k5,k6,k7,aeL,au,aq,aK,aj,isInt,aX,ik,Yf,iki,aeN,ag2,dO]
   exact⟨hd,hg⟩
  cases Yu:gQ V J.L.reverse (.mk op r a b nn tg ll le) n d (c+1) with
  |aU e p=>
   rw[Yu] at ho
   obtain⟨n1,C2,c1,rfl,rfl⟩:=ho
   have hne:e≠0:=NB.ins _ _ _ _ _ _ _ Yu
   exact⟨_,key n1 C2 c1 e p _ rfl rfl (OR W l (i+1) rs x n1 C2 c1 p hne),c1,rfl⟩
  |ok n1 C2 c1=>
   rw[Yu] at ho
   obtain⟨rfl,rfl⟩:=ho
   have hle:=Gq hV _ _ hls hok _ _ _ _ _ _ Yu
   obtain⟨mm2,hg,hq⟩:=ih (i+1) n1 C2 c1 (by omega) (by omega) (by omega)
   exact⟨mm2,key n1 C2 c1 0 0 _ rfl rfl hg,hq⟩
theorem UR {J:Jd} (hV:PG V) (l:List Ins) (hres:th Cc l=true) (hlen:bF l≤1000000000) (hL : ∀k∈J.L,k≤1) (hLn:J.L.length≤1000) (IH : ∀lab≤1,∀x∈l,JI (qx J lab) V x):JL J V l:=by
 intro lab rs x c tQ hr hc
 have hls : ∀k∈(qx J lab).L.reverse,k≤1:=by
  intro k hk
  have hk:k∈J.L++[lab]:=agF.1 hk
  rcases oE.1 hk with hk|hk
  · exact hL k hk
  · simp only[aet] at hk;omega
 obtain⟨mm,hg,hq⟩:=Lj (J:=qx J lab) hV hls J.L l hres hlen (IH lab tQ) rs x hr l.length 0 0 false c (by omega) (by omega) (by simpa using hc)
 have ab4:(qx J lab).L.reverse=lab::J.L.reverse:=by show(J.L++[lab]).reverse=_;simp
 rw[adr,ab4] at hq
 refine⟨mm,aa aI (UI J c l lab rs x) ?_,hq⟩
 have hL1:(qx J lab).L.length=0+J.L.length+1:=by show(J.L++[lab]).length=_;simp
 have hL2:Gy (qx J lab).L=[]++Gy J.L++[.sc (.int .i64 lab)]:=by show adP _ (J.L++[lab])=_;simp
 have ab5:OQ (qx J lab) J.L l 0 rs x (0:Nat) false c 0 0=ah aeB env 86 0 [.mp 0 0,aL l,sI .i64 rs,sI .i64 x,wos J.L,.mp 2 0,sI .i64 (0:Nat)]
   [.ac (J.M.cells++[sI .i64 J.tP,sI .i64 J.tR,sI .i64 J.own,.os (some 3) (0+J.L.length+1) 1 ([]++Gy J.L++[.sc (.int .i64 lab)]),sI .i64 c,sI .i64 0,sI .i64 0]),.tok,.pc [.sc (.int .i64 (0:Nat)),.sc (.bool false)],.tok] 2 78:=by
  rw[←hL2,←hL1]
 rw[ab5] at hg
 have BI:(1000000000:Nat)≤eY:=Nat.le_of_ble_eq_true (by kernel_rfl)
 simp only[aG.ok]
 refine⟨?_,?_,hg⟩ <;>
 · simp only[aeN,jn,Nat.ble_eq]
   omega
variable {J:Jd} {r a b nn:Int} {tg:List Int} {ll le:List Ins} {op:Int}
theorem OT (ho:op=2∨op=3) (hr:0≤r∧r≤1) (h1:JL J V ll) {n c:Nat} {d:Bool} (hn:n≤c) (hc:c+bF ll≤1000000000) :
  UM J 120 (cr op r a b nn tg ll le) n d c (match cM V ((if op=3 then 0 else r.toNat)::J.L.reverse) ll 0 false c with
   |.aU e p=> .aU e p
   |.ok n1 d1 c1=>dx r.toNat n1 d1 c (.ok (n+r.toNat) d c1)):=by
 obtain⟨rs,rfl⟩ : ∃rs:Nat,r=(rs:Int):=⟨r.toNat,by omega⟩
 have Pw:rs≤1:=by omega
 simp only[aeL]
 obtain⟨lab,tQ,aeg⟩ : ∃lab:Nat,(if op=3 then 0 else rs)=lab∧lab≤1:=⟨_,rfl,by split<;>omega⟩
 rw[tQ]
 obtain⟨m,hd,hq⟩:=h1 lab rs c c aeg Pw hc
 have w:tp.wrap ((n:Int)+rs)=((n+rs:Nat):Int):=by rw[aZ (by omega) (by omega)];rfl
 have key : ∀c1 e1 p1:Int,m=jM J c1 e1 p1→an aeB env 120 [.mp 0 0,cr op rs a b nn tg ll le,hv n d,sI .i64 c] (jM J c 0 0) (hv (n+rs:Nat) d) (jM J c1 e1 p1):=by
  intro c1 e1 p1 hm
  subst hm
  refine aa aI (lN J c op rs a b nn tg ll le n d c 0 false c1 e1 p1 0 0 0 0 0 0 0 false) ?_
  rcases ho with rfl|rfl
  · rw[if_neg (by decide)] at tQ
    subst tQ
    simp only[lA,bD,fJ,eC,gK,gi,mj,eP,bD,gj,bD,aG.ok,w,agx,dO]
    exact⟨hd,rfl⟩
  · rw[if_pos rfl] at tQ
    subst tQ
    simp only[lA,bD,fJ,eC,gK,gi,mj,eP,bD,gj,bD,aG.ok,w,agx,dO]
    exact⟨hd,rfl⟩
 cases hvl:cM V (lab::J.L.reverse) ll 0 false c with
 |aU e p=>
  rw[hvl] at hq
  obtain⟨c1,rfl⟩:=hq
  exact⟨_,_,key c1 e p rfl,_,_,c1,rfl,rfl⟩
 |ok n1 d1 c1=>
  rw[hvl] at hq
  have hq:ES J (dx rs n1 d1 c (.ok 0 false c1)) m:=hq
  show ∃v m,_∧abY J (dx rs n1 d1 c (.ok (n+rs) d c1)) v m
  rcases qy rs n1 c d1 with⟨e,p,_,hb⟩|hk
  · rw[hb] at hq ⊢
    obtain⟨c2,rfl⟩:=hq
    exact⟨_,_,key c2 e p rfl,_,_,c2,rfl,rfl⟩
  · rw[hk] at hq ⊢
    have hq:m=jM J c1 0 0:=hq
    exact⟨_,_,key c1 0 0 hq,rfl,rfl⟩
theorem Yv (hr:0≤r∧r≤1) (h1:JL J V ll) (h2:JL J V le) (hV:PG V) (hL : ∀k∈J.L,k≤1) (hres:th Cc ll=true) {n c:Nat} {d:Bool} (hn:n≤c) (hc:c+bF ll+bF le≤1000000000) :
  UM J 120 (cr 4 r a b nn tg ll le) n d c (bU c 1 n d fun n0=>(match cM V (r.toNat::J.L.reverse) ll 0 false c with
    |.aU e p=> .aU e p
    |.ok n1 d1 c1=>dx r.toNat n1 d1 c (match cM V (r.toNat::J.L.reverse) le 0 false c1 with
     |.aU e p=> .aU e p
     |.ok n2 d2 c2=>dx r.toNat n2 d2 c (.ok (n0+r.toNat) d c2)))):=by
 obtain⟨rs,rfl⟩ : ∃rs:Nat,r=(rs:Int):=⟨r.toNat,by omega⟩
 have Pw:rs≤1:=by omega
 simp only[aeL]
 obtain⟨e3,p3,hd3,_,hD⟩:=kW (J:=J) (n:=n) (k:=1) d (by omega) (by omega) c 0 0 c
 have w:tp.wrap (((n-1:Nat):Int)+rs)=((n-1+rs:Nat):Int):=by rw[aZ (by omega) (by omega)];rfl
 obtain⟨m,hd,hq⟩:=h1 rs rs c c Pw Pw (by omega)
 have hls : ∀k∈rs::J.L.reverse,k≤1:=by
  intro k hk
  rcases pB.1 hk with rfl|hk
  · omega
  · exact hL k (agF.1 hk)
 have d0:((0:Int)==0)=true:=rfl
 unfold bU
 rcases hD rfl with⟨hp,rfl,rfl⟩|⟨hp,rfl,rfl⟩
 · rw[if_neg hp]
   dsimp only
   have stop : ∀c1 e1 p1:Int,e1≠0→m=jM J c1 e1 p1→an aeB env 120 [.mp 0 0,cr 4 rs a b nn tg ll le,hv n d,sI .i64 c] (jM J c 0 0) (hv (n-1+rs:Nat) d) (jM J c1 e1 p1):=by
    intro c1 e1 p1 he hm
    subst hm
    have d2:(e1==0)=false:=by simpa using he
    refine aa aI (lN J c 4 rs a b nn tg ll le n d c (n-1:Nat) d c1 e1 p1 0 0 0 0 0 0 0 false) ?_
    simp only[lA,bD,fJ,eC,gK,gi,mj,eP,bD,gj,bD,aG.ok,w,d0,d2,agx,dO]
    exact⟨hd3,hd,rfl⟩
   cases hvl:cM V (rs::J.L.reverse) ll 0 false c with
   |aU e p=>
    rw[hvl] at hq
    obtain⟨c1,rfl⟩:=hq
    exact⟨_,_,stop c1 e p (NB.list _ _ _ _ _ _ _ hvl) rfl,_,_,c1,rfl,rfl⟩
   |ok n1 d1 c1=>
    rw[hvl] at hq
    have hle:=wZ hV ll _ hls hres _ _ _ _ _ _ hvl
    have hq:ES J (dx rs n1 d1 c (.ok 0 false c1)) m:=hq
    dsimp only
    rcases qy rs n1 c d1 with⟨e,p,he,hb⟩|hk
    · rw[hb] at hq
      rw[hb]
      obtain⟨c2,rfl⟩:=hq
      exact⟨_,_,stop c2 e p he rfl,_,_,c2,rfl,rfl⟩
    · rw[hk] at hq
      rw[hk]
      have hq:m=jM J c1 0 0:=hq
      subst hq
      obtain⟨m2,hd2,US⟩:=h2 rs rs c c1 Pw Pw (by omega)
      have go : ∀c2 e2 p2:Int,m2=jM J c2 e2 p2→an aeB env 120 [.mp 0 0,cr 4 rs a b nn tg ll le,hv n d,sI .i64 c] (jM J c 0 0) (hv (n-1+rs:Nat) d) (jM J c2 e2 p2):=by
       intro c2 e2 p2 hm
       subst hm
       refine aa aI (lN J c 4 rs a b nn tg ll le n d c (n-1:Nat) d c1 0 0 c2 e2 p2 0 0 0 0 false) ?_
       simp only[lA,bD,fJ,eC,gK,gi,mj,eP,bD,gj,bD,aG.ok,w,d0,agx,dO]
       exact⟨hd3,hd,hd2,rfl⟩
      cases hv2:cM V (rs::J.L.reverse) le 0 false c1 with
      |aU e p=>
       rw[hv2] at US
       obtain⟨c2,rfl⟩:=US
       exact⟨_,_,go c2 e p rfl,_,_,c2,rfl,rfl⟩
      |ok n3 d3 c3=>
       rw[hv2] at US
       have US:ES J (dx rs n3 d3 c (.ok 0 false c3)) m2:=US
       show ∃v m,_∧abY J (dx rs n3 d3 c (.ok (n-1+rs) d c3)) v m
       rcases qy rs n3 c d3 with⟨e,p,_,hb⟩|hk2
       · rw[hb] at US ⊢
         obtain⟨c2,rfl⟩:=US
         exact⟨_,_,go c2 e p rfl,_,_,c2,rfl,rfl⟩
       · rw[hk2] at US ⊢
         have US:m2=jM J c3 0 0:=US
         exact⟨_,_,go c3 0 0 US,rfl,rfl⟩
 · rw[if_pos hp]
   refine⟨hv (n-1+rs:Nat) d,jM J c 200 c,aa aI (lN J c 4 rs a b nn tg ll le n d c (n-1:Nat) d 0 0 0 0 0 0 200 c 0 0 false) ?_,_,_,_,rfl,rfl⟩
   have d3:((200:Int)==0)=false:=rfl
   simp only[lA,bD,fJ,eC,gK,gi,mj,eP,bD,gj,bD,aG.ok,w,d3,agx,dO,qf]
   exact⟨hd3,rfl⟩
end
section
variable {J:Jd} {V:fS}
theorem UT (hJ:Gn J V) (hV:PG V) (x:Ins) (hl:JL J V x.l) (he:JL J V x.e) (hok:Gw Cc x=true) (hwf:Jt x) (abO:vY x≤1000000000):JI J V x:=by
 obtain⟨op,r,a,b,nn,tg,ll,le⟩:=x
 intro n d c hn hc
 simp only[Ins.l,Ins.e] at hl he
 simp only[Gw,jn] at hok
 obtain⟨hres,abP,ad3⟩:=hok
 have hr:0≤r∧r≤1:=of_decide_eq_true hres
 simp only[Jt] at hwf
 obtain⟨_,_,wa,_,_,⟨wt1,wt2⟩,⟨_,wl⟩,_,we⟩:=hwf
 simp only[vY] at abO
 simp only[jz] at hc
 have ha:=Mb wa
 have V1 : ∀x∈tg,0≤x∧x<4294967296:=fun x hx=>by have:=Mb (wt2 x hx);omega
 obtain⟨aN,rfl⟩:=agA (show 0≤a by omega)
 have ha':aN<4294967296:=by omega
 show UM J 120 (cr op r aN b nn tg ll le) n d c (gQ V J.L.reverse (.mk op r aN b nn tg ll le) n d c)
 simp only[gQ]
 by_cases o0:op=0
 · subst o0
   rw[if_pos rfl]
   exact OO.run
 rw[if_neg o0]
 by_cases PE:op=2∨op=3
 · rw[if_pos PE]
   have h:=OT (a:=aN) (b:=b) (nn:=nn) (tg:=tg) (le:=le) PE hr hl (n:=n) (c:=c) (d:=d) hn (by omega)
   cases hv:cM V ((if op=3 then 0 else r.toNat)::J.L.reverse) ll 0 false c<;>(rw[hv] at h;exact h)
 rw[if_neg PE]
 by_cases o4:op=4
 · subst o4
   rw[if_pos rfl]
   exact Yv hr hl he hV hJ.lab abP hn (by omega)
 rw[if_neg o4]
 by_cases Zm:op=12
 · subst Zm;exact(tD (.inl rfl) (Yo hJ (by omega) aN ha')).run
 by_cases Zn:op=13
 · subst Zn;exact(tD (.inr (.inl rfl)) (Yp hJ (by omega) aN ha')).run
 by_cases Zo:op=14
 · subst Zo;exact(tD (.inr (.inr (.inl rfl))) (UP hJ (by omega) (by omega) V1 aN ha')).run
 by_cases Zp:op=15
 · subst Zp;exact(tD (.inr (.inr (.inr rfl))) (UN hJ (by omega) J.L.reverse)).run
 by_cases Zq:op=16
 · subst Zq;exact(ER (.inl rfl) (ON hJ (by omega) aN ha' J.L.reverse)).run
 by_cases Zr:op=17
 · subst Zr;exact(ER (.inr rfl) (UO hJ (by omega) aN ha' J.L.reverse)).run
 exact(Lg hJ (by omega) aN ha' J.L.reverse ⟨o0,by omega,by omega,o4,Zm,Zn,Zo,Zp,Zq,Zr⟩).run
theorem MK (hJ:Gn J V) {lab:Nat} (hl:lab≤1) (hn:J.L.length≤1000):Gn (qx J lab) V where
 v:=hJ.v
 ty:=hJ.ty
 Yl:=hJ.Yl
 lab k hk:=by
  have hk:k∈J.L++[lab]:=hk
  rcases oE.1 hk with hk|hk
  · exact hJ.lab k hk
  · simp only[aet] at hk;omega
 len:=by show(J.L++[lab]).length≤_;simp;omega
theorem IW (hV:PG V) : ∀l:List Ins,∀J:Jd,Gn J V→J.L.length+dw 1 l≤1000→th Cc l=true→Ke l→iZ l≤1000000000→bF l≤1000000000→JL J V l:=by
 refine tj fun l hl=> ?_
 intro J hJ hd hok hw ht hn
 refine UR hV l hok hn hJ.lab (by omega) fun lab tQ x hx=> ?_
 have Zu:=MK hJ tQ (by omega)
 have Zv:(qx J lab).L.length=J.L.length+1:=by show(J.L++[lab]).length=_;simp
 obtain⟨h1,h2⟩:=hl x hx
 have h3:=tB hok x hx
 have h4:=qa hw x hx
 have h5:=wN x hx
 have h6:=wO (d:=1) x hx
 have h7:=oU hx
 obtain⟨op,r,a,b,nn,tg,ll,le⟩:=x
 simp only[Gw,jn] at h3
 simp only[vY] at h5
 simp only[vX,aex] at h6
 simp only[jz] at h7
 have d1:=tC ll
 have d2:=tC le
 simp only[Ins.l,Ins.e] at h1 h2
 simp only[Jt] at h4
 refine UT Zu hV _ (h1 _ Zu (by omega) h3.2.1 h4.2.2.2.2.2.2.1.2 (by omega) (by omega)) (h2 _ Zu (by omega) h3.2.2 h4.2.2.2.2.2.2.2.2 (by omega) (by omega)) (by simp only[Gw,jn];exact h3) (by simp only[Jt];exact h4) (by simp only[vY];omega)
end
abbrev jN (J:Jd) (c e p:Int):Mem:=[.ac (J.M.cells++[sI .i64 J.tP,sI .i64 J.tR,sI .i64 J.own,.os none 0 0 [],sI .i64 c,sI .i64 e,sI .i64 p])]
def Gr (J:Jd) (r:VR) (m:Mem):Prop:=match r with
 |.ok _ _ c=>m=jN J c 0 0
 |.aU e p=> ∃c:Int,m=jN J c e p
noncomputable abbrev OU (J:Jd) (l:List Ins) (i:Nat) (rs x:Nat) (n:Int) (d:Bool) (c e p:Int):cw:=
 ah aeB env 86 0 [.mp 0 0,aL l,sI .i64 rs,sI .i64 x,.os none 0 0 [],.mp 1 0,sI .i64 i] [jB3 J 2 c e p,.pc [.sc (.int .i64 n),.sc (.bool d)],.tok] 1 78
section
variable {V:fS} {J:Jd}
theorem Yw (l:List Ins) (i rs x:Nat) (n:Int) (d:Bool) (c:Int) {e:Int} (p:Int) (he:e≠0) :
  bp aeB env (OU J l i rs x n d c e p) (.ret (.aD []) (jN J c e p)):=by
 have d2:(e==0)=false:=by simpa using he
 refine af aI (sF J [] l i rs x n d c e p 0 false 0 0 0 0 0 0 0 0 0 0 0 [] [] []) ?_
 simp only[bK,qL,bD,qK,dh,eC,wR,br,aG.ok,d2,pD,false_implies,true_implies,true_and,qf]
 exact⟨fun _=>rfl,fun _=>rfl⟩
theorem Yx (l:List Ins) (rs x n:Nat) (d:Bool) (c:Nat) (hn:n≤1000000000) (hr:rs≤1) :
  ∃m,bp aeB env (OU J l l.length rs x n d c 0 0) (.ret (.aD []) m)∧Gr J (dx rs n d x (.ok 0 false c)) m:=by
 obtain⟨e2,p2,hd,hC,hD⟩:=kW (J:=J) (n:=n) (k:=rs) d hn (by omega) c 0 0 x
 have d1:decide (((l.length:Nat):Int)<l.length)=false:=by simp
 have d0:((0:Int)==0)=true:=rfl
 unfold dx bU
 rcases hD rfl with⟨h1,rfl,rfl⟩|⟨h1,rfl,rfl⟩
 · rw[if_neg h1]
   dsimp only
   by_cases hz:0<n-rs
   · rw[if_pos hz]
     have d3:decide (((n-rs:Nat):Int)>0)=true:=by simp;omega
     refine⟨jN J c 201 x,af aI (sF J [] l l.length rs x n d c 0 0 0 false 0 0 0 (n-rs:Nat) 0 0 0 0 0 0 0 [] [] []) ?_,c,rfl⟩
     simp only[bK,qL,bD,qK,dh,eC,wR,br,aG.ok,d0,d1,d3,dO]
     exact⟨hd,rfl⟩
   · rw[if_neg hz]
     have d3:decide (((n-rs:Nat):Int)>0)=false:=by simp;omega
     refine⟨jN J c 0 0,af aI (sF J [] l l.length rs x n d c 0 0 0 false 0 0 0 (n-rs:Nat) 0 0 0 0 0 0 0 [] [] []) ?_,rfl⟩
     simp only[bK,qL,bD,qK,dh,eC,wR,br,aG.ok,d0,d1,d3,dO]
     exact⟨hd,rfl⟩
 · rw[if_pos h1]
   refine⟨jN J c 200 x,af aI (sF J [] l l.length rs x n d c 0 0 0 false 0 0 0 (n-rs:Nat) 200 x 0 0 0 0 0 [] [] []) ?_,c,rfl⟩
   have d3:decide (((n-rs:Nat):Int)>0)=false:=by simp;omega
   have d4:((200:Int)==0)=false:=rfl
   simp only[bK,qL,bD,qK,dh,eC,wR,br,aG.ok,d0,d1,d3,d4,dO]
   exact⟨hd,rfl⟩
theorem UU {J:Jd} (hV:PG V) (hls : ∀k∈J.L.reverse,k≤1) (l:List Ins) (hres:th Cc l=true) (hlen:bF l≤1000000000) (IH : ∀x∈l,JI J V x) (rs x:Nat) (hr:rs≤1) (m:Nat) :
  ∀(i n:Nat) (d:Bool) (c:Nat),i+m=l.length→n≤c→c+bF (l.drop i)≤1000000000 →
  ∃mm,bp aeB env (OU J l i rs x n d c 0 0) (.ret (.aD []) mm)∧Gr J (Yt rs x (cM V J.L.reverse (l.drop i) n d c)) mm:=by
 induction m with
 |zero=>
  intro i n d c hi hn hc
  obtain rfl:i=l.length:=by omega
  rw[ae4 (aw _)] at hc ⊢
  simp only[cM]
  exact Yx l rs x n d c (by omega) hr
 |succ m ih=>
  intro i n d c hi hn hc
  have hlt:i<l.length:=by omega
  have MZ:=eu l
  have PC:l.drop i=l[i]::l.drop (i+1):=aeo hlt
  have CT:l[i]? = some l[i]:=df hlt
  have hmem:l[i]∈l:=eQ hlt
  have hI:=IH _ hmem
  have hok:=tB hres _ hmem
  rw[PC] at hc ⊢
  simp only[bF] at hc
  generalize l[i]=y at *
  have hrun:=hI n d (c+1) (by omega) (by omega)
  obtain⟨v,mm,hd,ho⟩:=hrun
  obtain⟨op,r,a,b,nn,tg,ll,le⟩:=y
  have hc0:=oS CT
  have k0:(ak l).getD (i*8) .aU = .sc (.int .i64 op):=hc0 0 (by omega)
  have k1:(ak l).getD (i*8+1) .aU = .sc (.int .i64 r):=hc0 1 (by omega)
  have k2:(ak l).getD (i*8+1+1) .aU = .sc (.int .u32 a):=hc0 2 (by omega)
  have k3:(ak l).getD (i*8+1+1+1) .aU = .sc (.int .u32 b):=hc0 3 (by omega)
  have k4:(ak l).getD (i*8+1+1+1+1) .aU = .sc (.int .i32 nn):=hc0 4 (by omega)
  have k5:(ak l).getD (i*8+1+1+1+1+1) .aU = .ps tg.length 1 (dg .u32 tg):=hc0 5 (by omega)
  have k6:(ak l).getD (i*8+1+1+1+1+1+1) .aU = .ps ll.length 8 (ak ll):=hc0 6 (by omega)
  have k7:(ak l).getD (i*8+1+1+1+1+1+1+1) .aU = .ps le.length 8 (ak le):=hc0 7 (by omega)
  have d0:((0:Int)==0)=true:=rfl
  have d1:decide ((i:Int)<l.length)=true:=by simp;omega
  have w:=fk i (by omega)
  have w2:=fk c (by omega)
  have hi2:bE (i:Int) l.length=true:=by unfold bE;simp;omega
  have hvl:cM V J.L.reverse (.mk op r a b nn tg ll le::l.drop (i+1)) n d c=(match gQ V J.L.reverse (.mk op r a b nn tg ll le) n d (c+1) with
   |.aU e p=> .aU e p
   |.ok n1 d1 c1=>cM V J.L.reverse (l.drop (i+1)) n1 d1 c1):=by
   simp only[cM]
   cases gQ V J.L.reverse (.mk op r a b nn tg ll le) n d (c+1)<;>rfl
  rw[hvl]
  have key : ∀(n1:Int) (C2:Bool) (c1 e1 p1:Int) (o:Out),v=hv n1 C2→mm=jM J c1 e1 p1→bp aeB env (OU J l (i+1) rs x n1 C2 c1 e1 p1) o→bp aeB env (OU J l i rs x n d c 0 0) o:=by
   intro n1 C2 c1 e1 p1 o hv hm hg
   subst hv
   subst hm
   refine af aI (sF J [] l i rs x n d c 0 0 n1 C2 c1 e1 p1 0 0 0 op r a b nn tg ll le) ?_
   simp only[bK,qL,bD,qK,dh,eC,wR,br,aG.ok,d0,d1,w,w2,hi2,k0,k1,k2,k3,k4,k5,k6,k7,aeL,au,aq,aK,aj,isInt,aX,ik,Yf,iki,aeN,ag2,dO]
   exact⟨hd,hg⟩
  cases Yu:gQ V J.L.reverse (.mk op r a b nn tg ll le) n d (c+1) with
  |aU e p=>
   rw[Yu] at ho
   obtain⟨n1,C2,c1,rfl,rfl⟩:=ho
   have hne:e≠0:=NB.ins _ _ _ _ _ _ _ Yu
   exact⟨_,key n1 C2 c1 e p _ rfl rfl (Yw l (i+1) rs x n1 C2 c1 p hne),c1,rfl⟩
  |ok n1 C2 c1=>
   rw[Yu] at ho
   obtain⟨rfl,rfl⟩:=ho
   have hle:=Gq hV _ _ hls hok _ _ _ _ _ _ Yu
   obtain⟨mm2,hg,hq⟩:=ih (i+1) n1 C2 c1 (by omega) (by omega) (by omega)
   exact⟨mm2,key n1 C2 c1 0 0 _ rfl rfl hg,hq⟩
def jbS (M:Md) (n:Nat) (T P Q lo:Int) (l:List Ins) (own c e p:Int):FuncId→Nat→Nat→Option (AV→AV):=cJ [(42,2,4,.agg [sI .i64 T,sI .i64 lo,aL l]),(42,3,5,.agg [sI .i64 P,sI .i64 Q]),(42,4,7,sI .i64 own)]
theorem UW (M:Md) (n:Nat) (T P Q lo:Int) (l:List Ins) (own c e p:Int):aE aeB env (fc aB av [] [] (fm 42 [(2,3),(2,4),(3,4),(3,5)]) (jbS M n T P Q lo l own c e p)) 1000000 42 ([AV.agg M.cells,sI tp (↑n:Int)]) ([]) (.ans 86 (.aD []) ([.ac [.p (.ps M.qn 2 M.va),.p (.ps M.Ip 3 M.V4),.p (.ps M.Ge 3 M.wG),.p (.ps M.Al 3 M.V5),.p (.ps M.so 3 M.V6),.p (.ps M.ny 2 M.Iq),.p (.ps M.V7 3 M.V8),.p (.sc (.bool M.st)),sI .u32 M.sn,.p (.ps M.V9 2 M.Wa),.p (.ps M.Wb 2 M.Wc),sI .i64 P,sI .i64 Q,sI .i64 own,.os none 0 0 [],sI .i64 c,sI .i64 e,sI .i64 p]]) .fin) =
(.must (bE (↑n:Int) M.Ge&&true&&true)
 (.must (isInt tp (aA M.wG (aF n*3))&&(isInt tp (aA M.wG (aF n*3+1))&&(aX (aA M.wG (aF n*3+1+1))&&true))&&true)
 (.need (AV.agg [sI .i64 (au (aA M.wG (aF n*3))),sI .i64 (au (aA M.wG (aF n*3+1))),AV.p (PV.ps (aq (aA M.wG (aF n*3+1+1))) (aK (aA M.wG (aF n*3+1+1))) (aj (aA M.wG (aF n*3+1+1))))]=AV.agg [sI tp T,sI tp lo,aL l])
 (.must (bE T M.qn&&true&&true)
 (.must (isInt tp (aA M.va (T.toNat*2))&&(isInt tp (aA M.va (T.toNat*2+1))&&true)&&true)
 (.need ((UK M T P Q))
 (.need (sI .i64 (tp.wrap (P+lo))=sI tp own)
 (.call ⟨86,[.mp 0 0,.p (.ps l.length 8 (ak l)),sI .i64 Q,sI .i64 Q,sI .i64 0],[.ac [.p (.ps M.qn 2 M.va),.p (.ps M.Ip 3 M.V4),.p (.ps M.Ge 3 M.wG),.p (.ps M.Al 3 M.V5),.p (.ps M.so 3 M.V6),.p (.ps M.ny 2 M.Iq),.p (.ps M.V7 3 M.V8),.p (.sc (.bool M.st)),sI .u32 M.sn,.p (.ps M.V9 2 M.Wa),.p (.ps M.Wb 2 M.Wc),sI .i64 P,sI .i64 Q,sI .i64 own,bP,sI .i64 0,sI .i64 0,sI .i64 0]],.aD [],[.ac [.p (.ps M.qn 2 M.va),.p (.ps M.Ip 3 M.V4),.p (.ps M.Ge 3 M.wG),.p (.ps M.Al 3 M.V5),.p (.ps M.so 3 M.V6),.p (.ps M.ny 2 M.Iq),.p (.ps M.V7 3 M.V8),.p (.sc (.bool M.st)),sI .u32 M.sn,.p (.ps M.V9 2 M.Wa),.p (.ps M.Wb 2 M.Wc),sI .i64 P,sI .i64 Q,sI .i64 own,bP,sI .i64 c,sI .i64 e,sI .i64 p]]⟩
 (.out (.ret (.aD [sI .i64 e,sI .i64 p]) [])))))))))):=by kernel_rfl
theorem Yy {J:Jd} (hJ:Gn J V) (hV:PG V) (hL:J.L=[]) (l:List Ins) (hfit:Fit l 0 1) (lab rs:Nat) (tQ:lab≤1) (hr:rs≤1) :
  ∃m,an aeB env 86 [.mp 0 0,aL l,sI .i64 lab,sI .i64 rs,sI .i64 (0:Nat)] (jN J 0 0 0) (.aD []) m∧Gr J (Yt rs 0 (cM V [lab] l 0 false 0)) m:=by
 have Zu:=MK hJ tQ (by rw[hL];simp)
 have Zv:(qx J lab).L.length=1:=by show(J.L++[lab]).length=_;rw[hL];rfl
 have ab4:(qx J lab).L.reverse=[lab]:=by show(J.L++[lab]).reverse=_;rw[hL];rfl
 have hls : ∀k∈(qx J lab).L.reverse,k≤1:=fun k hk=>Zu.lab k (agF.1 hk)
 have Us:bF l≤1000000000:=by have:=hfit.num;omega
 have hI : ∀x∈l,JI (qx J lab) V x:=by
  intro x hx
  have h3:=tB hfit.res x hx
  have h4:=qa hfit.wf x hx
  have h5:=wN x hx
  have h6:=wO (d:=1) x hx
  have h7:=oU hx
  have ht:=hfit.tag
  have hd:=hfit.dep
  obtain⟨op,r,a,b,nn,tg,ll,le⟩:=x
  simp only[Gw,jn] at h3
  simp only[vY] at h5
  simp only[vX,aex] at h6
  simp only[jz] at h7
  have d1:=tC ll
  have d2:=tC le
  simp only[Jt] at h4
  refine UT Zu hV _ (IW hV ll _ Zu (by omega) h3.2.1 h4.2.2.2.2.2.2.1.2 (by omega) (by omega)) (IW hV le _ Zu (by omega) h3.2.2 h4.2.2.2.2.2.2.2.2 (by omega) (by omega)) (by simp only[Gw,jn];exact h3) (by simp only[Jt];exact h4) (by simp only[vY];omega)
 obtain⟨mm,hg,hq⟩:=UU (J:=qx J lab) hV hls l hfit.res Us hI rs 0 hr l.length 0 0 false 0 (by omega) (by omega) (by simpa using Us)
 rw[adr,ab4] at hq
 refine⟨mm,aa aI (OM J 0 l lab rs (0:Nat)) ?_,hq⟩
 have hL1:(qx J lab).L=[lab]:=by show J.L++[lab]=_;rw[hL];rfl
 have ab5:OU (qx J lab) l 0 rs 0 (0:Nat) false (0:Nat) 0 0=ah aeB env 86 0 [.mp 0 0,aL l,sI .i64 rs,sI .i64 (0:Nat),.os none 0 0 [],.mp 1 0,sI .i64 (0:Nat)]
   [.ac (J.M.cells++[sI .i64 J.tP,sI .i64 J.tR,sI .i64 J.own,.os (some 2) 1 1 [.sc (.int .i64 lab)],sI .i64 (0:Nat),sI .i64 0,sI .i64 0]),.pc [.sc (.int .i64 (0:Nat)),.sc (.bool false)],.tok] 1 78:=by
  have e2:Gy (qx J lab).L=[.sc (.int .i64 lab)]:=by rw[hL1];rfl
  show ah aeB env 86 0 [.mp 0 0,aL l,sI .i64 rs,sI .i64 (0:Nat),.os none 0 0 [],.mp 1 0,sI .i64 (0:Nat)]
   [.ac (J.M.cells++[sI .i64 J.tP,sI .i64 J.tR,sI .i64 J.own,.os (some 2) (qx J lab).L.length 1 (Gy (qx J lab).L),sI .i64 (0:Nat),sI .i64 0,sI .i64 0]),.pc [.sc (.int .i64 (0:Nat)),.sc (.bool false)],.tok] 1 78=_
  rw[e2,Zv]
 rw[ab5] at hg
 simp only[br,aG.ok]
 exact hg
theorem Ll {J:Jd} (hJ:Gn J V) (hV:PG V) (hL:J.L=[]) {n:Nat} {T lo:Int} {P:Nat} {l:List Ins} (hn:n<J.M.Ge) (hN:J.M.Ge≤1000000000)
  (hT:J.M.wG.getD (n*3) .aU = .sc (.int .i64 T)) (hlo:J.M.wG.getD (n*3+1) .aU = .sc (.int .i64 lo)) (hl:J.M.wG.getD (n*3+1+1) .aU = .ps l.length 8 (ak l)) (hT0:0≤T∧T<J.M.qn)
  (hP:J.M.va.getD (T.toNat*2) .aU = .sc (.int .i64 J.tP)) (hQ:J.M.va.getD (T.toNat*2+1) .aU = .sc (.int .i64 J.tR)) (hp:0≤J.tP∧J.tP≤1000000) (ags:0≤lo∧lo≤1000000) (how:J.own=J.tP+lo) (hfit:Fit l 0 1) :
  an aeB env 42 [.agg J.M.cells,sI .i64 n] [] (.aD [sI .i64 (wF V l).1,sI .i64 ((wF V l).2:Nat)]) []:=by
 have Uw:J.tR=V.ret:=hJ.v.ret
 have CN:=hJ.v.X3
 obtain⟨m,hd,hq⟩:=Yy hJ hV hL l hfit V.ret V.ret CN CN
 rw[←Uw] at hd
 have w:tp.wrap (J.tP+lo)=J.own:=by rw[how];exact aZ (by omega) (by omega)
 have hi1:bE (n:Int) J.M.Ge=true:=by unfold bE;simp;omega
 have hi2:bE T J.M.qn=true:=by unfold bE;simp;omega
 have key : ∀c e p:Int,m=jN J c e p→an aeB env 42 [.agg J.M.cells,sI .i64 n] [] (.aD [sI .i64 e,sI .i64 p]) []:=by
  intro c e p hm
  subst hm
  refine aa aI (UW J.M n T J.tP J.tR lo l J.own c e p) ?_
  simp only[UK,br,aG.ok,w,hi1,hi2,hT,hlo,hl,hP,hQ,aeL,au,aq,aK,aj,isInt,aX,ik,aeN,ag2,dO]
  exact hd
 unfold wF
 cases hv:cM V [V.ret] l 0 false 0 with
 |aU e p=>
  rw[hv] at hq
  obtain⟨c,hq⟩:=hq
  exact key c e p hq
 |ok k d c=>
  rw[hv] at hq
  have hq:Gr J (dx V.ret k d 0 (.ok 0 false c)) m:=hq
  dsimp only
  rcases qy V.ret k 0 d with⟨e,p,_,hb⟩|hk
  · rw[hb] at hq ⊢
    obtain⟨c,hq⟩:=hq
    exact key c e p hq
  · rw[hk] at hq ⊢
    have hq:m=jN J c 0 0:=hq
    exact key c 0 0 hq
end
def dhQ (M:Mo) (i:Nat) (b:Bool) (u e:Int) (k:Nat) (f:FuncId) (_:List AV) (m:Mem):Option (AV×Mem):=cond (ai f 41) (some (sB b,m)) (cond (ai f 102) (some (.aD [sI .u32 u,sI .i64 e],m)) none)
def dxQ (M:Mo) (i:Nat) (b:Bool) (p q:Int) (k:Nat) (f:FuncId) (_:List AV) (m:Mem):Option (AV×Mem):=cond (ai f 103) (some (sB b,m)) (cond (ai f 9) (some (.aD [.agg [sI .i64 p,sI .i64 q],sB b],m)) none)
def deQ (M:Mo) (nm:ByteArray) (ix c:Int) (k:Nat) (f:FuncId) (_:List AV) (m:Mem):Option (AV×Mem):=cond (ai f 104) (some (sI .i64 c,m)) none
def dbR (M:Mo) (n:Nat) (c e p:Int) (b:Bool) (k:Nat) (f:FuncId) (_:List AV) (m:Mem):Option (AV×Mem):=
 match f with
 |13=>some (sI .i64 c,m)
 |41=>some (sB b,m)
 |42=>some (.aD [sI .i64 e,sI .i64 p],m)
 |_=>none
def agG:Env:=mz [(19,14,sB true),(19,21,sB true)]
def agH:Env:=mz [(19,14,sB false),(19,21,sB true)]
def agI:Env:=mz [(19,14,sB false),(19,21,sB false)]
theorem UX (M:Mo) (n:Int):aE aeB env (aJ aB av [] [(41,2,3)] []) 1000000 41 ([AV.agg (adP AV.p M.aH),sI tp n]) ([]) (.fin) =
(.test (decide (n≥0))
 (.out (.ret (.p (.sc (.bool (decide (n<(↑M.tys.length:Int)))))) []))
 (.out (.ret (sB false) []))):=by kernel_rfl
theorem sJ (l:List Ins) (e:Int):aE aeB env (aJ aB av [] (fm 102 [(2,4),(2,11),(0,0)]) (fm 102 [(2,5),(2,7),(4,1),(4,3)])) 1000000 102 ([aL l]) ([]) (.fork (.lit (.lit .fin)) (.fork (.lit .fin) (.ans 124 (sI .i64 e) ([]) .fin))) =
(.test ((↑l.length:Int) != 1)
 (.out (.ret (.aD [sI .u32 0,sI .i64 210]) []))
 (.must (bE 0 l.length&&true&&true)
 (.must (isInt tp (aA (ak l) 0)&&true)
 (.test (au (aA (ak l) 0) != 65)
 (.out (.ret (.aD [sI .u32 0,sI .i64 210]) []))
 (.call ⟨124,(jf l),[],sI .i64 e,[]⟩
 (.test (e != 0)
 (.out (.ret (.aD [sI .u32 0,sI .i64 210]) []))
 (.must (bE 0 l.length&&true&&true)
 (.must (isInt aeY (aA (ak l) 4)&&true)
 (.out (.ret (.aD [sI .u32 (acU.wrap (au (aA (ak l) 4))),sI .i64 0]) [])))))))))):=by kernel_rfl
theorem Yz (M:Mo):aE aeB env (aJ aB av [(44,0),(44,3),(44,6)] [] []) 1000000 44 ([AV.agg (adP AV.p M.aH)]) ([]) (.fin) =
(.at (ah aeB env 44 0 [.mp 0 0,.mp 1 0,sI .i64 0] ((cU M)) 0 67)):=by kernel_rfl
theorem IX (M:Mo) (i:Nat) (b:Bool) (u e:Int):grow aeB env (aJ aB av [(44,0),(44,3),(44,6)] [(44,0,1),(44,0,2)] [(44,0,2)]) 1000000 true (ah aeB env 44 0 ([AV.mp 0 0,AV.mp 1 0,sI tp (↑i:Int)]) ([bf.pc M.aH,bf.pc [sP 0,sP 0,sP 0,sP 0]]) 0 67) (.fork (.ou 44 4 (dhQ M i b u e 0) .fin) .fin) atEnd =
(.test ((kE i M))
 (.call ⟨41,[.agg (adP AV.p M.aH),sI .i64 (au (aA (adw bg M.aP) (aF i*3+2)))],[],.p (.sc (.bool b)),[]⟩
 (.must ((BM i M))
 (.test (!b)
 (.out (.ret (.agg [sI .i64 6,sI .i64 2,sI .i64 (↑i:Int),sI .i64 0]) []))
 (.at (ah aeB env 44 0 [.mp 0 0,.mp 1 0,sI .i64 (tp.wrap ((↑i:Int)+1))] ((cU M)) 0 67)))))
 (.at (ah aeB env 44 3 [.mp 0 0,.mp 1 0,sI .i64 0] ((cU M)) 0 67))):=by kernel_rfl
theorem IY (M:Mo) (i:Nat) (b:Bool) (u e:Int):grow aeB env (aJ aB av [(44,0),(44,3),(44,6)] [(44,0,4),(44,0,5)] [(44,0,5)]) 1000000 true (ah aeB env 44 3 ([AV.mp 0 0,AV.mp 1 0,sI tp (↑i:Int)]) ([bf.pc M.aH,bf.pc [sP 0,sP 0,sP 0,sP 0]]) 0 67) (.fork (.ou 44 9 (dhQ M i b u e 0) .fin) .fin) atEnd =
(.test ((gU i M))
 (.call ⟨41,[.agg (adP AV.p M.aH),sI .i64 (au (aA (adw aM M.fns) (aF i*3+0)))],[],.p (.sc (.bool b)),[]⟩
 (.must ((BN i M))
 (.test (!b)
 (.out (.ret (.agg [sI .i64 6,sI .i64 3,sI .i64 (↑i:Int),sI .i64 0]) []))
 (.at (ah aeB env 44 3 [.mp 0 0,.mp 1 0,sI .i64 (tp.wrap ((↑i:Int)+1))] ((cU M)) 0 67)))))
 (.at (ah aeB env 44 6 [.mp 0 0,.mp 1 0,sI .i64 0] ((cU M)) 0 67))):=by kernel_rfl
theorem IZ (M:Mo) (i:Nat) (b:Bool) (u e:Int):grow aeB env (aJ aB av [(44,0),(44,3),(44,6)] [(44,0,7),(44,0,8)] [(44,15,3),(44,15,5)]) 1000000 true (ah aeB env 44 6 ([AV.mp 0 0,AV.mp 1 0,sI tp (↑i:Int)]) ([bf.pc M.aH,bf.pc [sP 0,sP 0,sP 0,sP 0]]) 0 67) (.fork (.ans 102 (.aD [sI .u32 u,sI .i64 e]) ([]) .fin) .fin) atEnd =
(.test ((kD i M))
 (.must (bE (↑i:Int) M.gls.length&&true&&true)
 (.must ((qh M i))
 (.call ⟨102,(rZ M i),[],.aD [sI .u32 u,sI .i64 e],[]⟩
 (.test (e != 0)
 (.out (.ret (.agg [sI .i64 e,sI .i64 6,sI .i64 (↑i:Int),sI .i64 0]) []))
 (.at (ah aeB env 44 6 [.mp 0 0,.mp 1 0,sI .i64 (tp.wrap ((↑i:Int)+1))] ((cU M)) 0 67))))))
 (.out (.ret (.agg [sI .i64 0,sI .i64 0,sI .i64 0,sI .i64 0]) []))):=by kernel_rfl
theorem UY (M:Mo):aE aeB env (aJ aB av [] [] []) 1000000 104 ([AV.agg (adP AV.p M.aH)]) ([]) (.fin) =
(.out (.ret (sI .i64 (tp.wrap ((↑M.aP.length:Int)+(↑M.fns.length:Int)))) [])):=by kernel_rfl
theorem UZ (M:Mo) (nm:ByteArray) (ix c:Int):aE aeB env (aJ aB av [] [] []) 1000000 103 ([AV.agg (adP AV.p M.aH),AV.agg [AV.p (PV.sc (aeH nm)),sI tp 0,sI acU ix]]) ([]) (.ou 103 1 (deQ M nm ix c 0) .fin) =
(.call ⟨104,(bQ M),[],sI .i64 c,[]⟩
 (.out (.ret (.p (.sc (.bool (decide (tp.wrap ix<c))))) []))):=by kernel_rfl
theorem U0 (M:Mo) (nm:ByteArray) (ix c:Int):aE aeB env (aJ aB av [] [] []) 1000000 103 ([AV.agg (adP AV.p M.aH),AV.agg [AV.p (PV.sc (aeH nm)),sI tp 1,sI acU ix]]) ([]) (.ou 103 1 (deQ M nm ix c 0) .fin) =
(.call ⟨104,(bQ M),[],sI .i64 c,[]⟩
 (.out (.ret (.p (.sc (.bool (decide (tp.wrap ix<(↑M.cN.length:Int)))))) []))):=by kernel_rfl
theorem U1 (M:Mo) (nm:ByteArray) (ix c:Int):aE aeB env (aJ aB av [] [] []) 1000000 103 ([AV.agg (adP AV.p M.aH),AV.agg [AV.p (PV.sc (aeH nm)),sI tp 2,sI acU ix]]) ([]) (.ou 103 1 (deQ M nm ix c 0) .fin) =
(.call ⟨104,(bQ M),[],sI .i64 c,[]⟩
 (.out (.ret (.p (.sc (.bool (decide (tp.wrap ix<(↑M.cL.length:Int)))))) []))):=by kernel_rfl
theorem U2 (M:Mo) (nm:ByteArray) (ix c:Int):aE aeB env (aJ aB av [] [] []) 1000000 103 ([AV.agg (adP AV.p M.aH),AV.agg [AV.p (PV.sc (aeH nm)),sI tp 3,sI acU ix]]) ([]) (.ou 103 1 (deQ M nm ix c 0) .fin) =
(.call ⟨104,(bQ M),[],sI .i64 c,[]⟩
 (.out (.ret (.p (.sc (.bool (decide (tp.wrap ix<(↑M.gls.length:Int)))))) []))):=by kernel_rfl
theorem I0 (M:Mo) (i:Nat) (k:Nat) (c:Int):grow aeB env (aJ aB av [(46,0),(46,4)] [(46,0,5),(46,0,6)] (fm 46 [(11,4),(11,6),(0,6)])) 1000000 true (ah aeB env 46 4 ([AV.mp 0 0,AV.mp 1 0,sI tp (↑i:Int),sI tp (↑k:Int)]) ([bf.pc M.aH,bf.pc [sP 0,sP 0,sP 0,sP 0]]) 0 62) (.fork (.ou 46 12 (fun f _ m=>cond (ai f 104) (some (sI .i64 c,m)) none) .fin) .fin) atEnd =
(.must ((l7 i M))
 (.must (aX (aA (adw aT M.els) (aF i*2+1))&&true)
 (.test (decide ((↑k:Int)<(↑(aq (aA (adw aT M.els) (aF i*2+1))):Int)))
 (.call ⟨104,(bQ M),[],sI .i64 c,[]⟩
 (.must (bE (↑i:Int) M.els.length&&true&&true&&(aX (aA (adw aT M.els) (aF i*2+1))&&true&&(bE (↑k:Int) (aq (aA (adw aT M.els) (aF i*2+1)))&&(aK (aA (adw aT M.els) (aF i*2+1))).beq 1&&true&&(isInt acU (aA (aj (aA (adw aT M.els) (aF i*2+1))) (aF k*1))&&true&&true)))&&true)
 (.test (decide (tp.wrap (au (aA (aj (aA (adw aT M.els) (aF i*2+1))) (aF k*1)))≥c))
 (.out (.ret (.agg [sI .i64 6,sI .i64 9,sI .i64 (↑i:Int),sI .i64 0]) []))
 (.at (ah aeB env 46 4 [.mp 0 0,.mp 1 0,sI .i64 (↑i:Int),sI .i64 (tp.wrap ((↑k:Int)+1))] ((cU M)) 0 62)))))
 (.at (ah aeB env 46 0 [.mp 0 0,.mp 1 0,sI .i64 (tp.wrap ((↑i:Int)+1))] ((cU M)) 0 62))))):=by kernel_rfl
theorem U3 (M:Mo) (n c e p:Int) (b:Bool):aE aeB agG (aJ aB av [] [(19,0,0)] [(19,0,1)]) 1000000 19 ([AV.agg (adP AV.p M.aH),sI tp n]) ([]) (.ans 13 (sI .i64 c) ([]) .fin) =
(.call ⟨13,(bQ M),[],sI .i64 c,[]⟩
 (.test (c != 0)
 (.must true
 (.out (.ret (.aD [sI .i64 c,sI .i64 0]) [])))
 (.must (dy (.p (.sc (.bool (decide (n<0))))) (sB true)&&true&&true)
 (.out (.ret (.aD [sI .i64 6,sI .i64 0]) []))))):=by kernel_rfl
theorem U4 (M:Mo) (n c e p:Int) (b:Bool):aE aeB agH (aJ aB av [] [(19,0,0)] [(19,0,1)]) 1000000 19 ([AV.agg (adP AV.p M.aH),sI tp n]) ([]) (.ans 13 (sI .i64 c) ([]) .fin) =
(.call ⟨13,(bQ M),[],sI .i64 c,[]⟩
 (.test (c != 0)
 (.must true
 (.out (.ret (.aD [sI .i64 c,sI .i64 0]) [])))
 (.must (dy (.p (.sc (.bool (decide (n<0))))) (sB false)&&(dy (.p (.sc (.bool (decide (n≥(↑M.fns.length:Int)))))) (sB true)&&true)&&true)
 (.out (.ret (.aD [sI .i64 6,sI .i64 0]) []))))):=by kernel_rfl
theorem I1 (M:Mo) (n:Nat) (c e p:Int) (b:Bool):aE aeB agI (aJ aB av [] [(19,0,0),(19,0,1)] [(19,0,1)]) 1000000 19 ([AV.agg (adP AV.p M.aH),sI tp (↑n:Int)]) ([]) (.ans 13 (sI .i64 c) ([]) (.fork .fin (.ou 19 4 (dbR M n c e p b 1) (.fork .fin (.ans 42 ((eg e p)) ([]) .fin))))) =
(.call ⟨13,(bQ M),[],sI .i64 c,[]⟩
 (.test (c != 0)
 (.must true
 (.out (.ret (.aD [sI .i64 c,sI .i64 0]) [])))
 (.call ⟨41,[.agg (adP AV.p M.aH),sI .i64 (au (aA (adw aM M.fns) (aF n*3+0)))],[],.p (.sc (.bool b)),[]⟩
 (.must (dy (.p (.sc (.bool (decide ((↑n:Int)≥(↑M.fns.length:Int)))))) (sB false)&&(bE (↑n:Int) M.fns.length&&true&&true&&(isInt tp (aA (adw aM M.fns) (aF n*3+0))&&true&&true))&&true)
 (.test (!b)
 (.out (.ret (.aD [sI .i64 6,sI .i64 0]) []))
 (.call ⟨42,(oy M n),[],(eg e p),[]⟩
 (.out (.ret (.aD [sI .i64 e,sI .i64 p]) [])))))))):=by kernel_rfl
theorem U5 (M:Mo) (n:Int):aE aeB env (aJ vlC av [] [(40,2,3),(40,0,0)] []) 1000000 40 ([AV.agg (adP AV.p M.aH),sI tp n]) ([]) (jv 3 9).1 =
(.test (decide (n<0))
 (.out (.ret (.aD [sI .i64 6,sI .i64 0]) []))
 (.test (decide (n≥(↑M.fns.length:Int)))
 (.out (.ret (.aD [sI .i64 6,sI .i64 0]) []))
 (.call ⟨8,[.agg (adP AV.p M.aH),sI .u32 (acU.wrap (tp.wrap ((↑M.aP.length:Int)+n)))],[],.aD [.agg [sI .i64 0,sI .i64 0],sB false],[]⟩
 (.out (.ret (.aD [sI .i64 6,sI .i64 0]) []))))):=by kernel_rfl
theorem YA (M:Mo):aE aeB env (aJ aB av [(45,0),(45,3)] [] []) 1000000 45 ([AV.agg (adP AV.p M.aH)]) ([]) (.fin) =
(.at (ah aeB env 45 0 [.mp 0 0,.mp 1 0,sI .i64 0] ((cU M)) 0 68)):=by kernel_rfl
theorem xd (M:Mo) (i:Nat) (b:Bool) (p q:Int):grow aeB env (aJ aB av [(45,0),(45,3)] (fm 45 [(0,1),(0,2),(0,6),(0,7),(17,4),(0,8)]) [(45,0,2)]) 1000000 true (ah aeB env 45 0 ([AV.mp 0 0,AV.mp 1 0,sI tp (↑i:Int)]) ([bf.pc M.aH,bf.pc [sP 0,sP 0,sP 0,sP 0]]) 0 68) (.fork (.ou 45 4 (dxQ M i b p q 0) .fin) (.fork .fin (.ans 9 ((gp p q b)) ([]) (jv 4 229).1))) atEnd =
(.test ((jL i M))
 (.call ⟨103,[.agg (adP AV.p M.aH),.agg [.p (.sc (.string (aY (aA (adw aV M.exs) (aF i*3))))),sI .i64 (au (aA (adw aV M.exs) (aF i*3+1))),sI .u32 (au (aA (adw aV M.exs) (aF i*3+1+1)))]],[],.p (.sc (.bool b)),[]⟩
 (.must (bE (↑i:Int) M.exs.length&&true&&true&&(isStr (aA (adw aV M.exs) (aF i*3))&&(isInt tp (aA (adw aV M.exs) (aF i*3+1))&&(isInt acU (aA (adw aV M.exs) (aF i*3+1+1))&&true))&&true&&true)&&true)
 (.test (!b)
 (.out (.ret (.agg [sI .i64 6,sI .i64 7,sI .i64 (↑i:Int),sI .i64 0]) []))
 (.at (ah aeB env 45 3 [.mp 0 0,.mp 1 0,sI .i64 (↑i:Int),sI .i64 0] ((cU M)) 0 68)))))
 (.test (!M.st)
 (.out (.ret (.agg [sI .i64 0,sI .i64 0,sI .i64 0,sI .i64 0]) []))
 (.call ⟨9,[.agg (adP AV.p M.aH),sI .u32 M.sn],[],(gp p q b),[]⟩
 (.test (!b)
 (.out (.ret (.agg [sI .i64 6,sI .i64 8,sI .i64 0,sI .i64 0]) []))
 (.test (p != 0)
 (.out (.ret (.agg [sI .i64 213,sI .i64 8,sI .i64 0,sI .i64 0]) []))
 (.test (q != 0)
 (.out (.ret (.agg [sI .i64 213,sI .i64 8,sI .i64 0,sI .i64 0]) []))
 (.out (.ret (.agg [sI .i64 0,sI .i64 0,sI .i64 0,sI .i64 0]) [])))))))):=by kernel_rfl
theorem I2 (M:Mo) (i:Nat) (k:Nat):grow aeB env (aJ aB av [(45,0),(45,3)] [(45,0,4),(45,0,5)] [(45,0,5)]) 1000000 true (ah aeB env 45 3 ([AV.mp 0 0,AV.mp 1 0,sI tp (↑i:Int),sI tp (↑k:Int)]) ([bf.pc M.aH,bf.pc [sP 0,sP 0,sP 0,sP 0]]) 0 68) (.fin) atEnd =
(.test ((bh k i))
 (.must (bE (↑k:Int) M.exs.length&&true&&(isStr (aA (adw aV M.exs) (aF k*3+0))&&(bE (↑i:Int) M.exs.length&&true&&(isStr (aA (adw aV M.exs) (aF i*3+0))&&true)))&&true)
 (.test ((aY (aA (adw aV M.exs) (aF k*3+0))).data.toList==(aY (aA (adw aV M.exs) (aF i*3+0))).data.toList)
 (.out (.ret (.agg [sI .i64 7,sI .i64 7,sI .i64 (↑i:Int),sI .i64 0]) []))
 (.at (ah aeB env 45 3 [.mp 0 0,.mp 1 0,sI .i64 (↑i:Int),sI .i64 (tp.wrap ((↑k:Int)+1))] ((cU M)) 0 68))))
 (.at (ah aeB env 45 0 [.mp 0 0,.mp 1 0,sI .i64 (tp.wrap ((↑i:Int)+1))] ((cU M)) 0 68))):=by kernel_rfl
theorem YB (M:Mo):aE aeB env (aJ aB av [(46,0),(46,4)] [] []) 1000000 46 ([AV.agg (adP AV.p M.aH)]) ([]) (.fin) =
(.at (ah aeB env 46 0 [.mp 0 0,.mp 1 0,sI .i64 0] ((cU M)) 0 62)):=by kernel_rfl
theorem I3 (M:Mo) (i:Nat) (u e:Int):grow aeB env (aJ aB av [(46,0),(46,4)] (fm 46 [(0,1),(0,2),(0,3)]) [(46,7,3),(46,7,5)]) 1000000 true (ah aeB env 46 0 ([AV.mp 0 0,AV.mp 1 0,sI tp (↑i:Int)]) ([bf.pc M.aH,bf.pc [sP 0,sP 0,sP 0,sP 0]]) 0 62) (.fork (.fork .fin (.ans 102 (.aD [sI .u32 u,sI .i64 e]) ([]) .fin)) .fin) atEnd =
(.test ((jh i M))
 (.test ((↑M.cN.length:Int)==0)
 (.out (.ret (.agg [sI .i64 6,sI .i64 9,sI .i64 (↑i:Int),sI .i64 0]) []))
 (.must ((l7 i M))
 (.must (aX (aA (adw aT M.els) (aF i*2+0))&&true)
 (.call ⟨102,(wC M i),[],.aD [sI .u32 u,sI .i64 e],[]⟩
 (.test (e != 0)
 (.out (.ret (.agg [sI .i64 e,sI .i64 9,sI .i64 (↑i:Int),sI .i64 0]) []))
 (.at (ah aeB env 46 4 [.mp 0 0,.mp 1 0,sI .i64 (↑i:Int),sI .i64 0] ((cU M)) 0 62)))))))
 (.out (.ret (.agg [sI .i64 0,sI .i64 0,sI .i64 0,sI .i64 0]) []))):=by kernel_rfl
theorem YC (M:Mo):aE aeB env (aJ aB av [(47,0),(47,3)] [] []) 1000000 47 ([AV.agg (adP AV.p M.aH)]) ([]) (.fin) =
(.at (ah aeB env 47 0 [.mp 0 0,.mp 1 0,sI .i64 0] ((cU M)) 0 57)):=by kernel_rfl
theorem I4 (M:Mo) (i:Nat) (u e p:Int):grow aeB env (aJ aB av [(47,0),(47,3)] [(47,0,1),(47,0,2)] []) 1000000 true (ah aeB env 47 0 ([AV.mp 0 0,AV.mp 1 0,sI tp (↑i:Int)]) ([bf.pc M.aH,bf.pc [sP 0,sP 0,sP 0,sP 0]]) 0 57) (.fork (.ans 42 ((eg e p)) ([]) .fin) .fin) atEnd =
(.test ((gU i M))
 (.call ⟨42,(oy M i),[],(eg e p),[]⟩
 (.test (e != 0)
 (.out (.ret (.agg [sI .i64 e,sI .i64 10,sI .i64 (↑i:Int),sI .i64 p]) []))
 (.at (ah aeB env 47 0 [.mp 0 0,.mp 1 0,sI .i64 (tp.wrap ((↑i:Int)+1))] ((cU M)) 0 57))))
 (.at (ah aeB env 47 3 [.mp 0 0,.mp 1 0,sI .i64 0] ((cU M)) 0 57))):=by kernel_rfl
theorem I5 (M:Mo) (i:Nat) (u e p:Int):grow aeB env (aJ aB av [(47,0),(47,3)] (fm 47 [(0,4),(0,5),(0,6)]) [(47,13,3),(47,13,5)]) 1000000 true (ah aeB env 47 3 ([AV.mp 0 0,AV.mp 1 0,sI tp (↑i:Int)]) ([bf.pc M.aH,bf.pc [sP 0,sP 0,sP 0,sP 0]]) 0 57) (.fork (.fork .fin (.ans 102 (.aD [sI .u32 u,sI .i64 e]) ([]) .fin)) .fin) atEnd =
(.test ((ji i M))
 (.test ((↑M.cL.length:Int)==0)
 (.out (.ret (.agg [sI .i64 6,sI .i64 11,sI .i64 (↑i:Int),sI .i64 0]) []))
 (.must ((oA i M))
 (.must (aX (aA (adw bz M.bw) (aF i*2+0))&&true)
 (.call ⟨102,(sj M i),[],.aD [sI .u32 u,sI .i64 e],[]⟩
 (.test (e != 0)
 (.out (.ret (.agg [sI .i64 e,sI .i64 11,sI .i64 (↑i:Int),sI .i64 0]) []))
 (.at (ah aeB env 47 3 [.mp 0 0,.mp 1 0,sI .i64 (tp.wrap ((↑i:Int)+1))] ((cU M)) 0 57)))))))
 (.out (.ret (.agg [sI .i64 0,sI .i64 0,sI .i64 0,sI .i64 0]) []))):=by kernel_rfl
theorem Gs (M:Mo) (c w1 w2 w3 w4 x1 x2 x3 x4 y1 y2 y3 y4 z1 z2 z3 z4:Int):aE aeB env (aJ aB av [] (fm 21 [(0,0),(0,1),(0,2),(0,3)]) []) 1000000 21 ([AV.agg (adP AV.p M.aH)]) ([]) (.ans 13 (sI .i64 c) ([]) (.fork .fin (.ans 44 ((dV w1 w2 w3 w4)) ([]) (.fork (.ans 45 ((dV x1 x2 x3 x4)) ([]) (.fork (.ans 46 ((dV y1 y2 y3 y4)) ([]) (.fork (.ans 47 ((dV z1 z2 z3 z4)) ([]) .fin) .fin)) (.no .fin))) (.no (.no .fin)))))) =
(.call ⟨13,(bQ M),[],sI .i64 c,[]⟩
 (.test (c != 0)
 (.out (.ret (.agg [sI .i64 c,sI .i64 0,sI .i64 0,sI .i64 0]) []))
 (.call ⟨44,(bQ M),[],(dV w1 w2 w3 w4),[]⟩
 (.test (w1==0)
 (.call ⟨45,(bQ M),[],(dV x1 x2 x3 x4),[]⟩
 (.test (x1==0)
 (.call ⟨46,(bQ M),[],(dV y1 y2 y3 y4),[]⟩
 (.test (y1==0)
 (.call ⟨47,(bQ M),[],(dV z1 z2 z3 z4),[]⟩
 (.out (.ret (.agg [sI .i64 z1,sI .i64 z2,sI .i64 z3,sI .i64 z4]) [])))
 (.out (.ret (.agg [sI .i64 y1,sI .i64 y2,sI .i64 y3,sI .i64 y4]) []))))
 (.must (!(x1==0))
 (.out (.ret (.agg [sI .i64 x1,sI .i64 x2,sI .i64 x3,sI .i64 x4]) [])))))
 (.must (!(w1==0))
 (.must (!(w1==0))
 (.out (.ret (.agg [sI .i64 w1,sI .i64 w2,sI .i64 w3,sI .i64 w4]) [])))))))):=by kernel_rfl
theorem YD (M:Mo) (n c e p:Int) (b:Bool):aE aeB env (aJ aB av [] [(18,0,0)] []) 1000000 18 ([AV.agg (adP AV.p M.aH),sI tp n]) ([]) (.ans 12 (sI .i64 c) ([]) (.fork .fin (.ans 40 ((eg e p)) ([]) .fin))) =
(.call ⟨12,(bQ M),[],sI .i64 c,[]⟩
 (.test (c != 0)
 (.out (.ret (.aD [sI .i64 c,sI .i64 0]) []))
 (.call ⟨40,[.agg (adP AV.p M.aH),sI .i64 n],[],(eg e p),[]⟩
 (.out (.ret (.aD [sI .i64 e,sI .i64 p]) []))))):=by kernel_rfl
theorem Cg (M:Mo) (n:Int) (h:0≤n):an aeB env 41 [.agg (M.aH.map .p),sI .i64 n] [] (sB (decide (n<(M.tys.length:Int)))) []:=by
 have g:decide (n≥0)=true:=decide_eq_true h
 refine aa aI (UX M n) ?_
 simp only[aG.ok,g]
 exact⟨fun _=>(by first|rfl|trivial),fun q=>by cases q⟩
theorem sK (l:List Ins) (h:bF l≤jA) : ∃u,an aeB env 102 [aL l] [] (.aD [sI .u32 u,sI .i64 (iD l)]) []:=by
 have hc:=zD zy l h
 match l,hc with
 |[],hc=>exact⟨0,aa aI (sJ [] 0) (by simp[jf,br,aG.ok];rfl)⟩
 |x::y::r,hc=>
  have e:iD (x::y::r)=210:=by simp[iD]
  rw[e]
  exact⟨0,aa aI (sJ (x::y::r) 0) ⟨fun _=>rfl,fun q=>by simp at q;omega⟩⟩
 |[.mk op r a b n tg ll le],hc=>
  by_cases ho:op=65
  · subst ho
    by_cases z:cT je [.mk 65 r a b n tg ll le]=0
    · have e:iD [.mk 65 r a b n tg ll le]=0:=by simp[iD,z]
      rw[z] at hc
      rw[e]
      exact⟨acU.wrap n,aa aI (sJ _ 0) ⟨fun q=>by simp at q,fun _=>⟨rfl,rfl,fun q=>absurd (show((65:Int) != 65)=true from q) (by decide),fun _=>⟨hc,fun q=>by simp at q,fun _=>⟨rfl,rfl,rfl⟩⟩⟩⟩⟩
    · have e:iD [.mk 65 r a b n tg ll le]=210:=by simp[iD,z]
      rw[e]
      exact⟨0,aa aI (sJ _ _) ⟨fun q=>by simp at q,fun _=>⟨rfl,rfl,fun q=>absurd (show((65:Int) != 65)=true from q) (by decide),fun _=>⟨hc,fun _=>rfl,fun q=>absurd (by simpa using q) z⟩⟩⟩⟩
  · have e:iD [.mk op r a b n tg ll le]=210:=by simp[iD,ho]
    rw[e]
    exact⟨0,aa aI (sJ _ 0) ⟨fun q=>by simp at q,fun _=>⟨rfl,rfl,fun _=>rfl,fun q=>absurd (show(op != 65)=false from q) (by simpa using ho)⟩⟩⟩
theorem U6 (l:List Ins):iD l=0∨iD l=210:=by
 unfold iD
 split
 · split
   · split
     · exact .inl rfl
     · exact .inr rfl
   · exact .inr rfl
 · exact .inr rfl
theorem U7 (l:List Ins):Cs l=iD l:=by
 unfold Cs
 rcases U6 l with h|h<;>rw[h]<;>rfl
theorem Ch (M:Mo):an aeB env 104 [.agg (M.aH.map .p)] [] (sI .i64 (oZ M)) []:=aa aI (UY M) (by first|rfl|trivial)
theorem Lm (M:Mo) (x:Ex) (hk:0≤x.kind∧x.kind≤3) (hi:0≤x.ix∧x.ix<4294967296) :
  an aeB env 103 [.agg (M.aH.map .p),.agg [.p (.sc (.string x.nm)),sI .i64 x.kind,sI .u32 x.ix]] [] (sB (decide (x.ix<jk M x.kind))) []:=by
 have w:tp.wrap x.ix=x.ix:=aZ (by omega) (by omega)
 have h4:x.kind=0∨x.kind=1∨x.kind=2∨x.kind=3:=by omega
 have hf:=Ch M
 rcases h4 with q|q|q|q<;>rw[q]
 · refine aa aI (UZ M x.nm x.ix (oZ M)) ?_
   simp only[bQ,aG.ok,w]
   first|exact⟨hf,rfl⟩|exact⟨hf,trivial⟩
 · refine aa aI (U0 M x.nm x.ix (oZ M)) ?_
   simp only[bQ,aG.ok,w]
   first|exact⟨hf,rfl⟩|exact⟨hf,trivial⟩
 · refine aa aI (U1 M x.nm x.ix (oZ M)) ?_
   simp only[bQ,aG.ok,w]
   first|exact⟨hf,rfl⟩|exact⟨hf,trivial⟩
 · refine aa aI (U2 M x.nm x.ix (oZ M)) ?_
   simp only[bQ,aG.ok,w]
   first|exact⟨hf,rfl⟩|exact⟨hf,trivial⟩
theorem scan {N:Nat} {D:Nat→cw} {s:Int} {e a:Nat→Int} {K:Wr}
  (aU : ∀i,i<N→(∀j,j<i→e j=0)→e i≠0→bp aeB env (D i) (.ret (wV (e i,s,i,a i)) []))
  (good : ∀i,i<N→(∀j,j<i→e j=0)→e i=0 → ∀o,bp aeB env (D (i+1)) o→bp aeB env (D i) o)
  (fin:(∀j,j<N→e j=0)→bp aeB env (D N) (.ret (wV K) [])) :
  ∀r i:Nat,i+r=N→(∀j,j<i→e j=0)→bp aeB env (D i) (.ret (wV (if(l9 s e a r i).1≠0 then l9 s e a r i else K)) []):=by
 intro r
 induction r with
 |zero=>
  intro i hi hz
  obtain rfl:i=N:=by omega
  exact fin hz
 |succ r ih=>
  intro i hi hz
  by_cases h:e i=0
  · have k:=ih (i+1) (by omega) (fun j hj=>by
     by_cases q:j=i
     · rw[q];exact h
     · exact hz j (by omega))
    have ef:l9 s e a (r+1) i=l9 s e a r (i+1):=by
     rw[l9]
     exact if_neg (fun q=>q h)
    rw[ef]
    exact good i (by omega) hz h _ k
  · have ef:l9 s e a (r+1) i=(e i,s,(i:Int),a i):=by
     rw[l9]
     exact if_pos h
    rw[ef]
    have k:=aU i (by omega) hz h
    rw[if_pos (show(e i,s,(i:Int),a i).1≠0 from h)]
    exact k
theorem hda (M:Mo) (hM:M.fit) {i:Nat} {x:Im} (hx:M.aP[i]? = some x) (h0:0≤x.ty) (o:Out) (ho:if xq M x.ty≠0 then o = .ret (wV (xq M x.ty,2,i,0)) [] else bp aeB env (ah aeB env 44 0 [.mp 0 0,.mp 1 0,sI .i64 (i+1:Nat)] [.pc M.aH,.pc [sP 0,sP 0,sP 0,sP 0]] 0 67) o) :
  bp aeB env (ah aeB env 44 0 [.mp 0 0,.mp 1 0,sI .i64 i] [.pc M.aH,.pc [sP 0,sP 0,sP 0,sP 0]] 0 67) o:=by
 have hl:=hM.aP
 have hi:i<M.aP.length:=(dt.1 hx).1
 have c:=aQ (z:=3) (enc:=bg) (fun _=>rfl) hx
 have c0:(M.aP.flatMap bg).getD (i*3+2) .aU = .sc (.int .i64 x.ty):=c 2 (by decide)
 have hin:=kg (i:=i) (n:=M.aP.length) (by omega)
 have hd:=kj (i:=i) (n:=M.aP.length) (by omega)
 have w:=fk i (by omega)
 have ht:=Cg M x.ty h0
 refine af aI (IX M i (decide (x.ty<(M.tys.length:Int))) 0 0) ?_
 simp only[cU,kE,BM,br,aG.ok,isInt,au,aeL,c0,hd,hin,w,aeN,aeO]
 refine⟨fun _=>⟨ht,(by first|rfl|trivial),fun q=> ?_,fun q=> ?_⟩,fun q=>by cases q⟩
 · have e:xq M x.ty=6:=if_neg (by simpa using q)
   rw[e,if_pos (by decide)] at ho
   exact ho.symm
 · have e:xq M x.ty=0:=if_pos (by simpa using q)
   rw[e,if_neg (by decide)] at ho
   exact ho
theorem hdb (M:Mo) (hM:M.fit) {i:Nat} {x:Fu} (hx:M.fns[i]? = some x) (h0:0≤x.ty) (o:Out) (ho:if xq M x.ty≠0 then o = .ret (wV (xq M x.ty,3,i,0)) [] else bp aeB env (ah aeB env 44 3 [.mp 0 0,.mp 1 0,sI .i64 (i+1:Nat)] [.pc M.aH,.pc [sP 0,sP 0,sP 0,sP 0]] 0 67) o) :
  bp aeB env (ah aeB env 44 3 [.mp 0 0,.mp 1 0,sI .i64 i] [.pc M.aH,.pc [sP 0,sP 0,sP 0,sP 0]] 0 67) o:=by
 have hl:=hM.fns
 have hi:i<M.fns.length:=(dt.1 hx).1
 have c:=aQ (z:=3) (enc:=aM) (fun _=>rfl) hx
 have c0:(M.fns.flatMap aM).getD (i*3+0) .aU = .sc (.int .i64 x.ty):=c 0 (by decide)
 have hin:=kg (i:=i) (n:=M.fns.length) (by omega)
 have hd:=kj (i:=i) (n:=M.fns.length) (by omega)
 have w:=fk i (by omega)
 have ht:=Cg M x.ty h0
 refine af aI (IY M i (decide (x.ty<(M.tys.length:Int))) 0 0) ?_
 simp only[cU,gU,BN,br,aG.ok,isInt,au,aeL,c0,hd,hin,w,aeN,aeO]
 refine⟨fun _=>⟨ht,(by first|rfl|trivial),fun q=> ?_,fun q=> ?_⟩,fun q=>by cases q⟩
 · have e:xq M x.ty=6:=if_neg (by simpa using q)
   rw[e,if_pos (by decide)] at ho
   exact ho.symm
 · have e:xq M x.ty=0:=if_pos (by simpa using q)
   rw[e,if_neg (by decide)] at ho
   exact ho
theorem hdc (M:Mo) (hM:M.fit) {i:Nat} {x:Gl} (hx:M.gls[i]? = some x) (hn:bF x.l≤jA) (o:Out) (ho:if Cs x.l≠0 then o = .ret (wV (Cs x.l,6,i,0)) [] else bp aeB env (ah aeB env 44 6 [.mp 0 0,.mp 1 0,sI .i64 (i+1:Nat)] [.pc M.aH,.pc [sP 0,sP 0,sP 0,sP 0]] 0 67) o) :
  bp aeB env (ah aeB env 44 6 [.mp 0 0,.mp 1 0,sI .i64 i] [.pc M.aH,.pc [sP 0,sP 0,sP 0,sP 0]] 0 67) o:=by
 have hl:=hM.gls
 have hi:i<M.gls.length:=(dt.1 hx).1
 have c:=aQ (z:=2) (enc:=bC) (fun _=>rfl) hx
 have c0:(M.gls.flatMap bC).getD (i*2+1) .aU = .ps x.l.length 8 (ak x.l):=c 1 (by decide)
 have hin:=kg (i:=i) (n:=M.gls.length) (by omega)
 have hd:=kj (i:=i) (n:=M.gls.length) (by omega)
 have w:=fk i (by omega)
 obtain⟨u,ht⟩:=sK x.l hn
 rw[U7] at ho
 refine af aI (IZ M i false u (iD x.l)) ?_
 simp only[rZ,cU,kD,qh,br,aG.ok,aX,aq,aK,aj,aeL,c0,hd,hin,w,aeN,aeO]
 refine⟨fun _=>⟨(by first|rfl|trivial),(by first|rfl|trivial),ht,fun q=> ?_,fun q=> ?_⟩,fun q=>by cases q⟩
 · rw[if_pos (by simpa using q)] at ho
   exact ho.symm
 · rw[if_neg (by simpa using q)] at ho
   exact ho
theorem ab6 (M:Mo):bp aeB env (ah aeB env 44 6 [.mp 0 0,.mp 1 0,sI .i64 (M.gls.length:Nat)] [.pc M.aH,.pc [sP 0,sP 0,sP 0,sP 0]] 0 67) (.ret (wV (0,0,0,0)) []):=by
 have hd:=lP M.gls.length
 refine af aI (IZ M M.gls.length false 0 0) ?_
 simp only[rZ,cU,kD,qh,br,aG.ok,hd]
 exact⟨(fun q=>by cases q),fun _=>(by first|rfl|trivial)⟩
theorem YE (M:Mo) (o:Out) (h:bp aeB env (ah aeB env 44 6 [.mp 0 0,.mp 1 0,sI .i64 (0:Nat)] [.pc M.aH,.pc [sP 0,sP 0,sP 0,sP 0]] 0 67) o):bp aeB env (ah aeB env 44 3 [.mp 0 0,.mp 1 0,sI .i64 (M.fns.length:Nat)] [.pc M.aH,.pc [sP 0,sP 0,sP 0,sP 0]] 0 67) o:=by
 have hd:=lP M.fns.length
 refine af aI (IY M M.fns.length false 0 0) ?_
 simp only[cU,gU,BN,br,aG.ok,hd]
 exact⟨nofun,fun _=>h⟩
theorem U8 (M:Mo) (o:Out) (h:bp aeB env (ah aeB env 44 3 [.mp 0 0,.mp 1 0,sI .i64 (0:Nat)] [.pc M.aH,.pc [sP 0,sP 0,sP 0,sP 0]] 0 67) o):bp aeB env (ah aeB env 44 0 [.mp 0 0,.mp 1 0,sI .i64 (M.aP.length:Nat)] [.pc M.aH,.pc [sP 0,sP 0,sP 0,sP 0]] 0 67) o:=by
 have hd:=lP M.aP.length
 refine af aI (IX M M.aP.length false 0 0) ?_
 simp only[cU,kE,BM,br,aG.ok,hd]
 exact⟨nofun,fun _=>h⟩
def om (A B:Wr):Wr:=if A.1≠0 then A else B
theorem U9 {M:Mo} (h:M.Il) {x:Im} (hx:x∈M.aP):0≤x.ty:=by
 have m:=h.rest
 simp only[nZ,qs] at m
 have k:=agC.1 m.1.1.1.1.1.1.2 x hx
 unfold uQ at k
 simp only[ka,ag3,jn,decide_eq_true_eq] at k
 omega
theorem Gt {M:Mo} (h:M.Il) {x:Fu} (hx:x∈M.fns):0≤x.ty:=by
 have m:=h.rest
 simp only[nZ,qs] at m
 have k:=agC.1 m.1.1.1.1.1.2 x hx
 unfold tN at k
 simp only[j1,not_or,ka,ag3,jn,decide_eq_true_eq] at k
 omega
theorem gD {α:Type} {l:List α} {i:Nat} (hi:i<l.length) (f:α→Int):(l[i]?).elim 0 f=f l[i]:=by rw[df hi];rfl
theorem Ln (M:Mo) (hM:M.fit) (hs:M.rY) (hmay:M.Il):an aeB env 44 [.agg (M.aH.map .p)] [] (wV (om (bO M 2) (om (bO M 3) (om (bO M 6) (0,0,0,0))))) []:=by
 refine aa aI (Yz M) ?_
 have big:(100000000000:Nat)≤jA:=by decide
 refine scan (N:=M.aP.length) (s:=2) (D:=fun i=>ah aeB env 44 0 [.mp 0 0,.mp 1 0,sI .i64 (i:Nat)] [.pc M.aH,.pc [sP 0,sP 0,sP 0,sP 0]] 0 67) (e:=fun i=>(M.aP[i]?).elim 0 fun x=>xq M x.ty) (a:=fun _=>0) (fun i hi _ h=> ?_) (fun i hi _ h o ho=> ?_) (fun _=> ?_) M.aP.length 0 (by omega) (fun j hj=>by omega)
 · have h':xq M M.aP[i].ty≠0:=by simpa only[gD hi] using h
   refine hda M hM (df hi) (U9 hmay (eQ hi)) _ ?_
   rw[if_pos h']
   simp only[gD hi]
 · have h':xq M M.aP[i].ty=0:=by simpa only[gD hi] using h
   refine hda M hM (df hi) (U9 hmay (eQ hi)) _ ?_
   rw[if_neg (fun q=>q h')]
   exact ho
 refine U8 M _ ?_
 refine scan (N:=M.fns.length) (s:=3) (D:=fun i=>ah aeB env 44 3 [.mp 0 0,.mp 1 0,sI .i64 (i:Nat)] [.pc M.aH,.pc [sP 0,sP 0,sP 0,sP 0]] 0 67) (e:=fun i=>(M.fns[i]?).elim 0 fun x=>xq M x.ty) (a:=fun _=>0) (fun i hi _ h=> ?_) (fun i hi _ h o ho=> ?_) (fun _=> ?_) M.fns.length 0 (by omega) (fun j hj=>by omega)
 · have h':xq M M.fns[i].ty≠0:=by simpa only[gD hi] using h
   refine hdb M hM (df hi) (Gt hmay (eQ hi)) _ ?_
   rw[if_pos h']
   simp only[gD hi]
 · have h':xq M M.fns[i].ty=0:=by simpa only[gD hi] using h
   refine hdb M hM (df hi) (Gt hmay (eQ hi)) _ ?_
   rw[if_neg (fun q=>q h')]
   exact ho
 refine YE M _ ?_
 refine scan (N:=M.gls.length) (s:=6) (D:=fun i=>ah aeB env 44 6 [.mp 0 0,.mp 1 0,sI .i64 (i:Nat)] [.pc M.aH,.pc [sP 0,sP 0,sP 0,sP 0]] 0 67) (e:=fun i=>(M.gls[i]?).elim 0 fun x=>Cs x.l) (a:=fun _=>0) (fun i hi _ h=> ?_) (fun i hi _ h o ho=> ?_) (fun _=>ab6 M) M.gls.length 0 (by omega) (fun j hj=>by omega)
 · have h':Cs M.gls[i].l≠0:=by simpa only[gD hi] using h
   refine hdc M hM (df hi) (ba (hs _ (K6 (eQ hi))) big) _ ?_
   rw[if_pos h']
   simp only[gD hi]
 · have h':Cs M.gls[i].l=0:=by simpa only[gD hi] using h
   refine hdc M hM (df hi) (ba (hs _ (K6 (eQ hi))) big) _ ?_
   rw[if_neg (fun q=>q h')]
   exact ho
theorem OV (L:List ByteArray) (a s:ByteArray):fy (xz L a) s=(fy L s||(a.data.toList==s.data.toList)):=by
 unfold xz
 cases h:fy L a with
 |false=>
  show fy (L++[a]) s=_
  simp[fy,List.any_append]
 |true=>
  show fy L s=_
  cases q:a.data.toList==s.data.toList with
  |false=>rw[Bool.or_false]
  |true=>
   have e:a.data.toList=s.data.toList:=by simpa using q
   unfold fy at h ⊢
   rw[←e,h]
   rfl
theorem ET (M:Mo) : ∀(l:List Ex) (L:List ByteArray),(∀x∈l,¬(ae1.wrap x.ix≥ae1.wrap (jk M x.kind))) → ∀s:ByteArray,fy (iy M l L) s=(fy L s||l.any fun y=>y.nm.data.toList==s.data.toList)
 |[],L,_,s=>by simp[iy]
 |x::r,L,h,s=>by
  show fy (iy M r (tO L (jk M x.kind) x)) s=_
  rw[tO,if_neg (h x (List.mem_cons_self ..)),ET M r _ (fun y hy=>h y (List.mem_cons_of_mem _ hy)),OV,aew,Bool.or_assoc]
theorem ab7 {M:Mo} (hM:M.fit) (k:Int):0≤jk M k∧jk M k≤100000000:=by
 have h1:=hM.aP;have h2:=hM.fns;have h3:=hM.cN;have h4:=hM.cL;have h5:=hM.gls
 unfold jk
 rw[XH hM]
 split
 · omega
 split
 · omega
 split<;>omega
theorem Va {M:Mo} (hM:M.fit) {t:Int} (ht:0≤t∧t<4294967296) (k:Int):(ae1.wrap t≥ae1.wrap (jk M k)) ↔ ¬(t<jk M k):=by
 have h:=ab7 hM k
 have w1:ae1.wrap t=t:=by rw[ads];omega
 have w2:ae1.wrap (jk M k)=jk M k:=by rw[ads];omega
 rw[w1,w2]
 omega
theorem Vb {t:Int} (h:(Lit.int .u32 t).wf=true):0≤t∧t<4294967296:=by
 have b:acU.min≤t∧t≤acU.max:=by simpa[Lit.wf] using h
 have b0:0≤t:=b.1
 have b1:t≤4294967295:=b.2
 omega
theorem Vc (M:Mo) (hM:M.fit) {i:Nat} {x:Ex} (hx:M.exs[i]? = some x) (o:Out) : ∀r k:Nat,k+r=i →
  (if(((M.exs.take i).drop k).any fun y=>y.nm.data.toList==x.nm.data.toList)=true then o = .ret (wV (7,7,i,0)) [] else bp aeB env (ah aeB env 45 0 [.mp 0 0,.mp 1 0,sI .i64 (i+1:Nat)] [.pc M.aH,.pc [sP 0,sP 0,sP 0,sP 0]] 0 68) o) →
  bp aeB env (ah aeB env 45 3 [.mp 0 0,.mp 1 0,sI .i64 i,sI .i64 k] [.pc M.aH,.pc [sP 0,sP 0,sP 0,sP 0]] 0 68) o:=by
 have hl:=hM.exs
 have hi:i<M.exs.length:=(dt.1 hx).1
 have c:=aQ (z:=3) (enc:=aV) (fun _=>rfl) hx
 have c0:(M.exs.flatMap aV).getD (i*3+0) .aU = .sc (.string x.nm):=c 0 (by decide)
 have hin:=kg (i:=i) (n:=M.exs.length) (by omega)
 intro r
 induction r with
 |zero=>
  intro k hk ho
  obtain rfl:k=i:=by omega
  have e:(M.exs.take k).drop k=[]:=ae4 (by rw[eh];omega)
  rw[e,agW,if_neg (show ¬(false=true) by decide)] at ho
  have hd:=lP k
  have w:=fk k (by omega)
  refine af aI (I2 M k k) ?_
  simp only[bh,cU,br,aG.ok,hd,w]
  exact⟨nofun,fun _=>ho⟩
 |succ r ih=>
  intro k hk ho
  have nM:k<M.exs.length:=by omega
  have hd:=kj (i:=k) (n:=i) (by omega)
  have hy:M.exs[k]? = some M.exs[k]:=df nM
  have cy:=aQ (z:=3) (enc:=aV) (fun _=>rfl) hy
  have c1:(M.exs.flatMap aV).getD (k*3+0) .aU = .sc (.string M.exs[k].nm):=cy 0 (by decide)
  have hik:=kg (i:=k) (n:=M.exs.length) (by omega)
  have w:=fk k (by omega)
  have e:(M.exs.take i).drop k=M.exs[k]::(M.exs.take i).drop (k+1):=by
   rw[aeo (by rw[eh];omega),agT]
  rw[e,aew] at ho
  refine af aI (I2 M i k) ?_
  simp only[bh,cU,br,aG.ok,isStr,aY,aeL,c0,c1,hin,hik,hd,w,aeN,aeO]
  refine⟨fun _=>⟨(by first|rfl|trivial),fun q=> ?_,fun q=> ?_⟩,fun q=>by cases q⟩
  · rw[q,ae7,if_pos rfl] at ho
    exact ho.symm
  · rw[q,xo] at ho
    exact ih (k+1) (by omega) ho
theorem hxa (M:Mo) (hM:M.fit) {i:Nat} {x:Ex} (hx:M.exs[i]? = some x) (hk:0≤x.kind∧x.kind≤3) (hix:0≤x.ix∧x.ix<4294967296) (o:Out)
  (ho:if x.ix<jk M x.kind then bp aeB env (ah aeB env 45 3 [.mp 0 0,.mp 1 0,sI .i64 i,sI .i64 (0:Nat)] [.pc M.aH,.pc [sP 0,sP 0,sP 0,sP 0]] 0 68) o else o = .ret (wV (6,7,i,0)) []) :
  bp aeB env (ah aeB env 45 0 [.mp 0 0,.mp 1 0,sI .i64 i] [.pc M.aH,.pc [sP 0,sP 0,sP 0,sP 0]] 0 68) o:=by
 have hl:=hM.exs
 have hi:i<M.exs.length:=(dt.1 hx).1
 have c:=aQ (z:=3) (enc:=aV) (fun _=>rfl) hx
 have d0:(M.exs.flatMap aV).getD (i*3) .aU = .sc (.string x.nm):=c 0 (by decide)
 have d1:(M.exs.flatMap aV).getD (i*3+1) .aU = .sc (.int .i64 x.kind):=c 1 (by decide)
 have d2:(M.exs.flatMap aV).getD (i*3+1+1) .aU = .sc (.int .u32 x.ix):=c 2 (by decide)
 have hin:=kg (i:=i) (n:=M.exs.length) (by omega)
 have hd:=kj (i:=i) (n:=M.exs.length) (by omega)
 have ht:=Lm M x hk hix
 refine af aI (xd M i (decide (x.ix<jk M x.kind)) 0 0) ?_
 simp only[cU,gp,jL,br,aG.ok,isStr,aY,isInt,au,aeL,d0,d1,d2,hd,hin,aeN,aeO]
 refine⟨fun _=>⟨ht,(by first|rfl|trivial),fun q=> ?_,fun q=> ?_⟩,fun q=>by cases q⟩
 · rw[if_neg (by simpa using q)] at ho
   exact ho.symm
 · rw[if_pos (by simpa using q)] at ho
   exact ho
theorem ab8 (M:Mo) (hM:M.fit) (hw:M.wf):bp aeB env (ah aeB env 45 0 [.mp 0 0,.mp 1 0,sI .i64 (M.exs.length:Nat)] [.pc M.aH,.pc [sP 0,sP 0,sP 0,sP 0]] 0 68) (.ret (wV (bO M 8)) []):=by
 have hd:=lP M.exs.length
 have hs:=Vb hw.sn
 have t:=Ik M hM M.sn.toNat (by omega)
 rw[ag5 hs.1] at t
 by_cases hst:M.st=true
 · have e8:bO M 8=if Oj M≠0 then(Oj M,8,0,0) else(0,0,0,0):=by
    show(if M.st=true then l9 8 (fun _=>Oj M) (fun _=>0) 1 0 else(0,0,0,0))=_
    rw[if_pos hst]
    rfl
   rw[e8]
   unfold Oj
   cases e:xw M M.sn.toNat with
   |none=>
    rw[e] at t
    refine af aI (xd M M.exs.length false 0 0) ?_
    simp only[cU,gp,jL,br,aG.ok,hd,hst]
    exact⟨(fun q=>by cases q),fun _=>⟨(fun q=>by cases q),fun _=>⟨t,fun _=>(by first|rfl|trivial),fun q=>by cases q⟩⟩⟩
   |some y=>
    rw[e] at t
    refine af aI (xd M M.exs.length true y.p y.r) ?_
    simp only[cU,gp,jL,br,aG.ok,hd,hst]
    refine⟨nofun,fun _=>⟨nofun,fun _=>⟨t,nofun,fun _=>⟨fun q=> ?_,fun q=>⟨fun q2=> ?_,fun q2=> ?_⟩⟩⟩⟩⟩
    · have z:(y.p==0)=false:=by simpa using q
      simp only[z,afc,pD,if_false]
      first|rfl|trivial
    · have z:(y.p==0)=true:=by simpa using q
      have z2:(y.r==0)=false:=by simpa using q2
      simp only[z,z2,aeN,aeO,afc,pD,if_false]
      first|rfl|trivial
    · have z:(y.p==0)=true:=by simpa using q
      have z2:(y.r==0)=true:=by simpa using q2
      simp only[z,z2,aeN,aeO,if_true]
      first|rfl|trivial
 · have e8:bO M 8=(0,0,0,0):=by
    show(if M.st=true then l9 8 (fun _=>Oj M) (fun _=>0) 1 0 else(0,0,0,0))=_
    rw[if_neg hst]
   have hst:M.st=false:=by simpa using hst
   rw[e8]
   refine af aI (xd M M.exs.length false 0 0) ?_
   simp only[cU,gp,jL,br,aG.ok,hd,hst]
   exact⟨(fun q=>by cases q),fun _=>⟨fun _=>(by first|rfl|trivial),fun q=>by cases q⟩⟩
theorem C3 (M:Mo) (hM:M.fit) (hw:M.wf) (hmay:M.Il):an aeB env 45 [.agg (M.aH.map .p)] [] (wV (om (bO M 7) (bO M 8))) []:=by
 refine aa aI (YA M) ?_
 have core : ∀i (hi:i<M.exs.length),(∀j,j<i→((M.exs[j]?).elim 0 fun x=>j6 (iy M (M.exs.take j) []) (jk M x.kind) x)=0) → ∀o,
   (if j6 (iy M (M.exs.take i) []) (jk M M.exs[i].kind) M.exs[i]≠0 then o = .ret (wV (j6 (iy M (M.exs.take i) []) (jk M M.exs[i].kind) M.exs[i],7,i,0)) [] else bp aeB env (ah aeB env 45 0 [.mp 0 0,.mp 1 0,sI .i64 (i+1:Nat)] [.pc M.aH,.pc [sP 0,sP 0,sP 0,sP 0]] 0 68) o) →
   bp aeB env (ah aeB env 45 0 [.mp 0 0,.mp 1 0,sI .i64 (i:Nat)] [.pc M.aH,.pc [sP 0,sP 0,sP 0,sP 0]] 0 68) o:=by
  intro i hi hz o ho
  have hx:=df hi
  have hmem:=eQ hi
  have hix:=Vb (hw.exs.2 _ hmem).2.2
  have hge:=Va hM hix M.exs[i].kind
  have hall : ∀y∈M.exs.take i,¬(ae1.wrap y.ix≥ae1.wrap (jk M y.kind)):=fun y hy=>by
   obtain⟨j,hj,e⟩:=List.getElem_of_mem hy
   rw[eh] at hj
   rw[agT] at e
   have k:=hz j (by omega)
   rw[df (by omega:j<M.exs.length),e] at k
   exact(TO.1 k).1
  have hn:=ET M (M.exs.take i) [] hall M.exs[i].nm
  have hn:fy (iy M (M.exs.take i) []) M.exs[i].nm=(M.exs.take i).any fun y=>y.nm.data.toList==M.exs[i].nm.data.toList:=by rw[hn];simp[fy]
  refine hxa M hM hx (UD hmay hmem) hix o ?_
  unfold j6 at ho
  by_cases g:M.exs[i].ix<jk M M.exs[i].kind
  · rw[if_pos g]
    rw[if_neg (fun q=>(hge.1 q) g),hn] at ho
    refine Vc M hM hx o i 0 (by omega) ?_
    rw[adr]
    cases q:(M.exs.take i).any fun y=>y.nm.data.toList==M.exs[i].nm.data.toList with
    |true=>
     rw[q,if_pos rfl,if_pos (show(7:Int)≠0 by decide)] at ho
     rw[if_pos rfl]
     exact ho
    |false=>
     rw[q,if_neg (show ¬(false=true) by decide),if_neg (show ¬((0:Int)≠0) by decide)] at ho
     rw[if_neg (show ¬(false=true) by decide)]
     exact ho
  · rw[if_neg g]
    rw[if_pos (hge.2 g),if_pos (show(6:Int)≠0 by decide)] at ho
    exact ho
 refine scan (N:=M.exs.length) (s:=7) (D:=fun i=>ah aeB env 45 0 [.mp 0 0,.mp 1 0,sI .i64 (i:Nat)] [.pc M.aH,.pc [sP 0,sP 0,sP 0,sP 0]] 0 68) (e:=fun i=>(M.exs[i]?).elim 0 fun x=>j6 (iy M (M.exs.take i) []) (jk M x.kind) x) (a:=fun _=>0)
  (fun i hi hz h=> ?_) (fun i hi hz h o ho=> ?_) (fun _=>ab8 M hM hw) M.exs.length 0 (by omega) (fun j hj=>by omega)
 · have h':j6 (iy M (M.exs.take i) []) (jk M M.exs[i].kind) M.exs[i]≠0:=by simpa only[df hi,ag7] using h
   refine core i hi hz _ ?_
   rw[if_pos h']
   simp only[df hi,ag7]
 · have h':j6 (iy M (M.exs.take i) []) (jk M M.exs[i].kind) M.exs[i]=0:=by simpa only[df hi,ag7] using h
   refine core i hi hz _ ?_
   rw[if_neg (fun q=>q h')]
   exact ho
theorem Vd (M:Mo) (hM:M.fit) {i:Nat} {x:El} (hx:M.els[i]? = some x) (hl:x.fs.length≤1000000000) (hf : ∀t∈x.fs,(Lit.int .u32 t).wf=true) (o:Out) : ∀r k:Nat,k+r=x.fs.length →
  (if((x.fs.drop k).any (KN (oZ M)))=true then o = .ret (wV (6,9,i,0)) [] else bp aeB env (ah aeB env 46 0 [.mp 0 0,.mp 1 0,sI .i64 (i+1:Nat)] [.pc M.aH,.pc [sP 0,sP 0,sP 0,sP 0]] 0 62) o) →
  bp aeB env (ah aeB env 46 4 [.mp 0 0,.mp 1 0,sI .i64 i,sI .i64 k] [.pc M.aH,.pc [sP 0,sP 0,sP 0,sP 0]] 0 62) o:=by
 have hle:=hM.els
 have hi:i<M.els.length:=(dt.1 hx).1
 have c:=aQ (z:=2) (enc:=aT) (fun _=>rfl) hx
 have c1:(M.els.flatMap aT).getD (i*2+1) .aU = .ps x.fs.length 1 (dg .u32 x.fs):=c 1 (by decide)
 have hin:=kg (i:=i) (n:=M.els.length) (by omega)
 have hfu:=Ch M
 intro r
 induction r with
 |zero=>
  intro k hk ho
  obtain rfl:k=x.fs.length:=by omega
  rw[List.drop_length,agW,if_neg (show ¬(false=true) by decide)] at ho
  have hd:=lP x.fs.length
  have w:=fk i (by omega)
  refine af aI (I0 M i x.fs.length (oZ M)) ?_
  simp only[cU,bQ,l7,br,aG.ok,aX,aq,aK,aj,aeL,c1,hin,hd,w,aeN,aeO]
  exact⟨(by first|rfl|trivial),(by first|rfl|trivial),(fun q=>by cases q),fun _=>ho⟩
 |succ r ih=>
  intro k hk ho
  have nM:k<x.fs.length:=by omega
  have hd:=kj (i:=k) (n:=x.fs.length) (by omega)
  have hik:=kg (i:=k) (n:=x.fs.length) (by omega)
  have w:=fk k (by omega)
  have c0:(dg .u32 x.fs).getD (k*1) .aU = .sc (.int .u32 x.fs[k]):=by rw[aez,kN .u32 x.fs k nM,de,df nM];rfl
  have ht:=Vb (hf _ (eQ nM))
  have wt:tp.wrap x.fs[k]=x.fs[k]:=aZ (by omega) (by omega)
  have hge:=Va hM ht 0
  have hou:KN (oZ M) x.fs[k]=decide (x.fs[k]≥oZ M):=by
   show decide (ae1.wrap x.fs[k]≥ae1.wrap (jk M 0))=decide (x.fs[k]≥jk M 0)
   exact decide_eq_decide.2 (hge.trans (by omega))
  rw[aeo nM,aew,hou] at ho
  refine af aI (I0 M i k (oZ M)) ?_
  simp only[cU,bQ,l7,br,aG.ok,aX,aq,aK,aj,isInt,au,aeL,c0,c1,hin,hik,hd,w,wt,aeN,aeO]
  refine⟨(by first|rfl|trivial),(by first|rfl|trivial),fun _=>⟨hfu,(by first|rfl|trivial),fun q=> ?_,fun q=> ?_⟩,fun q=>by cases q⟩
  · rw[q,ae7,if_pos rfl] at ho
    exact ho.symm
  · rw[q,xo] at ho
    exact ih (k+1) (by omega) ho
theorem I6 (M:Mo) (hM:M.fit) (hw:M.wf) (hs:M.rY) (hel : ∀x∈M.els,x.fs.length≤1000000000):an aeB env 46 [.agg (M.aH.map .p)] [] (wV (om (bO M 9) (0,0,0,0))) []:=by
 refine aa aI (YB M) ?_
 have hl:=hM.els
 have big:(100000000000:Nat)≤jA:=by decide
 have core : ∀i (hi:i<M.els.length) o,(if Oh M M.els[i]≠0 then o = .ret (wV (Oh M M.els[i],9,i,0)) [] else bp aeB env (ah aeB env 46 0 [.mp 0 0,.mp 1 0,sI .i64 (i+1:Nat)] [.pc M.aH,.pc [sP 0,sP 0,sP 0,sP 0]] 0 62) o) →
   bp aeB env (ah aeB env 46 0 [.mp 0 0,.mp 1 0,sI .i64 (i:Nat)] [.pc M.aH,.pc [sP 0,sP 0,sP 0,sP 0]] 0 62) o:=by
  intro i hi o ho
  have hx:=df hi
  have hmem:=eQ hi
  have c:=aQ (z:=2) (enc:=aT) (fun _=>rfl) hx
  have c0:(M.els.flatMap aT).getD (i*2+0) .aU = .ps M.els[i].l.length 8 (ak M.els[i].l):=c 0 (by decide)
  have hin:=kg (i:=i) (n:=M.els.length) (by omega)
  have hd:=kj (i:=i) (n:=M.els.length) (by omega)
  obtain⟨u,ht⟩:=sK M.els[i].l (ba (hs _ (Uy hmem)) big)
  refine af aI (I3 M i u (iD M.els[i].l)) ?_
  simp only[cU,wC,jh,l7,br,aG.ok,aX,aq,aK,aj,aeL,c0,hd,hin,aeN,aeO]
  unfold Oh at ho
  refine⟨fun _=>⟨fun q=> ?_,fun q=>⟨(by first|rfl|trivial),(by first|rfl|trivial),ht,fun q2=> ?_,fun q2=> ?_⟩⟩,fun q=>by cases q⟩
  · have z:M.cN.length=0:=by simpa using q
    rw[if_pos z,if_pos (show(6:Int)≠0 by decide)] at ho
    exact ho.symm
  · have z : ¬M.cN.length=0:=by simpa using q
    have z2:iD M.els[i].l=210:=by
     rcases U6 M.els[i].l with h|h
     · rw[h] at q2;cases q2
     · exact h
    rw[if_neg z,z2,if_neg (show ¬(((210:Int)==0)=true) by decide),if_pos (show(210:Int)≠0 by decide)] at ho
    rw[z2]
    exact ho.symm
  · have z : ¬M.cN.length=0:=by simpa using q
    have z2:iD M.els[i].l=0:=by simpa using q2
    rw[if_neg z,z2,if_pos (show((0:Int)==0)=true by decide)] at ho
    refine Vd M hM hx (hel _ hmem) (hw.els.2 _ hmem).2.2 o M.els[i].fs.length 0 (by omega) ?_
    rw[adr]
    cases q3:M.els[i].fs.any (KN (oZ M)) with
    |true=>
     rw[q3,if_pos rfl,if_pos (show(6:Int)≠0 by decide)] at ho
     rw[if_pos rfl]
     exact ho
    |false=>
     rw[q3,if_neg (show ¬(false=true) by decide),if_neg (show ¬((0:Int)≠0) by decide)] at ho
     rw[if_neg (show ¬(false=true) by decide)]
     exact ho
 refine scan (N:=M.els.length) (s:=9) (D:=fun i=>ah aeB env 46 0 [.mp 0 0,.mp 1 0,sI .i64 (i:Nat)] [.pc M.aH,.pc [sP 0,sP 0,sP 0,sP 0]] 0 62) (e:=fun i=>(M.els[i]?).elim 0 fun x=>Oh M x) (a:=fun _=>0)
  (fun i hi hz h=> ?_) (fun i hi hz h o ho=> ?_) (fun _=> ?_) M.els.length 0 (by omega) (fun j hj=>by omega)
 · have h':Oh M M.els[i]≠0:=by simpa only[gD hi] using h
   refine core i hi _ ?_
   rw[if_pos h']
   simp only[gD hi]
 · have h':Oh M M.els[i]=0:=by simpa only[gD hi] using h
   refine core i hi _ ?_
   rw[if_neg (fun q=>q h')]
   exact ho
 · have hd:=lP M.els.length
   refine af aI (I3 M M.els.length 0 0) ?_
   simp only[cU,wC,jh,l7,br,aG.ok,hd]
   exact⟨(fun q=>by cases q),fun _=>(by first|rfl|trivial)⟩
theorem aeh {M:Mo} (hmay:M.Il) {y:Ty} (hy:y∈M.tys) (lo:Int):PG (vM M y lo) where
 ret:=by
  have k:=kT hmay hy
  show y.r.toNat≤1
  omega
 ty a p r h:=by
  cases e:xw M a.toNat with
  |none=>simp[vM,e] at h
  |some z=>
   have k:=kT hmay (Cd e)
   simp only[vM,e,kl,kb,Prod.mk.injEq] at h
   omega
 ind a p r h:=by
  have h:(if 0<M.cN.length then(M.tys[a.toNat]?).map fun z=>(z.p.toNat,z.r.toNat) else none)=some (p,r):=h
  split at h
  · cases e:M.tys[a.toNat]? with
    |none=>rw[e] at h;cases h
    |some z=>
     have k:=kT hmay (mf e)
     rw[e] at h
     simp only[kl,kb,Prod.mk.injEq] at h
     omega
  · cases h
theorem ab9 {M:Mo} (hM:M.fit) (hmay:M.Il) {y:Ty} (hy:y∈M.tys) {lo:Int} (h0:0≤lo∧lo≤50000):Gn ⟨lxM M,y.p,y.r,y.p+lo,[]⟩ (vM M y lo) where
 v:=Zs hM hmay hy h0
 ty a ha:=by
  have t:=Ik M hM a ha
  have hv:(vM M y lo).ty (a:Int)=(xw M a).map fun z=>(z.p.toNat,z.r.toNat):=by
   show(xw M (a:Int).toNat).map _=_
   rw[aeL]
  rw[hv]
  cases e:xw M a with
  |none=>
   rw[e] at t
   exact t
  |some z=>
   rw[e] at t
   have k:=kT hmay (Cd e)
   have e1:((z.p.toNat:Nat):Int)=z.p:=by omega
   have e2:((z.r.toNat:Nat):Int)=z.r:=by omega
   show z.p.toNat≤1000000000∧_
   refine⟨by omega,?_⟩
   rw[e1,e2]
   exact t
 Yl a p r h:=by
  have h:(if 0<M.cN.length then(M.tys[a.toNat]?).map fun z=>(z.p.toNat,z.r.toNat) else none)=some (p,r):=h
  split at h
  · cases e:M.tys[a.toNat]? with
    |none=>rw[e] at h;cases h
    |some z=>
     have k:=kT hmay (mf e)
     rw[e] at h
     simp only[kl,kb,Prod.mk.injEq] at h
     omega
  · cases h
 lab k hk:=by cases hk
 len:=Nat.zero_le _
theorem I7 (M:Mo) {n:Nat} (hn:n<M.fns.length) (h0:0≤M.fns[n].ty):xw M (M.aP.length+n)=M.tys[M.fns[n].ty.toNat]? :=by
 have t:XC M (M.aP.length+n)=M.fns[n].ty:=by
  unfold XC
  rw[dT (by omega:M.aP.length≤M.aP.length+n),Nat.add_sub_cancel_left,df hn]
 unfold xw
 rw[t,if_pos h0]
theorem I8 (M:Mo) (hM:M.fit) (hw:M.wf) (hmay:M.Il) {n:Nat} (hn:n<M.fns.length) (ht:xq M M.fns[n].ty=0):an aeB env 42 [.agg (M.aH.map .p),sI .i64 n] [] (.aD [sI .i64 (lookW M n).1,sI .i64 ((lookW M n).2:Nat)]) []:=by
 have h2:=hM.fns
 have hx:M.fns[n]? = some M.fns[n]:=df hn
 have hmem:=eQ hn
 have c:=aQ (z:=3) (enc:=aM) (fun _=>rfl) hx
 have h0:=Gt hmay hmem
 have hlt:M.fns[n].ty<(M.tys.length:Int):=by
  unfold xq at ht
  by_cases q:decide (M.fns[n].ty<(M.tys.length:Int))=true
  · exact of_decide_eq_true q
  · rw[if_neg q] at ht;cases ht
 have hT:M.fns[n].ty.toNat<M.tys.length:=by omega
 have e:=I7 M hn h0
 rw[df hT] at e
 have hy:=eQ hT
 have cy:=aQ (z:=2) (enc:=bB) (fun _=>rfl) (df hT)
 have k:=kT hmay hy
 have kf:=UC hmay hmem
 unfold lookW
 rw[hx]
 dsimp only
 rw[e]
 exact Ll (J:=⟨lxM M,M.tys[M.fns[n].ty.toNat].p,M.tys[M.fns[n].ty.toNat].r,M.tys[M.fns[n].ty.toNat].p+M.fns[n].lo,[]⟩) (V:=vM M M.tys[M.fns[n].ty.toNat] M.fns[n].lo) (ab9 hM hmay hy kf) (aeh hmay hy _) rfl (n:=n) (T:=M.fns[n].ty) (lo:=M.fns[n].lo) (P:=0) (l:=M.fns[n].l)
  hn (by show M.fns.length≤1000000000;omega) (c 0 (by decide)) (c 1 (by decide)) (c 2 (by decide)) ⟨h0,hlt⟩ (cy 0 (by decide)) (cy 1 (by decide)) ⟨k.1,by show M.tys[M.fns[n].ty.toNat].p≤1000000;omega⟩ ⟨by omega,by omega⟩ rfl (MI hmay (Ux hmem) (hw.fns.2 _ hmem).2.2.2)
theorem Lo (M:Mo) (hM:M.fit) (hw:M.wf) (hs:M.rY) (hmay:M.Il) (hty : ∀x∈M.fns,xq M x.ty=0):an aeB env 47 [.agg (M.aH.map .p)] [] (wV (om (bO M 10) (om (bO M 11) (0,0,0,0)))) []:=by
 refine aa aI (YC M) ?_
 have hl:=hM.fns
 have PA:=hM.bw
 have big:(100000000000:Nat)≤jA:=by decide
 have core : ∀i (hi:i<M.fns.length) o,(if(lookW M i).1≠0 then o = .ret (wV ((lookW M i).1,10,i,((lookW M i).2:Nat))) [] else bp aeB env (ah aeB env 47 0 [.mp 0 0,.mp 1 0,sI .i64 (i+1:Nat)] [.pc M.aH,.pc [sP 0,sP 0,sP 0,sP 0]] 0 57) o) →
   bp aeB env (ah aeB env 47 0 [.mp 0 0,.mp 1 0,sI .i64 (i:Nat)] [.pc M.aH,.pc [sP 0,sP 0,sP 0,sP 0]] 0 57) o:=by
  intro i hi o ho
  have hd:=kj (i:=i) (n:=M.fns.length) (by omega)
  have w:=fk i (by omega)
  have ht:=I8 M hM hw hmay hi (hty _ (eQ hi))
  refine af aI (I4 M i 0 (lookW M i).1 ((lookW M i).2:Nat)) ?_
  simp only[cU,gU,eg,oy,aG.ok,hd,w]
  refine⟨fun _=>⟨ht,fun q=> ?_,fun q=> ?_⟩,fun q=>by cases q⟩
  · rw[if_pos (by simpa using q)] at ho
    exact ho.symm
  · rw[if_neg (by simpa using q)] at ho
    exact ho
 have Zw : ∀i (hi:i<M.bw.length) o,(if(if M.cL.length=0 then(6:Int) else Cs M.bw[i].l)≠0 then o = .ret (wV (if M.cL.length=0 then 6 else Cs M.bw[i].l,11,i,0)) [] else bp aeB env (ah aeB env 47 3 [.mp 0 0,.mp 1 0,sI .i64 (i+1:Nat)] [.pc M.aH,.pc [sP 0,sP 0,sP 0,sP 0]] 0 57) o) →
   bp aeB env (ah aeB env 47 3 [.mp 0 0,.mp 1 0,sI .i64 (i:Nat)] [.pc M.aH,.pc [sP 0,sP 0,sP 0,sP 0]] 0 57) o:=by
  intro i hi o ho
  have hx:=df hi
  have hmem:=eQ hi
  have c:=aQ (z:=2) (enc:=bz) (fun _=>rfl) hx
  have c0:(M.bw.flatMap bz).getD (i*2+0) .aU = .ps M.bw[i].l.length 8 (ak M.bw[i].l):=c 0 (by decide)
  have hin:=kg (i:=i) (n:=M.bw.length) (by omega)
  have hd:=kj (i:=i) (n:=M.bw.length) (by omega)
  have w:=fk i (by omega)
  obtain⟨u,ht⟩:=sK M.bw[i].l (ba (hs _ (Uz hmem)) big)
  rw[U7] at ho
  refine af aI (I5 M i u (iD M.bw[i].l) 0) ?_
  simp only[sj,cU,ji,oA,br,aG.ok,aX,aq,aK,aj,aeL,c0,hd,hin,w,aeN,aeO]
  refine⟨fun _=>⟨fun q=> ?_,fun q=>⟨(by first|rfl|trivial),(by first|rfl|trivial),ht,fun q2=> ?_,fun q2=> ?_⟩⟩,fun q=>by cases q⟩
  · have z:M.cL.length=0:=by simpa using q
    rw[if_pos z,if_pos (show(6:Int)≠0 by decide)] at ho
    exact ho.symm
  · have z : ¬M.cL.length=0:=by simpa using q
    rw[if_neg z,if_pos (by simpa using q2)] at ho
    exact ho.symm
  · have z : ¬M.cL.length=0:=by simpa using q
    rw[if_neg z,if_neg (by simpa using q2)] at ho
    exact ho
 refine scan (N:=M.fns.length) (s:=10) (D:=fun i=>ah aeB env 47 0 [.mp 0 0,.mp 1 0,sI .i64 (i:Nat)] [.pc M.aH,.pc [sP 0,sP 0,sP 0,sP 0]] 0 57) (e:=fun i=>(lookW M i).1) (a:=fun i=>((lookW M i).2:Nat))
  (fun i hi hz h=>core i hi _ (by rw[if_pos h])) (fun i hi hz h o ho=>core i hi _ (by rw[if_neg (fun q=>q h)];exact ho)) (fun _=> ?_) M.fns.length 0 (by omega) (fun j hj=>by omega)
 have hd:=lP M.fns.length
 refine af aI (I4 M M.fns.length 0 0 0) ?_
 simp only[cU,gU,eg,oy,aG.ok,hd]
 refine⟨nofun,fun _=> ?_⟩
 refine scan (N:=M.bw.length) (s:=11) (D:=fun i=>ah aeB env 47 3 [.mp 0 0,.mp 1 0,sI .i64 (i:Nat)] [.pc M.aH,.pc [sP 0,sP 0,sP 0,sP 0]] 0 57) (e:=fun i=>(M.bw[i]?).elim 0 fun x=>if M.cL.length=0 then 6 else Cs x.l) (a:=fun _=>0)
  (fun i hi hz h=> ?_) (fun i hi hz h o ho=> ?_) (fun _=> ?_) M.bw.length 0 (by omega) (fun j hj=>by omega)
 · have h':(if M.cL.length=0 then(6:Int) else Cs M.bw[i].l)≠0:=by simpa only[gD hi] using h
   refine Zw i hi _ ?_
   rw[if_pos h']
   simp only[gD hi]
 · have h':(if M.cL.length=0 then(6:Int) else Cs M.bw[i].l)=0:=by simpa only[gD hi] using h
   refine Zw i hi _ ?_
   rw[if_neg (fun q=>q h')]
   exact ho
 · have hd:=lP M.bw.length
   refine af aI (I5 M M.bw.length 0 0 0) ?_
   simp only[sj,cU,ji,oA,br,aG.ok,hd]
   exact⟨(fun q=>by cases q),fun _=>(by first|rfl|trivial)⟩
theorem YF (M:Mo) (h:eB M=0):qG M (bO M)=om (bO M 2) (om (bO M 3) (om (bO M 6) (om (bO M 7) (om (bO M 8) (om (bO M 9) (om (bO M 10) (om (bO M 11) (0,0,0,0)))))))):=by
 unfold qG
 rw[if_neg (fun q=>q h)]
 rfl
theorem or_zero {A B:Wr}:(om A B).1=0↔A.1=0∧B.1=0:=by
 unfold om
 by_cases h:A.1≠0
 · rw[if_pos h];exact⟨fun q=>absurd q h,fun q=>absurd q.1 h⟩
 · rw[if_neg h];exact⟨fun q=>⟨Decidable.not_not.1 h,q⟩,fun q=>q.2⟩
theorem tE {A B:Wr} (h:A.1≠0):om A B=A:=if_pos h
theorem nH {A B:Wr} (h:A.1=0):om A B=B:=if_neg fun q=>q h
theorem or_assoc {A B C:Wr}:om (om A B) C=om A (om B C):=by
 by_cases h:A.1=0
 · rw[nH h,nH h]
 · rw[tE h,tE h,tE h]
theorem I9 (M:Mo) (hM:M.fit) (hw:M.wf) (hs:M.rY) (hel : ∀x∈M.els,x.fs.length≤1000000000) (hc:an aeB env 13 [.agg (M.aH.map .p)] [] (sI .i64 (eB M)) []) :
  an aeB env 21 [.agg (M.aH.map .p)] [] (wV (qG M (bO M))) []:=by
 by_cases z:eB M=0
 · have hmay:=(Ak M).1 z
   have h1:=Ln M hM hs hmay
   have h2:=C3 M hM hw hmay
   have h3:=I6 M hM hw hs hel
   rw[YF M z]
   generalize e1:om (bO M 2) (om (bO M 3) (om (bO M 6) (0,0,0,0)))=A at h1
   generalize e2:om (bO M 7) (bO M 8)=B at h2
   generalize e3:om (bO M 9) (0,0,0,0)=C at h3
   have eW:om (bO M 2) (om (bO M 3) (om (bO M 6) (om (bO M 7) (om (bO M 8) (om (bO M 9) (om (bO M 10) (om (bO M 11) (0,0,0,0))))))))=om A (om B (om C (om (bO M 10) (om (bO M 11) (0,0,0,0))))):=by
    rw[←e1,←e2,←e3,or_assoc,or_assoc,or_assoc,or_assoc,or_assoc]
    have k : ∀X:Wr,om (0,0,0,0) X=X:=fun X=>nH rfl
    rw[k,k]
   rw[eW]
   by_cases a:A.1=0
   · have hty : ∀x∈M.fns,xq M x.ty=0:=by
      rw[←e1] at a
      exact abu.1 (Io.1 (show(bO M 3).1=0 from(or_zero.1 (or_zero.1 a).2).1))
     have h4:=Lo M hM hw hs hmay hty
     generalize om (bO M 10) (om (bO M 11) (0,0,0,0))=D at h4 ⊢
     rw[nH a]
     refine aa aI (Gs M (eB M) A.1 A.2.1 A.2.2.1 A.2.2.2 B.1 B.2.1 B.2.2.1 B.2.2.2 C.1 C.2.1 C.2.2.1 C.2.2.2 D.1 D.2.1 D.2.2.1 D.2.2.2) ?_
     simp only[dV,bQ,aG.ok]
     refine⟨hc,(fun q=>absurd z (by simpa using q)),fun _=>⟨h1,fun _=>⟨h2,fun b=>⟨h3,fun c=>⟨h4,?_⟩,fun c=> ?_⟩,fun b=>⟨?_,?_⟩⟩,fun q=>absurd a (by simpa using q)⟩⟩
     · rw[nH (by simpa using b),nH (by simpa using c)];first|rfl|trivial
     · rw[nH (by simpa using b),tE (by simpa using c)];first|rfl|trivial
     · rw[b];rfl
     · rw[tE (by simpa using b)];first|rfl|trivial
   · refine aa aI (Gs M (eB M) A.1 A.2.1 A.2.2.1 A.2.2.2 B.1 B.2.1 B.2.2.1 B.2.2.2 C.1 C.2.1 C.2.2.1 C.2.2.2 0 0 0 0) ?_
     rw[tE a]
     have a':(A.1==0)=false:=by simpa using a
     simp only[dV,bQ,aG.ok,a']
     exact⟨hc,(fun q=>absurd z (by simpa using q)),fun _=>⟨h1,(fun q=>by cases q),fun _=>⟨(by first|rfl|trivial),(by first|rfl|trivial),(by first|rfl|trivial)⟩⟩⟩
 · have e:qG M (bO M)=(eB M,0,0,0):=if_pos z
   rw[e]
   refine aa aI (Gs M (eB M) 0 0 0 0 0 0 0 0 0 0 0 0 0 0 0 0) ?_
   simp only[dV,bQ,aG.ok]
   exact⟨hc,fun _=>(by first|rfl|trivial),fun q=>absurd (by simpa using q) z⟩
def zU (M:Mo) (n:Int):Int×Nat:=if eB M≠0 then(eB M,0) else if 0≤n∧n<(M.fns.length:Int) then lookW M n.toNat else(6,0)
theorem Ja (M:Mo) {n:Int} (h : ¬(0≤n∧n<(M.fns.length:Int))):an aeB env 40 [.agg (M.aH.map .p),sI .i64 n] [] (.aD [sI .i64 6,sI .i64 0]) []:=by
 refine aa aI (U5 M n) ?_
 simp only[aG.ok]
 refine⟨fun _=>(by first|rfl|trivial),fun q=>⟨fun _=>(by first|rfl|trivial),fun q2=>absurd ?_ h⟩⟩
 have q : ¬n<0:=by simpa using q
 have q2 : ¬(M.fns.length:Int)≤n:=by simpa using q2
 omega
theorem Lp (M:Mo) (hM:M.fit) (hw:M.wf) (hs:M.rY) (n:Int):an aeB env 18 [.agg (M.aH.map .p),sI .i64 n] [] (.aD [sI .i64 (zU M n).1,sI .i64 ((zU M n).2:Nat)]) []:=by
 have hc:=zB M hM hw hs
 refine aa aI (YD M n (eB M) (zU M n).1 ((zU M n).2:Nat) false) ?_
 simp only[bQ,eg,aG.ok]
 refine⟨hc,fun q=> ?_,fun q=> ?_⟩
 · rw[show zU M n=(eB M,0) from if_pos (by simpa using q)];first|rfl|trivial
 · have z:eB M=0:=by simpa using q
   have e:zU M n=if 0≤n∧n<(M.fns.length:Int) then lookW M n.toNat else(6,0):=if_neg fun q=>q z
   rw[e]
   by_cases h:0≤n∧n<(M.fns.length:Int)
   · rw[if_pos h]
     have k:=MJ M hM hw ((Ak M).1 z) (n:=n.toNat) (by omega)
     rw[ag5 h.1] at k
     first|exact⟨k,rfl⟩|exact⟨k,trivial⟩
   · rw[if_neg h]
     first|exact⟨Ja M h,rfl⟩|exact⟨Ja M h,trivial⟩
theorem Lq (M:Mo) (hM:M.fit) (hw:M.wf) (hc:an aeB env 13 [.agg (M.aH.map .p)] [] (sI .i64 (eB M)) []) (n:Int):an aeB env 19 [.agg (M.aH.map .p),sI .i64 n] [] (.aD [sI .i64 (zU M n).1,sI .i64 ((zU M n).2:Nat)]) []:=by
 have e0:eB M≠0→zU M n=(eB M,0):=fun q=>if_pos q
 have e1:eB M=0→zU M n=if 0≤n∧n<(M.fns.length:Int) then lookW M n.toNat else(6,0):=fun q=>if_neg fun p=>p q
 by_cases h0:n<0
 · refine an.eN (rows:=[(19,14,sB true),(19,21,sB true)]) ?_
   refine aa aI (U3 M n (eB M) 0 0 false) ?_
   have g:decide (n<0)=true:=decide_eq_true h0
   simp only[bQ,aG.ok,g]
   refine⟨an.cW hc,fun q=>⟨(by first|rfl|trivial),?_⟩,fun q=>⟨rfl,?_⟩⟩
   · rw[e0 (by simpa using q)];first|rfl|trivial
   · rw[e1 (by simpa using q),if_neg (by omega)];first|rfl|trivial
 by_cases h1:(M.fns.length:Int)≤n
 · refine an.eN (rows:=[(19,14,sB false),(19,21,sB true)]) ?_
   refine aa aI (U4 M n (eB M) 0 0 false) ?_
   have g:decide (n<0)=false:=decide_eq_false h0
   have g1:decide (n≥(M.fns.length:Int))=true:=decide_eq_true h1
   simp only[bQ,aG.ok,g,g1]
   refine⟨an.cW hc,fun q=>⟨(by first|rfl|trivial),?_⟩,fun q=>⟨rfl,?_⟩⟩
   · rw[e0 (by simpa using q)];first|rfl|trivial
   · rw[e1 (by simpa using q),if_neg (by omega)];first|rfl|trivial
 · obtain⟨k,rfl⟩:=agA (by omega:0≤n)
   have hk:k<M.fns.length:=by omega
   have hx:M.fns[k]? = some M.fns[k]:=df hk
   have hmem:=eQ hk
   have c:=aQ (z:=3) (enc:=aM) (fun _=>rfl) hx
   have c0:(M.fns.flatMap aM).getD (k*3+0) .aU = .sc (.int .i64 M.fns[k].ty):=c 0 (by decide)
   have hin:=kg (i:=k) (n:=M.fns.length) (by omega)
   have g1:decide ((k:Int)≥(M.fns.length:Int))=false:=decide_eq_false h1
   refine an.eN (rows:=[(19,14,sB false),(19,21,sB false)]) ?_
   by_cases z:eB M=0
   · have hmay:=(Ak M).1 z
     have h0':=Gt hmay hmem
     have ht:=Cg M M.fns[k].ty h0'
     rw[e1 z,if_pos (by omega),aeL]
     refine aa aI (I1 M k (eB M) (lookW M k).1 ((lookW M k).2:Nat) (decide (M.fns[k].ty<(M.tys.length:Int)))) ?_
     simp only[bQ,eg,oy,br,aG.ok,g1,hin,aeL,c0,isInt,au,aeN,aeO]
     refine⟨an.cW hc,(fun q=>absurd z (by simpa using q)),fun _=>⟨an.cW ht,(by first|rfl|decide|trivial),fun q=> ?_,fun q=>⟨an.cW (I8 M hM hw hmay hk (if_pos (by simpa using q))),(by first|rfl|trivial)⟩⟩⟩
     have hno:xw M (M.aP.length+k)=none:=by
      rw[I7 M hk h0']
      have q : ¬M.fns[k].ty<(M.tys.length:Int):=by simpa using q
      exact dT (by omega)
     have hl:lookW M k=(6,0):=by
      unfold lookW
      rw[hx]
      dsimp only
      rw[hno]
     rw[hl];first|rfl|trivial
   · rw[e0 z]
     refine aa aI (I1 M k (eB M) 0 0 false) ?_
     simp only[bQ,eg,oy,br,aG.ok]
     exact⟨an.cW hc,fun _=>⟨(by first|rfl|trivial),(by first|rfl|trivial)⟩,fun q=>absurd (by simpa using q) z⟩
def nI:Env where
 cX:=zh tabs
 wr:=wrs
 keep _ _:=none
def OW:ct:=⟨182,[.p (.sc (.string ⟨#[101,113,122,32,101,113,32,110,101,32,108,116,95,115,32,108,116,95,117,32,103,116,95,115,32,103,116,95,117,32,108,101,95,115,32,108,101,95,117,32,103,101,95,115,32,103,101,95,117]⟩))],[],.p (.ps 11 1 [.sc (.string ⟨#[101,113,122]⟩),.sc (.string ⟨#[101,113]⟩),.sc (.string ⟨#[110,101]⟩),.sc (.string ⟨#[108,116,95,115]⟩),.sc (.string ⟨#[108,116,95,117]⟩),.sc (.string ⟨#[103,116,95,115]⟩),.sc (.string ⟨#[103,116,95,117]⟩),.sc (.string ⟨#[108,101,95,115]⟩),.sc (.string ⟨#[108,101,95,117]⟩),.sc (.string ⟨#[103,101,95,115]⟩),.sc (.string ⟨#[103,101,95,117]⟩)]),[]⟩
theorem agJ:an aeB nI OW.g OW.args OW.m OW.v OW.m':=cj aI (K:=[]) fZ (n:=10000000) (by kernel_rfl)
def acd:List ct:=OW::[]
theorem Ve:eS aeB nI acd:=dH agJ fZ
def OX:ct:=⟨182,[.p (.sc (.string ⟨#[99,108,122,32,99,116,122,32,112,111,112,99,110,116,32,97,100,100,32,115,117,98,32,109,117,108,32,100,105,118,95,115,32,100,105,118,95,117,32,114,101,109,95,115,32,114,101,109,95,117,32,97,110,100,32,111,114,32,120,111,114,32,115,104,108,32,115,104,114,95,115,32,115,104,114,95,117,32,114,111,116,108,32,114,111,116,114]⟩))],[],.p (.ps 18 1 [.sc (.string ⟨#[99,108,122]⟩),.sc (.string ⟨#[99,116,122]⟩),.sc (.string ⟨#[112,111,112,99,110,116]⟩),.sc (.string ⟨#[97,100,100]⟩),.sc (.string ⟨#[115,117,98]⟩),.sc (.string ⟨#[109,117,108]⟩),.sc (.string ⟨#[100,105,118,95,115]⟩),.sc (.string ⟨#[100,105,118,95,117]⟩),.sc (.string ⟨#[114,101,109,95,115]⟩),.sc (.string ⟨#[114,101,109,95,117]⟩),.sc (.string ⟨#[97,110,100]⟩),.sc (.string ⟨#[111,114]⟩),.sc (.string ⟨#[120,111,114]⟩),.sc (.string ⟨#[115,104,108]⟩),.sc (.string ⟨#[115,104,114,95,115]⟩),.sc (.string ⟨#[115,104,114,95,117]⟩),.sc (.string ⟨#[114,111,116,108]⟩),.sc (.string ⟨#[114,111,116,114]⟩)]),[]⟩
theorem agK:an aeB nI OX.g OX.args OX.m OX.v OX.m':=cj aI (K:=acd) Ve (n:=10000000) (by kernel_rfl)
def ace:List ct:=OX::acd
theorem Vf:eS aeB nI ace:=dH agK Ve
def OY:ct:=⟨106,[.p (.ps 1 8 [.sc (.int .i64 32),.sc (.int .i64 0),.sc (.int .u32 0),.sc (.int .u32 0),.sc (.int .i32 0),.ps 0 0 [],.ps 0 0 [],.ps 0 0 []])],[],.p (.sc (.int .i64 0)),[]⟩
theorem agL:an aeB nI OY.g OY.args OY.m OY.v OY.m':=cj aI (K:=ace) Vf (n:=10000000) (by kernel_rfl)
def acf:List ct:=OY::ace
theorem Vg:eS aeB nI acf:=dH agL Vf
def OZ:ct:=⟨12,[.agg [.os none 1 2 [.sc (.int .i64 1),.sc (.int .i64 1)],.os none 0 0 [],.os none 1 3 [.sc (.int .i64 0),.sc (.int .i64 0),.ps 1 8 [.sc (.int .i64 32),.sc (.int .i64 0),.sc (.int .u32 0),.sc (.int .u32 0),.sc (.int .i32 0),.ps 0 0 [],.ps 0 0 [],.ps 0 0 []]],.os none 0 0 [],.os none 0 0 [],.os none 0 0 [],.os none 0 0 [],.p (.sc (.bool false)),.p (.sc (.int .u32 0)),.os none 0 0 [],.os none 0 0 []]],[],.p (.sc (.int .i64 0)),[]⟩
theorem agM:an aeB nI OZ.g OZ.args OZ.m OZ.v OZ.m':=cj aI (K:=acf) Vg (n:=10000000) (by kernel_rfl)
def acg:List ct:=OZ::acf
theorem Vh:eS aeB nI acg:=dH agM Vg
def O0:ct:=⟨40,[.agg [.os none 1 2 [.sc (.int .i64 1),.sc (.int .i64 1)],.os none 0 0 [],.os none 1 3 [.sc (.int .i64 0),.sc (.int .i64 0),.ps 1 8 [.sc (.int .i64 32),.sc (.int .i64 0),.sc (.int .u32 0),.sc (.int .u32 0),.sc (.int .i32 0),.ps 0 0 [],.ps 0 0 [],.ps 0 0 []]],.os none 0 0 [],.os none 0 0 [],.os none 0 0 [],.os none 0 0 [],.p (.sc (.bool false)),.p (.sc (.int .u32 0)),.os none 0 0 [],.os none 0 0 []],.p (.sc (.int .i64 0))],[],.aD [.p (.sc (.int .i64 0)),.p (.sc (.int .i64 0))],[]⟩
theorem agN:an aeB nI O0.g O0.args O0.m O0.v O0.m':=cj aI (K:=acg) Vh (n:=10000000) (by kernel_rfl)
def ach:List ct:=O0::acg
theorem Vi:eS aeB nI ach:=dH agN Vh
def O1:ct:=⟨106,[.p (.ps 1 8 [.sc (.int .i64 32),.sc (.int .i64 0),.sc (.int .u32 1),.sc (.int .u32 0),.sc (.int .i32 0),.ps 0 0 [],.ps 0 0 [],.ps 0 0 []])],[],.p (.sc (.int .i64 0)),[]⟩
theorem agO:an aeB nI O1.g O1.args O1.m O1.v O1.m':=cj aI (K:=ach) Vi (n:=10000000) (by kernel_rfl)
def aci:List ct:=O1::ach
theorem Vj:eS aeB nI aci:=dH agO Vi
def O2:ct:=⟨12,[.agg [.os none 1 2 [.sc (.int .i64 1),.sc (.int .i64 1)],.os none 0 0 [],.os none 1 3 [.sc (.int .i64 0),.sc (.int .i64 0),.ps 1 8 [.sc (.int .i64 32),.sc (.int .i64 0),.sc (.int .u32 1),.sc (.int .u32 0),.sc (.int .i32 0),.ps 0 0 [],.ps 0 0 [],.ps 0 0 []]],.os none 0 0 [],.os none 0 0 [],.os none 0 0 [],.os none 0 0 [],.p (.sc (.bool false)),.p (.sc (.int .u32 0)),.os none 0 0 [],.os none 0 0 []]],[],.p (.sc (.int .i64 0)),[]⟩
theorem agP:an aeB nI O2.g O2.args O2.m O2.v O2.m':=cj aI (K:=aci) Vj (n:=10000000) (by kernel_rfl)
def acj:List ct:=O2::aci
theorem Vk:eS aeB nI acj:=dH agP Vj
def O3:ct:=⟨12,[.agg [.os none 1 2 [.sc (.int .i64 1),.sc (.int .i64 1)],.os none 0 0 [],.os none 1 3 [.sc (.int .i64 0),.sc (.int .i64 0),.ps 0 0 []],.os none 0 0 [],.os none 0 0 [],.os none 0 0 [],.os none 0 0 [],.p (.sc (.bool false)),.p (.sc (.int .u32 0)),.os none 0 0 [],.os none 0 0 []]],[],.p (.sc (.int .i64 0)),[]⟩
theorem agQ:an aeB nI O3.g O3.args O3.m O3.v O3.m':=cj aI (K:=acj) Vk (n:=10000000) (by kernel_rfl)
def ack:List ct:=O3::acj
theorem Vl:eS aeB nI ack:=dH agQ Vk
def O4:ct:=⟨106,[.p (.ps 1 8 [.sc (.int .i64 65),.sc (.int .i64 0),.sc (.int .u32 0),.sc (.int .u32 0),.sc (.int .i32 0),.ps 0 0 [],.ps 0 0 [],.ps 0 0 []])],[],.p (.sc (.int .i64 0)),[]⟩
theorem agR:an aeB nI O4.g O4.args O4.m O4.v O4.m':=cj aI (K:=ack) Vl (n:=10000000) (by kernel_rfl)
def acm:List ct:=O4::ack
theorem Vm:eS aeB nI acm:=dH agR Vl
def O5:ct:=⟨29,[.agg [.os none 2 2 [.sc (.int .i64 1),.sc (.int .i64 1),.sc (.int .i64 0),.sc (.int .i64 0)],.os none 1 3 [.sc (.string ⟨#[104,111,115,116]⟩),.sc (.string ⟨#[102]⟩),.sc (.int .i64 0)],.os none 1 3 [.sc (.int .i64 1),.sc (.int .i64 0),.ps 0 0 []],.os none 1 3 [.sc (.int .u32 1),.sc (.int .u32 0),.sc (.bool false)],.os none 1 3 [.sc (.int .u32 1),.sc (.int .u32 0),.sc (.bool false)],.os none 2 2 [.sc (.bool true),.ps 1 8 [.sc (.int .i64 65),.sc (.int .i64 0),.sc (.int .u32 0),.sc (.int .u32 0),.sc (.int .i32 0),.ps 0 0 [],.ps 0 0 [],.ps 0 0 []],.sc (.bool false),.ps 1 8 [.sc (.int .i64 65),.sc (.int .i64 0),.sc (.int .u32 0),.sc (.int .u32 0),.sc (.int .i32 0),.ps 0 0 [],.ps 0 0 [],.ps 0 0 []]],.os none 0 0 [],.p (.sc (.bool false)),.p (.sc (.int .u32 0)),.os none 0 0 [],.os none 0 0 []]],[],.p (.sc (.int .i64 0)),[]⟩
theorem agS:an aeB nI O5.g O5.args O5.m O5.v O5.m':=cj aI (K:=acm) Vm (n:=10000000) (by kernel_rfl)
def Vn:List ct:=O5::acm
theorem ML:eS aeB nI Vn:=dH agS Vm
def EU:ct:=⟨20,[.agg [.os none 2 2 [.sc (.int .i64 1),.sc (.int .i64 1),.sc (.int .i64 0),.sc (.int .i64 0)],.os none 1 3 [.sc (.string ⟨#[104,111,115,116]⟩),.sc (.string ⟨#[102]⟩),.sc (.int .i64 0)],.os none 1 3 [.sc (.int .i64 1),.sc (.int .i64 0),.ps 0 0 []],.os none 1 3 [.sc (.int .u32 1),.sc (.int .u32 0),.sc (.bool false)],.os none 1 3 [.sc (.int .u32 1),.sc (.int .u32 0),.sc (.bool false)],.os none 2 2 [.sc (.bool true),.ps 1 8 [.sc (.int .i64 65),.sc (.int .i64 0),.sc (.int .u32 0),.sc (.int .u32 0),.sc (.int .i32 0),.ps 0 0 [],.ps 0 0 [],.ps 0 0 []],.sc (.bool false),.ps 1 8 [.sc (.int .i64 65),.sc (.int .i64 0),.sc (.int .u32 0),.sc (.int .u32 0),.sc (.int .i32 0),.ps 0 0 [],.ps 0 0 [],.ps 0 0 []]],.os none 0 0 [],.p (.sc (.bool false)),.p (.sc (.int .u32 0)),.os none 0 0 [],.os none 0 0 []]],[],.agg [.p (.sc (.int .i64 0)),.p (.sc (.int .i64 0)),.p (.sc (.int .i64 0)),.p (.sc (.int .i64 0))],[]⟩
theorem aei:an aeB nI EU.g EU.args EU.m EU.v EU.m':=cj aI (K:=Vn) ML (n:=10000000) (by kernel_rfl)
def Zx:List ct:=EU::Vn
theorem YG:eS aeB nI Zx:=dH aei ML
theorem acn:an aeB nI 22 [] [] (.p (.sc (.bool true))) []:=cj aI (K:=Zx) YG (n:=10000000) (by kernel_rfl)
theorem Vo {g:Gh} {w:World} : ∀(l l':List AV) (vs:List Value),bN PB l l'→dz g w l vs→dz (g.pack []) w l' vs:=by
 intro l
 induction l with
 |nil=>intro l' vs h1 h2;cases l'<;>cases vs<;>first|trivial|exact h1.elim|exact h2.elim
 |cons a l ih=>
  intro l' vs h1 h2
  cases l' with
  |nil=>exact h1.elim
  |cons b l'=>cases vs with
   |nil=>exact h2.elim
   |cons x vs=>exact⟨h1.1 g w x h2.1,ih l' vs h1.2 h2.2⟩
theorem PB.agg {l l':List AV} (h:bN PB l l'):PB (.agg l) (.agg l'):=fun g w v hv=>by
 cases hv with
 |agg _ cs hn hc=>exact VA.zL.2 (Vo _ _ _ h (bN.dY hn hc))
theorem O6 {M:Mo} (h:oz M=false) : ∀x∈M.els,x.fs.length≤1000000000:=by
 unfold oz at h
 split at h
 · cases h
 rename_i q
 have h : ¬H9 M>5000:=by simpa using h
 have q:lens M≤5000:=by omega
 intro x hx
 have h1:1≤M.els.length:=List.length_pos_of_mem hx
 have hl:(M.els.length:Int)≤lens M:=by unfold lens;omega
 have r1:=bY BU M.fns (lens M)
 have r2:=bY BV M.gls (bS qj (lens M) M.fns)
 have c:=lz BW M.els (bS ur (bS qj (lens M) M.fns) M.gls) x hx
 have r4:=bY BX M.bw (bS zC (bS ur (bS qj (lens M) M.fns) M.gls) M.els)
 have r5:=bY H8 M.aP (bS Gx (bS zC (bS ur (bS qj (lens M) M.fns) M.gls) M.els) M.bw)
 have r6:=bY Mx M.exs (bS SW (bS Gx (bS zC (bS ur (bS qj (lens M) M.fns) M.gls) M.els) M.bw) M.aP)
 unfold H9 at h
 have e:zC x=dA x.l 5000 0+min (x.fs.length:Int) 5000:=rfl
 have i:=cP x.l 5000 0 (by decide) (by decide) (by decide)
 omega
end Go.Proofs.YtdmmllcjgjmbbaaGreatDoor.N
end
