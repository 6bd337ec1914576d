import Derived.Test.YtncncijedmfpjaaGreatDoorMR
import Derived.Test.YtncncijedmfpjaaGreatDoorMO
import Derived.Test.YtncncijedmfpjaaGreatDoorMM
open Go.Proofs.Tryz renaming prog→ae
open List renaming cons_append→aaq,nil_append→Ps,append_assoc→vt,length_append→dT,length_map→ov,length_nil→acA,length_cons→od,length_eq_zero_iff→pa,map_cons→uv,flatMap_cons→ac2,mem_map→fi,length_pos_of_mem→ady,eq_nil_of_length_eq_zero→H4,map_append→acx,append_inj→adz,range'_succ→adA,append_cancel_left→adB,take_of_length_le→eh,map_nil→vb,append_nil→Lk,drop_zero→acw,map_take→adC,mem_cons→Hk,length→pb,range'→xb,take→acD,map→acC
open Bool renaming and_eq_true→dp,false_eq_true→pn,and_true→ac7,true_and→ade
open Nat renaming le_refl→dd,zero_add→pD,le_trans→cp,mul_one→ac8,ble_eq→acO,beq_eq→fw
open True renaming intro→ads
open List.cons renaming injEq→adD
noncomputable section
section
set_option linter.unusedSimpArgs false
set_option linter.unusedVariables false
namespace Go.Proofs.YtncncijedmfpjaaGreatDoor.N
open Go Go.Am
theorem Ja {M:Mo} (h:M.cj) (h0:(sec M 1).length=0):au ae bF 18 [.agg (mV M),sI .i64 ((1:Nat):Int)] [] (.os none 0 0 []) []:=by
 refine aa aI (fI M 1 34 0 []) ?_
 unfold gk
 exact⟨by kernel_rfl,by kernel_rfl,by kernel_rfl,(DP h).1 h0,rfl⟩
theorem Jb {M:Mo} (h:M.cj) (h0:(sec M 1).length≠0):au ae bF 18 [.agg (mV M),sI .i64 ((1:Nat):Int)] [] (.ms 0 0 (sec M 1).length 1 none) [gB (sec M 1)]:=by
 refine aa aI (fJ M 1 34 (sec M 1).length (bt (sec M 1))) ?_
 unfold gm
 simp only[aX]
 exact⟨by kernel_rfl,by kernel_rfl,by kernel_rfl,(DP h).2 h0,rfl⟩
theorem Jc {M:Mo} (h:M.cj) (h0:(sec M 2).length=0):au ae bF 18 [.agg (mV M),sI .i64 ((2:Nat):Int)] [] (.os none 0 0 []) []:=by
 refine aa aI (fI M 2 35 0 []) ?_
 unfold gk
 exact⟨by kernel_rfl,by kernel_rfl,by kernel_rfl,(DQ h).1 h0,rfl⟩
theorem Jd {M:Mo} (h:M.cj) (h0:(sec M 2).length≠0):au ae bF 18 [.agg (mV M),sI .i64 ((2:Nat):Int)] [] (.ms 0 0 (sec M 2).length 1 none) [gB (sec M 2)]:=by
 refine aa aI (fJ M 2 35 (sec M 2).length (bt (sec M 2))) ?_
 unfold gm
 simp only[aX]
 exact⟨by kernel_rfl,by kernel_rfl,by kernel_rfl,(DQ h).2 h0,rfl⟩
theorem Je {M:Mo} (h:M.cj) (h0:(sec M 3).length=0):au ae bF 18 [.agg (mV M),sI .i64 ((3:Nat):Int)] [] (.os none 0 0 []) []:=by
 refine aa aI (fI M 3 36 0 []) ?_
 unfold gk
 exact⟨by kernel_rfl,by kernel_rfl,by kernel_rfl,(DR h).1 h0,rfl⟩
theorem Jf {M:Mo} (h:M.cj) (h0:(sec M 3).length≠0):au ae bF 18 [.agg (mV M),sI .i64 ((3:Nat):Int)] [] (.ms 0 0 (sec M 3).length 1 none) [gB (sec M 3)]:=by
 refine aa aI (fJ M 3 36 (sec M 3).length (bt (sec M 3))) ?_
 unfold gm
 simp only[aX]
 exact⟨by kernel_rfl,by kernel_rfl,by kernel_rfl,(DR h).2 h0,rfl⟩
theorem Jg {M:Mo} (h:M.cj) (h0:(sec M 4).length=0):au ae bF 18 [.agg (mV M),sI .i64 ((4:Nat):Int)] [] (.os none 0 0 []) []:=by
 refine aa aI (fI M 4 37 0 []) ?_
 unfold gk
 exact⟨by kernel_rfl,by kernel_rfl,by kernel_rfl,(DS h).1 h0,rfl⟩
theorem Jh {M:Mo} (h:M.cj) (h0:(sec M 4).length≠0):au ae bF 18 [.agg (mV M),sI .i64 ((4:Nat):Int)] [] (.ms 0 0 (sec M 4).length 1 none) [gB (sec M 4)]:=by
 refine aa aI (fJ M 4 37 (sec M 4).length (bt (sec M 4))) ?_
 unfold gm
 simp only[aX]
 exact⟨by kernel_rfl,by kernel_rfl,by kernel_rfl,(DS h).2 h0,rfl⟩
theorem Ji {M:Mo} (h:M.cj) (h0:(sec M 5).length=0):au ae bF 18 [.agg (mV M),sI .i64 ((5:Nat):Int)] [] (.os none 0 0 []) []:=by
 refine aa aI (fI M 5 38 0 []) ?_
 unfold gk
 exact⟨by kernel_rfl,by kernel_rfl,by kernel_rfl,(DT h).1 h0,rfl⟩
theorem Jj {M:Mo} (h:M.cj) (h0:(sec M 5).length≠0):au ae bF 18 [.agg (mV M),sI .i64 ((5:Nat):Int)] [] (.ms 0 0 (sec M 5).length 1 none) [gB (sec M 5)]:=by
 refine aa aI (fJ M 5 38 (sec M 5).length (bt (sec M 5))) ?_
 unfold gm
 simp only[aX]
 exact⟨by kernel_rfl,by kernel_rfl,by kernel_rfl,(DT h).2 h0,rfl⟩
theorem Jk {M:Mo} (h:M.cj) (h0:(sec M 6).length=0):au ae bF 18 [.agg (mV M),sI .i64 ((6:Nat):Int)] [] (.os none 0 0 []) []:=by
 refine aa aI (fI M 6 39 0 []) ?_
 unfold gk
 exact⟨by kernel_rfl,by kernel_rfl,by kernel_rfl,(DU h).1 h0,rfl⟩
theorem Jl {M:Mo} (h:M.cj) (h0:(sec M 6).length≠0):au ae bF 18 [.agg (mV M),sI .i64 ((6:Nat):Int)] [] (.ms 0 0 (sec M 6).length 1 none) [gB (sec M 6)]:=by
 refine aa aI (fJ M 6 39 (sec M 6).length (bt (sec M 6))) ?_
 unfold gm
 simp only[aX]
 exact⟨by kernel_rfl,by kernel_rfl,by kernel_rfl,(DU h).2 h0,rfl⟩
theorem Jm {M:Mo} (h:M.cj) (h0:(sec M 7).length=0):au ae bF 18 [.agg (mV M),sI .i64 ((7:Nat):Int)] [] (.os none 0 0 []) []:=by
 refine aa aI (fI M 7 40 0 []) ?_
 unfold gk
 exact⟨by kernel_rfl,by kernel_rfl,by kernel_rfl,(DV h).1 h0,rfl⟩
theorem Jn {M:Mo} (h:M.cj) (h0:(sec M 7).length≠0):au ae bF 18 [.agg (mV M),sI .i64 ((7:Nat):Int)] [] (.ms 0 0 (sec M 7).length 1 none) [gB (sec M 7)]:=by
 refine aa aI (fJ M 7 40 (sec M 7).length (bt (sec M 7))) ?_
 unfold gm
 simp only[aX]
 exact⟨by kernel_rfl,by kernel_rfl,by kernel_rfl,(DV h).2 h0,rfl⟩
theorem Jo {M:Mo} (h:M.cj) (h0:(sec M 8).length=0):au ae bF 18 [.agg (mV M),sI .i64 ((8:Nat):Int)] [] (.os none 0 0 []) []:=by
 refine aa aI (fI M 8 41 0 []) ?_
 unfold gk
 exact⟨by kernel_rfl,by kernel_rfl,by kernel_rfl,(He h).1 h0,rfl⟩
theorem Jp {M:Mo} (h:M.cj) (h0:(sec M 8).length≠0):au ae bF 18 [.agg (mV M),sI .i64 ((8:Nat):Int)] [] (.ms 0 0 (sec M 8).length 1 none) [gB (sec M 8)]:=by
 refine aa aI (fJ M 8 41 (sec M 8).length (bt (sec M 8))) ?_
 unfold gm
 simp only[aX]
 exact⟨by kernel_rfl,by kernel_rfl,by kernel_rfl,(He h).2 h0,rfl⟩
theorem Jq {M:Mo} (h:M.cj) (h0:(sec M 9).length=0):au ae bF 18 [.agg (mV M),sI .i64 ((9:Nat):Int)] [] (.os none 0 0 []) []:=by
 refine aa aI (fI M 9 42 0 []) ?_
 unfold gk
 exact⟨by kernel_rfl,by kernel_rfl,by kernel_rfl,(DW h).1 h0,rfl⟩
theorem Jr {M:Mo} (h:M.cj) (h0:(sec M 9).length≠0):au ae bF 18 [.agg (mV M),sI .i64 ((9:Nat):Int)] [] (.ms 0 0 (sec M 9).length 1 none) [gB (sec M 9)]:=by
 refine aa aI (fJ M 9 42 (sec M 9).length (bt (sec M 9))) ?_
 unfold gm
 simp only[aX]
 exact⟨by kernel_rfl,by kernel_rfl,by kernel_rfl,(DW h).2 h0,rfl⟩
theorem FE {M:Mo} (h:M.cj) (h0:(sec M 10).length=0):au ae bF 18 [.agg (mV M),sI .i64 ((10:Nat):Int)] [] (.os none 0 0 []) []:=by
 refine aa aI (fI M 10 43 0 []) ?_
 unfold gk
 exact⟨by kernel_rfl,by kernel_rfl,by kernel_rfl,(DX h).1 h0,rfl⟩
theorem FF {M:Mo} (h:M.cj) (h0:(sec M 10).length≠0):au ae bF 18 [.agg (mV M),sI .i64 ((10:Nat):Int)] [] (.ms 0 0 (sec M 10).length 1 none) [gB (sec M 10)]:=by
 refine aa aI (fJ M 10 43 (sec M 10).length (bt (sec M 10))) ?_
 unfold gm
 simp only[aX]
 exact⟨by kernel_rfl,by kernel_rfl,by kernel_rfl,(DX h).2 h0,rfl⟩
theorem FG {M:Mo} (h:M.cj) (h0:(sec M 11).length=0):au ae bF 18 [.agg (mV M),sI .i64 ((11:Nat):Int)] [] (.os none 0 0 []) []:=by
 refine aa aI (fI M 11 44 0 []) ?_
 unfold gk
 exact⟨by kernel_rfl,by kernel_rfl,by kernel_rfl,(DY h).1 h0,rfl⟩
theorem FH {M:Mo} (h:M.cj) (h0:(sec M 11).length≠0):au ae bF 18 [.agg (mV M),sI .i64 ((11:Nat):Int)] [] (.ms 0 0 (sec M 11).length 1 none) [gB (sec M 11)]:=by
 refine aa aI (fJ M 11 44 (sec M 11).length (bt (sec M 11))) ?_
 unfold gm
 simp only[aX]
 exact⟨by kernel_rfl,by kernel_rfl,by kernel_rfl,(DY h).2 h0,rfl⟩
theorem wZ {M:Mo} (h:M.cj) : ∀{d:Nat},1≤d→d≤11→(sec M d).length=0→au ae bF 18 [.agg (mV M),sI .i64 (d:Int)] [] (.os none 0 0 []) []
 |1,_,_,h0=>Ja h h0
 |2,_,_,h0=>Jc h h0
 |3,_,_,h0=>Je h h0
 |4,_,_,h0=>Jg h h0
 |5,_,_,h0=>Ji h h0
 |6,_,_,h0=>Jk h h0
 |7,_,_,h0=>Jm h h0
 |8,_,_,h0=>Jo h h0
 |9,_,_,h0=>Jq h h0
 |10,_,_,h0=>FE h h0
 |11,_,_,h0=>FG h h0
 |0,h1,_,_=>absurd h1 (by decide)
 |d+12,_,h2,_=>absurd h2 (by omega)
theorem DZ {M:Mo} (h:M.cj) : ∀{d:Nat},1≤d→d≤11→(sec M d).length≠0→au ae bF 18 [.agg (mV M),sI .i64 (d:Int)] [] (.ms 0 0 (sec M d).length 1 none) [gB (sec M d)]
 |1,_,_,h0=>Jb h h0
 |2,_,_,h0=>Jd h h0
 |3,_,_,h0=>Jf h h0
 |4,_,_,h0=>Jh h h0
 |5,_,_,h0=>Jj h h0
 |6,_,_,h0=>Jl h h0
 |7,_,_,h0=>Jn h h0
 |8,_,_,h0=>Jp h h0
 |9,_,_,h0=>Jr h h0
 |10,_,_,h0=>FF h h0
 |11,_,_,h0=>FH h h0
 |0,h1,_,_=>absurd h1 (by decide)
 |d+12,_,h2,_=>absurd h2 (by omega)
def hbP:List PV:=[.sc (.int .u8 0),.sc (.int .u8 97),.sc (.int .u8 115),.sc (.int .u8 109),.sc (.int .u8 1),.sc (.int .u8 0),.sc (.int .u8 0),.sc (.int .u8 0)]
noncomputable abbrev RG (M:Mo) (d:Nat):cg:=af ae bF 7 1 [.mp 0 0,.mp 1 0,sI .i64 d] [.pc M.aJ,.ac [.os none 8 1 hbP]] 0 38
noncomputable abbrev Nt (M:Mo) (d k:Nat) (L:List AV):cg:=af ae bF 7 1 [.mp 0 0,.mp 1 0,sI .i64 d] [.pc M.aJ,.ac [.ms 2 0 k 1 none],.ob (.gb 5) L] 0 38
theorem Zh {M:Mo} {d k:Nat} {L:List AV} {o:Out} {X:List Nat} (hk:k=X.length) (hL:L=(bt X).map .p) (h:bD ae bF (Nt M d X.length ((bt X).map .p)) o):bD ae bF (Nt M d k L) o:=by subst hk;subst hL;exact h
theorem Hf {M:Mo} (h:M.cj) : ∀d,(qV M d).length≤8+d*200000000006
 |0=>by simp[qV,nB]
 |d+1=>by
  have h1:=Hf h d
  have h2:=fO h (d+1)
  have h3:=jd ((sec M (d+1)).length:Int)
  rw[qD,dT]
  have:(gx M (d+1)).length≤200000000006:=by
   unfold gx
   split
   · simp
   · simp only[dT,od,acA];omega
  omega
def zZ (M:Mo):Out:=if(gW M).length>1048576 then .ret (.aK [.os none 0 0 [],sI .i64 3]) [] else .ret (.aK [.ms 0 0 (gW M).length 1 none,sI .i64 0]) [gB (gW M)]
theorem Nu {d:Nat} (h:d≤11):IntKind.u8.wrap (d:Int)=(d:Int):=by rw[wU8];omega
theorem Nv (l:List PV):acC qW (acC AV.p l)=l:=by rw[List.map_map];exact List.map_id l
theorem kM : ∀l:List PV,oG (l.map .p)=true
 |[]=>rfl
 |_::l=>kM l
theorem Vw {M:Mo} (h:M.cj) : ∀(r d:Nat),d+r=11→bD ae bF (Nt M (d+1) (qV M d).length ((bt (qV M d)).map .p)) (zZ M):=by
 have ct:bH=70368744177664:=rfl
 intro r
 induction r with
 |zero=>
  intro d hd
  obtain rfl:d=11:=by omega
  have e:gW M=qV M 11:=rfl
  refine ah aI (zY M 12 (qV M 11).length 0 (bt (qV M 11)) [] jU qU) ?_
  simp only[wY,bu,aA.ok,decide_eq_true_eq,decide_eq_false_iff_not,aX]
  refine⟨fun q=>absurd q (by decide),fun _=>⟨fun q=> ?_,fun q=> ?_⟩⟩
  · unfold zZ;rw[e,if_pos (by omega)]
  · unfold zZ;rw[e,if_neg (by omega)]
 |succ r ih=>
  intro d hd
  have ZP:=Hf h d
  have Zi:=qD M d
  have w:IntKind.i64.wrap (((d+1:Nat):Int)+1)=((d+1+1:Nat):Int):=by rw[bA (by omega) (by omega)];rfl
  have WB:decide (((d+1:Nat):Int)≤11)=true:=decide_eq_true (by omega)
  by_cases h0:(sec M (d+1)).length=0
  · have e:qV M (d+1)=qV M d:=by rw[Zi];unfold gx;rw[if_pos h0,Lk]
    have k:=ih (d+1) (by omega)
    rw[e] at k
    refine ah aI (zY M (d+1) (qV M d).length 0 (bt (qV M d)) [] jU qU) ?_
    simp only[wY,bu,aA.ok,WB,w,aX]
    exact⟨fun _=>⟨wZ h (by omega) (by omega) h0,trivial,k⟩,fun q=>(by cases q)⟩
  · obtain⟨n,hn⟩ : ∃n,(sec M (d+1)).length=n+1:=⟨(sec M (d+1)).length-1,by omega⟩
    have RU:=fO h (d+1)
    have hv:=iz (IntKind.u32.wrap ((n+1:Nat):Int))
    have e:qV M (d+1)=qV M d++([d+1]++eV ((n+1:Nat):Int)++sec M (d+1)):=by rw[Zi];unfold gx;rw[if_neg h0,hn]
    have hs:=DZ h (d:=d+1) (by omega) (by omega) h0
    rw[hn] at hs
    have hp:decide (((n+1:Nat):Int)>0)=true:=decide_eq_true (by omega)
    have ht:acD ((n+1)*1) (bt (sec M (d+1)))=bt (sec M (d+1)):=eh (by rw[bz];omega)
    have hz:(bt (sec M (d+1))).length=n+1:=by rw[bz];exact hn
    refine ah aI (I9 M (d+1) (qV M d).length n (bt (qV M d)) (bt (sec M (d+1))) jU qU) ?_
    simp only[DO,bu,aA.ok,WB,w,hp,aX,acx,je,uv,vb,allBy_append,cX,gy,mq,gR,jg,acw,←adC,ht,Nv,kM,ac7,ade,Nu (show d+1≤11 by omega)]
    simp only[dp,acO,fw,ov,bz,dT,od,acA,ac8,pD,hz,hn,ct]
    have k:=ih (d+1) (by omega)
    rw[e] at k
    refine⟨fun _=>⟨hs,fun _=>⟨?_,au.xz (gS (fH _)),?_,trivial,?_,trivial,?_⟩,fun q=>(by cases q)⟩,fun q=>(by cases q)⟩
    · exact⟨⟨by omega,by omega⟩,by omega⟩
    · exact⟨⟨by omega,by omega⟩,by omega⟩
    · exact⟨⟨dd _,by omega,by omega⟩,ads⟩
    · exact Zh (by simp only[dT,od,acA,hn,eV];omega) (by simp only[bn,dJ,eL,acx,uv,vb,vt,eV]) k
theorem D0 (M:Mo) (d:Nat) : ∀k,(qV M d).length≤(qV M (d+k)).length
 |0=>dd _
 |k+1=>by
  have h:=D0 M d k
  rw[show d+(k+1)=d+k+1 from rfl,qD,dT]
  omega
theorem Vx {M:Mo} (h:M.cj) : ∀(r d:Nat),d+r=11→qV M d=nB→(gW M≠nB→bD ae bF (RG M (d+1)) (zZ M)) ∧
  (gW M=nB→bD ae bF (RG M (d+1)) (.ret (.aK [.os none 8 1 hbP,sI .i64 0]) [])):=by
 have ct:bH=70368744177664:=rfl
 intro r
 induction r with
 |zero=>
  intro d hd he
  obtain rfl:d=11:=by omega
  refine⟨fun q=>absurd he q,fun _=> ?_⟩
  refine ah aI (rY M 12 0 0 [] [] jU qU) ?_
  simp only[qH,bu,aA.ok,decide_eq_true_eq,decide_eq_false_iff_not]
  exact⟨fun q=>absurd q (by decide),fun _=>rfl⟩
 |succ r ih=>
  intro d hd he
  have Zi:=qD M d
  have w:IntKind.i64.wrap (((d+1:Nat):Int)+1)=((d+1+1:Nat):Int):=by rw[bA (by omega) (by omega)];rfl
  have WB:decide (((d+1:Nat):Int)≤11)=true:=decide_eq_true (by omega)
  by_cases h0:(sec M (d+1)).length=0
  · have e:qV M (d+1)=nB:=by rw[Zi];unfold gx;rw[if_pos h0,Lk];exact he
    obtain⟨k1,k2⟩:=ih (d+1) (by omega) e
    refine⟨fun q=> ?_,fun q=> ?_⟩
    · refine ah aI (rY M (d+1) 0 0 [] [] jU qU) ?_
      simp only[qH,bu,aA.ok,WB,w]
      exact⟨fun _=>⟨wZ h (by omega) (by omega) h0,ads,k1 q⟩,fun q=>(by cases q)⟩
    · refine ah aI (rY M (d+1) 0 0 [] [] jU qU) ?_
      simp only[qH,bu,aA.ok,WB,w]
      exact⟨fun _=>⟨wZ h (by omega) (by omega) h0,ads,k2 q⟩,fun q=>(by cases q)⟩
  · obtain⟨n,hn⟩ : ∃n,(sec M (d+1)).length=n+1:=⟨(sec M (d+1)).length-1,by omega⟩
    have RU:=fO h (d+1)
    have hv:=iz (IntKind.u32.wrap ((n+1:Nat):Int))
    have e:qV M (d+1)=nB++([d+1]++eV ((n+1:Nat):Int)++sec M (d+1)):=by rw[Zi,he];unfold gx;rw[if_neg h0,hn]
    refine⟨fun _=> ?_,fun q=> ?_⟩
    · have hs:=DZ h (d:=d+1) (by omega) (by omega) h0
      rw[hn] at hs
      have hp:decide (((n+1:Nat):Int)>0)=true:=decide_eq_true (by omega)
      have ht:acD ((n+1)*1) (bt (sec M (d+1)))=bt (sec M (d+1)):=eh (by rw[bz];omega)
      have hz:(bt (sec M (d+1))).length=n+1:=by rw[bz];exact hn
      refine ah aI (I8 M (d+1) 0 n [] (bt (sec M (d+1))) jU qU) ?_
      simp only[DN,aA.ok,WB,w,hp,aX,acx,je,uv,vb,allBy_append,cX,gy,mq,gR,jg,acw,←adC,ht,Nv,kM,ac7,ade,Nu (show d+1≤11 by omega),List.append_eq,Ps]
      simp only[dp,acO,fw,ov,bz,dT,od,acA,ac8,pD,hz,hn,ct]
      have k:=Vw h r (d+1) (by omega)
      rw[e] at k
      refine⟨fun _=>⟨hs,fun _=>⟨ads,au.xz (gS (fH _)),?_,ads,?_,ads,?_⟩,fun q=>(by cases q)⟩,fun q=>(by cases q)⟩
      · exact⟨by omega,by omega⟩
      · exact⟨⟨dd _,by omega,by omega⟩,by omega⟩
      · exact Zh (by simp only[dT,od,acA,hn,eV,nB];omega) (by simp only[bn,dJ,eL,acx,uv,vb,vt,eV,nB,aaq,Ps];rfl) k
    · have h1:=D0 M (d+1) r
      rw[show d+1+r=11 by omega,show qV M 11=gW M from rfl,q,e] at h1
      simp only[dT,od] at h1
      omega
theorem au.ZY {f:FuncId} {args:List AV} {m m':Mem} {v:AV} (h:au ae bF f args m v m'):au ae env f args m v m':=h.env fun _ _ q=>q
theorem tB {M:Mo} (h:M.cj) (hM:M.fit) (hw:M.wf) (hs:M.IC):au ae env 7 [.agg (mV M)] [] (.aK [.p (.ps (jQ M).length 1 (bt (jQ M))),sI .i64 (mC M)]) []:=by
 have hc:=au.xz (Dj M hM hw hs)
 by_cases h0:lq M=0
 · obtain⟨k1,k2⟩:=Vx h 11 0 (by omega) rfl
   by_cases hh:gW M=nB
   · have e:mC M=0:=by unfold mC;rw[if_neg (by omega),if_neg (by rw[hh];decide)]
     have er:jQ M=nB:=by unfold jQ;rw[if_pos e];exact hh
     rw[e,er]
     refine au.vZ (tok:=none) (m':=[]) (au.ZY (aa aI (qG M 0 (lq M) 0 []) ?_))
     simp only[qF,bu,aA.ok,bne_iff_ne,ne_eq,bne_eq_false_iff_eq]
     exact⟨hc,fun q=>absurd h0 q,fun _=>k2 hh⟩
   · by_cases hl:(gW M).length>1048576
     · have e:mC M=3:=by unfold mC;rw[if_neg (by omega),if_pos hl]
       have er:jQ M=[]:=by unfold jQ;rw[if_neg (by omega)]
       rw[e,er]
       have k:=k1 hh
       unfold zZ at k
       rw[if_pos hl] at k
       refine au.we (m':=[]) (au.ZY (aa aI (qG M 0 (lq M) 0 []) ?_))
       simp only[qF,bu,aA.ok,bne_iff_ne,ne_eq,bne_eq_false_iff_eq]
       exact⟨hc,fun q=>absurd h0 q,fun _=>k⟩
     · have e:mC M=0:=by unfold mC;rw[if_neg (by omega),if_neg hl]
       have er:jQ M=gW M:=by unfold jQ;rw[if_pos e]
       rw[e,er]
       have k:=k1 hh
       unfold zZ at k
       rw[if_neg hl] at k
       have hd:au ae bF 7 [.agg (mV M)] [] (.aK [.ms 0 0 (gW M).length 1 none,sI .i64 0]) [gB (gW M)]:=by
        refine aa aI (qG M 0 (lq M) 0 []) ?_
        simp only[qF,bu,aA.ok,bne_iff_ne,ne_eq,bne_eq_false_iff_eq]
        exact⟨hc,fun q=>absurd h0 q,fun _=>k⟩
       exact au.M7 (au.ZY hd) (bz _).symm
 · have e:mC M=lq M:=by unfold mC;rw[if_pos h0]
   have er:jQ M=[]:=by unfold jQ;rw[if_neg (by omega)]
   rw[e,er]
   refine au.we (m':=[]) (au.ZY (aa aI (qG M 0 (lq M) 0 []) ?_))
   simp only[qF,bu,aA.ok,bne_iff_ne,ne_eq,bne_eq_false_iff_eq]
   exact⟨hc,fun _=>(by first | exact ads | rfl),fun q=>absurd q h0⟩
end Go.Proofs.YtncncijedmfpjaaGreatDoor.N
end
section
namespace Go.Proofs.YtncncijedmfpjaaGreatDoor.N
open Go Go.Am
def PX {α:Type} (p:α→Prop) (e:α→List Nat):Prop:= ∀x y s t,p x→p y→e x++s=e y++t→x=y∧s=t
theorem RH : ∀f:Nat,PX (fun n=>n<128 ^ (f+1)) (pU f)
 |0,x,y,s,t,hx,hy,h=>by
  simp only[pU,aaq,Ps,adD] at h
  refine⟨?_,h.2⟩
  have hx:x<128:=by simpa using hx
  have hy:y<128:=by simpa using hy
  omega
 |f+1,x,y,s,t,hx,hy,h=>by
  have hp:128 ^ (f+1+1)=128 ^ (f+1)*128:=Nat.pow_succ ..
  have hx:x<128 ^ (f+1+1):=hx
  have hy:y<128 ^ (f+1+1):=hy
  unfold pU at h
  split at h<;>split at h
  · simp only[aaq,Ps,adD] at h
    exact⟨by omega,h.2⟩
  · simp only[aaq,Ps,adD] at h
    omega
  · simp only[aaq,Ps,adD] at h
    omega
  · simp only[aaq,adD] at h
    obtain⟨h1,h2⟩:=RH f (x / 128) (y / 128) s t (by show x / 128<128 ^ (f+1);omega) (by show y / 128<128 ^ (f+1);omega) h.2
    exact⟨by omega,h2⟩
theorem RI : ∀f:Nat,PX (fun n:Int=> -(64*128 ^ f)≤n∧n<64*128 ^ f) (pS f)
 |0,x,y,s,t,hx,hy,h=>by
  simp only[pS,aaq,Ps,adD] at h
  refine⟨?_,h.2⟩
  have hx : -64≤x∧x<64:=by simpa using hx
  have hy : -64≤y∧y<64:=by simpa using hy
  omega
 |f+1,x,y,s,t,hx,hy,h=>by
  have hp:(64*128 ^ (f+1):Int)=64*128 ^ f*128:=by rw[Int.pow_succ,Int.mul_assoc]
  have hx : -(64*128 ^ (f+1):Int)≤x∧x<64*128 ^ (f+1):=hx
  have hy : -(64*128 ^ (f+1):Int)≤y∧y<64*128 ^ (f+1):=hy
  rw[hp] at hx hy
  generalize hP:(64*128 ^ f:Int)=P at hx hy
  unfold pS at h
  split at h<;>split at h
  · simp only[aaq,Ps,adD] at h
    exact⟨by omega,h.2⟩
  · simp only[aaq,Ps,adD] at h
    omega
  · simp only[aaq,Ps,adD] at h
    omega
  · simp only[aaq,adD] at h
    obtain⟨h1,h2⟩:=RI f (x / 128) (y / 128) s t (by show -(64*128 ^ f:Int)≤x / 128∧x / 128<64*128 ^ f;rw[hP];omega) (by show -(64*128 ^ f:Int)≤y / 128∧y / 128<64*128 ^ f;rw[hP];omega) h.2
    exact⟨by omega,h2⟩
theorem ko:PX (fun n:Int=>0≤n∧n<4294967296) eU:=fun x y s t hx hy h=>by
 have hx:0≤x∧x<4294967296:=hx
 have hy:0≤y∧y<4294967296:=hy
 obtain⟨h1,h2⟩:=RH 4 x.toNat y.toNat s t (by show x.toNat<34359738368;omega) (by show y.toNat<34359738368;omega) h
 exact⟨by omega,h2⟩
theorem Hg {n:Int} (h:0≤n∧n<4294967296):eV n=eU n:=by unfold eV;rw[SK,Int.emod_eq_of_lt h.1 h.2]
theorem tC:PX (fun n:Int=>0≤n∧n<4294967296) eV:=fun x y s t hx hy h=>by
 rw[Hg hx,Hg hy] at h
 exact ko x y s t hx hy h
theorem FI (n:Int):1≤(eU n).length:=by
 unfold eU
 generalize n.toNat=k
 unfold pU
 split<;>simp
theorem Nw (n:Int):1≤(eV n).length:=FI _
theorem RJ {α:Type} {p:α→Prop} {e:α→List Nat} (h:PX p e) : ∀(l m:List α) (s t:List Nat),l.length=m.length→(∀x∈l,p x)→(∀x∈m,p x)→l.flatMap e++s=m.flatMap e++t→l=m∧s=t
 |[],[],_,_,_,_,_,k=>⟨rfl,by simpa using k⟩
 |x::l,y::m,s,t,hl,hx,hy,k=>by
  simp only[ac2,vt] at k
  obtain⟨e1,k1⟩:=h x y _ _ (hx x (.head _)) (hy y (.head _)) k
  obtain⟨e2,k2⟩:=RJ h l m s t (by simpa using hl) (fun z hz=>hx z (.tail _ hz)) (fun z hz=>hy z (.tail _ hz)) k1
  exact⟨by rw[e1,e2],k2⟩
 |[],_::_,_,_,hl,_,_,_=>by cases hl
 |_::_,[],_,_,hl,_,_,_=>by cases hl
theorem Nx {α:Type} {p:α→Prop} {e:α→List Nat} (h:PX p e) (l m:List α) (s t:List Nat) (hl:(l.length:Int)<4294967296) (hm:(m.length:Int)<4294967296) (hx : ∀x∈l,p x) (hy : ∀x∈m,p x)
  (k:eV l.length++(l.flatMap e++s)=eV m.length++(m.flatMap e++t)):l=m∧s=t:=by
 obtain⟨h1,k⟩:=tC _ _ _ _ ⟨by omega,hl⟩ ⟨by omega,hm⟩ k
 exact RJ h l m s t (by omega) hx hy k
theorem iG {α:Type} {p:α→Prop} {e:α→List Nat} (h:PX p e) (l m:List α) (hl:(l.length:Int)<4294967296) (hm:(m.length:Int)<4294967296) (hx : ∀x∈l,p x) (hy : ∀x∈m,p x) (k:nZ l e=nZ m e):l=m:=by
 unfold nZ at k
 have n0:=Nw (l.length:Int)
 have n1:=Nw (m.length:Int)
 split at k<;>split at k
 · rename_i a b
   rw[pa] at a b
   rw[a,b]
 · have:=congrArg pb k
   simp only[dT,acA] at this
   omega
 · have:=congrArg pb k
   simp only[dT,acA] at this
   omega
 · exact(Nx h l m [] [] hl hm hx hy (by simpa using k)).1
theorem oc {op r a b nn:Int} {tg:List Int} {ll le:List Ins} (h:gw (.mk op r a b nn tg ll le)=true) :
  (nm op).data.toList≠[]∧(r=0∨r=1)∧(kX op=false→r=0∧ll=[])∧(op≠4→le=[])∧(eX op=false→jT op=false→op≠14→a=0)∧(eX op=false→b=0)∧(op≠65→nn=0)∧(op≠14→tg=[]):=by
 simp only[gw,tK,dp,Bool.not_eq_true',Bool.or_eq_true,decide_eq_false_iff_not,decide_eq_true_eq,beq_iff_eq,Bool.or_eq_false_iff,beq_eq_false_iff_ne,bne_eq_false_iff_eq] at h
 obtain⟨h0,h1,h2,h3,h4,h5,h6,h7,h8⟩:=h
 have nil : ∀{α:Type} (l:List α),¬(l.length:Int)>0→l=[]:=fun l hl=>pa.1 (by omega)
 refine⟨fun e=>h0 (by rw[e]),by omega,fun lz=> ?_,fun h4'=> ?_,fun a1 a2 a3=> ?_,fun a1=> ?_,fun a1=> ?_,fun a1=> ?_⟩
 · rcases h3 with h3 | h3
   · rw[h3] at lz;cases lz
   · exact⟨h3.1,nil _ h3.2⟩
 · rcases h4 with h4 | h4
   · exact absurd h4 h4'
   · exact nil _ h4
 · rcases h5 with((h5 | h5) | h5) | h5
   · rw[h5] at a1;cases a1
   · rw[h5] at a2;cases a2
   · exact absurd h5 a3
   · exact h5
 · rcases h6 with h6 | h6
   · rw[h6] at a1;cases a1
   · exact h6
 · rcases h7 with h7 | h7
   · exact absurd h7 a1
   · exact h7
 · rcases h8 with h8 | h8
   · exact absurd h8 a1
   · exact pa.1 (by omega)
theorem Hh {op:Int} (h:(nm op).data.toList≠[]):0≤op∧op<256∧op≠5∧op≠11:=by
 unfold nm at h
 split at h
 · exact absurd rfl h
 · refine⟨by omega,by omega,?_,?_⟩
   · rintro rfl
     exact h (by decide +kernel)
   · rintro rfl
     exact h (by decide +kernel)
def xd (c:Nat):Prop:=c=5∨c=11
theorem z6 (le:List Ins) (S:List Nat) : ∃c s,((if le.length=0 then[] else 5::kJ le)++[11])++S=c::s∧xd c∧((le=[]∧c=11∧s=S)∨(c=5∧s=kJ le++11::S)):=by
 by_cases h:le.length=0
 · exact⟨11,S,by simp[h],.inr rfl,.inl ⟨pa.1 h,rfl,rfl⟩⟩
 · exact⟨5,kJ le++11::S,by simp[h],.inl rfl,.inr ⟨rfl,rfl⟩⟩
theorem Js {a:Int} (h:(Lit.int .u32 a).wf=true):0≤a∧a<4294967296:=kF h
set_option maxHeartbeats 1000000 in
theorem Vy {op r a b nn op' r' a' b' Ny:Int} {tg RK:List Int} {ll le JO le':List Ins} {S T:List Nat} (hx:gw (.mk op r a b nn tg ll le)=true) (hy:gw (.mk op' r' a' b' Ny RK JO le')=true)
  (wx:JE (.mk op r a b nn tg ll le)) (wy:JE (.mk op' r' a' b' Ny RK JO le')) (cx:tg.length≤1000000) (cy:RK.length≤1000000)
  (IH1 : ∀(c d:Nat) (s t:List Nat),xd c→xd d→kJ ll++c::s=kJ JO++d::t→ll=JO∧c=d∧s=t)
  (IH2 : ∀(c d:Nat) (s t:List Nat),xd c→xd d→kJ le++c::s=kJ le'++d::t→le=le'∧c=d∧s=t)
  (h:lW (.mk op r a b nn tg ll le)++S=lW (.mk op' r' a' b' Ny RK JO le')++T):Ins.mk op r a b nn tg ll le = .mk op' r' a' b' Ny RK JO le'∧S=T:=by
 obtain⟨f0,f1,f2,f3,f4,f5,f6,f7⟩:=oc hx
 obtain⟨g0,g1,g2,g3,g4,g5,g6,g7⟩:=oc hy
 have o1:=Hh f0
 have o2:=Hh g0
 simp only[JE] at wx wy
 obtain⟨_,_,wa,wb,wn,⟨_,wt⟩,_⟩:=wx
 obtain⟨_,_,WC,wb',wn',⟨_,XS⟩,_⟩:=wy
 have wa:=Js wa
 have WC:=Js WC
 have wb:=Js wb
 have wb':=Js wb'
 have wn:=Fb wn
 have wn':=Fb wn'
 simp only[lW,aaq,adD] at h
 obtain⟨h1,h⟩:=h
 have e:op=op':=by omega
 subst e
 by_cases lz:kX op=true
 · have hop:=fX.1 lz
   have s1:eX op=false:=by cases hs:eX op with | false=>rfl | true=>rw[ny] at hs;omega
   have s2:jT op=false:=by cases hs:jT op with | false=>rfl | true=>rw[qu] at hs;omega
   have:=f4 s1 s2 (by omega)
   have:=g4 s1 s2 (by omega)
   have:=f5 s1
   have:=g5 s1
   have:=f6 (by omega)
   have:=g6 (by omega)
   have:=f7 (by omega)
   have:=g7 (by omega)
   simp only[lz,if_true,aaq,adD] at h
   obtain⟨h2,h⟩:=h
   have er:r=r':=by
    rcases f1 with q | q<;>rcases g1 with q' | q'<;>subst q<;>subst q'<;>first | rfl | simp at h2
   rw[vt (kJ ll),vt (kJ JO)] at h
   obtain⟨c,s,e1,e2,e3⟩:=z6 le S
   obtain⟨d,t,d1,d2,d3⟩:=z6 le' T
   rw[e1,d1] at h
   obtain⟨k1,k2,k3⟩:=IH1 c d s t e2 d2 h
   subst k1 k2 k3
   rcases e3 with⟨q1,q2,q3⟩ | ⟨q1,q2⟩<;>rcases d3 with⟨p1,p2,p3⟩ | ⟨p1,p2⟩
   · subst_vars;exact⟨rfl,rfl⟩
   · omega
   · omega
   · obtain⟨k1,_,k3⟩:=IH2 11 11 S T (.inr rfl) (.inr rfl) (by rw[←q2,←p2])
     subst_vars;exact⟨rfl,rfl⟩
 · have lz:kX op=false:=by simpa using lz
   have n4:op≠4:=fun q=>by rw[fX.2 (by omega)] at lz;cases lz
   obtain⟨q1,q2⟩:=f2 lz
   obtain⟨p1,p2⟩:=g2 lz
   have q3:=f3 n4
   have p3:=g3 n4
   subst q1 q2 q3 p1 p2 p3
   simp only[lz,pn,if_false] at h
   by_cases vY:op=17
   · subst vY
     have s1:eX 17=false:=rfl
     have e1:=f5 s1
     have e2:=g5 s1
     have e3:=f6 (by decide)
     have e4:=g6 (by decide)
     have e5:=f7 (by decide)
     have e6:=g7 (by decide)
     subst e1 e2 e3 e4 e5 e6
     simp only[if_true,vt] at h
     obtain⟨k1,k2⟩:=ko a a' _ _ wa WC h
     subst k1
     simp only[aaq,Ps,adD,true_and] at k2
     exact⟨rfl,k2⟩
   simp only[vY,if_false] at h
   by_cases xZ:jT op=true
   · have hop:=qu.1 xZ
     have s1:eX op=false:=by cases hs:eX op with | false=>rfl | true=>rw[ny] at hs;omega
     have e1:=f5 s1
     have e2:=g5 s1
     have e3:=f6 (by omega)
     have e4:=g6 (by omega)
     have e5:=f7 (by omega)
     have e6:=g7 (by omega)
     subst e1 e2 e3 e4 e5 e6
     simp only[xZ,if_true] at h
     obtain⟨k1,k2⟩:=ko a a' _ _ wa WC h
     subst k1
     exact⟨rfl,k2⟩
   have xZ:jT op=false:=by simpa using xZ
   simp only[xZ,pn,if_false] at h
   by_cases A7:op=14
   · subst A7
     have s1:eX 14=false:=rfl
     have e1:=f5 s1
     have e2:=g5 s1
     have e3:=f6 (by decide)
     have e4:=g6 (by decide)
     subst e1 e2 e3 e4
     simp only[if_true,vt] at h
     have k:=Nx (p:=fun n:Int=>0≤n∧n<4294967296) ko tg RK (pU 4 a.toNat++S) (pU 4 a'.toNat++T) (by omega) (by omega) (fun t ht=>Js (wt t ht)) (fun t ht=>Js (XS t ht)) (by
      rw[Hg (by omega),Hg (by omega)];exact h)
     obtain⟨k1,k⟩:=k
     obtain⟨k2,k3⟩:=ko a a' _ _ wa WC k
     subst k1 k2
     exact⟨rfl,k3⟩
   have e5:=f7 A7
   have e6:=g7 A7
   subst e5 e6
   simp only[A7,if_false] at h
   by_cases h63:op=63∨op=64
   · have s1:eX op=false:=by cases hs:eX op with | false=>rfl | true=>rw[ny] at hs;omega
     have e1:=f5 s1
     have e2:=g5 s1
     have e3:=f6 (by omega)
     have e4:=g6 (by omega)
     have e7:=f4 s1 xZ A7
     have e8:=g4 s1 xZ A7
     subst e1 e2 e3 e4 e7 e8
     simp only[h63,if_true,aaq,Ps,adD,true_and] at h
     exact⟨rfl,h⟩
   simp only[h63,if_false] at h
   by_cases Ie:op=65
   · subst Ie
     have s1:eX 65=false:=rfl
     have e1:=f5 s1
     have e2:=g5 s1
     have e7:=f4 s1 xZ A7
     have e8:=g4 s1 xZ A7
     subst e1 e2 e7 e8
     simp only[if_true] at h
     obtain⟨k1,k2⟩:=RI 4 nn Ny _ _ (by show -(64*268435456:Int)≤nn∧nn<64*268435456;omega) (by show -(64*268435456:Int)≤Ny∧Ny<64*268435456;omega) h
     subst k1
     exact⟨rfl,k2⟩
   have e3:=f6 Ie
   have e4:=g6 Ie
   subst e3 e4
   simp only[Ie,if_false] at h
   by_cases hst:eX op=true
   · simp only[hst,if_true,vt] at h
     obtain⟨k1,h1⟩:=ko a a' _ _ wa WC h
     obtain⟨k2,h2⟩:=ko b b' _ _ wb wb' h1
     subst k1 k2
     exact⟨rfl,h2⟩
   · have hst:eX op=false:=by simpa using hst
     have e1:=f5 hst
     have e2:=g5 hst
     have e7:=f4 hst xZ A7
     have e8:=g4 hst xZ A7
     subst e1 e2 e7 e8
     simp only[hst,pn,if_false,Ps] at h
     exact⟨rfl,h⟩
theorem By : ∀(N:Nat) (l m:List Ins) (c d:Nat) (s t:List Nat),cZ l≤N→cZ l≤1000000→cZ m≤1000000→zl gw l=true→zl gw m=true→sV l→sV m→xd c→xd d →
  kJ l++c::s=kJ m++d::t→l=m∧c=d∧s=t
 |N,[],[],c,d,s,t,_,_,_,_,_,_,_,_,_,h=>by
  simp only[kJ,Ps,adD] at h
  exact⟨rfl,h⟩
 |N,[],.mk op r a b nn tg ll le::m,c,d,s,t,_,_,_,_,hm,_,_,hc,_,h=>by
  simp only[zl,Ww,dp] at hm
  have o:=Hh (oc hm.1.1).1
  simp only[kJ,lW,Ps,aaq,adD] at h
  rcases hc with hc | hc<;>omega
 |N,.mk op r a b nn tg ll le::l,[],c,d,s,t,_,_,_,hl,_,_,_,_,hd,h=>by
  simp only[zl,Ww,dp] at hl
  have o:=Hh (oc hl.1.1).1
  simp only[kJ,lW,Ps,aaq,adD] at h
  rcases hd with hd | hd<;>omega
 |0,.mk op r a b nn tg ll le::l,.mk op' r' a' b' Ny RK JO le'::m,_,_,_,_,h0,_,_,_,_,_,_,_,_,_=>by
  simp only[cZ,kD] at h0
  omega
 |N+1,.mk op r a b nn tg ll le::l,.mk op' r' a' b' Ny RK JO le'::m,c,d,s,t,h0,hb,hb',hl,hm,wl,wm,hc,hd,h=>by
  simp only[cZ,kD] at h0 hb hb'
  simp only[zl,Ww,dp] at hl hm
  simp only[kJ,vt] at h
  have wx:=wl.1
  have wy:=wm.1
  simp only[JE] at wx wy
  obtain⟨k1,k2⟩:=Vy hl.1.1 hm.1.1 wl.1 wm.1 (by omega) (by omega)
   (fun c d s t hc hd h=>By N ll JO c d s t (by omega) (by omega) (by omega) hl.1.2.1 hm.1.2.1 wx.2.2.2.2.2.2.1.2 wy.2.2.2.2.2.2.1.2 hc hd h)
   (fun c d s t hc hd h=>By N le le' c d s t (by omega) (by omega) (by omega) hl.1.2.2 hm.1.2.2 wx.2.2.2.2.2.2.2.2 wy.2.2.2.2.2.2.2.2 hc hd h) h
  obtain⟨k3,k4⟩:=By N l m c d s t (by omega) (by omega) (by omega) hl.2 hm.2 wl.2 wm.2 hc hd k2
  exact⟨by rw[k1,k3],k4⟩
end Go.Proofs.YtncncijedmfpjaaGreatDoor.N
end
section
set_option linter.unusedSimpArgs false
set_option linter.unusedVariables false
namespace Go.Proofs.YtncncijedmfpjaaGreatDoor.N
open Go Go.Am
def B8 (l:List Nat):Prop:= ∀x∈l,x<256
theorem B8.nil:B8 []:=fun _ h=>(by cases h)
theorem B8.app {a b:List Nat} (h:B8 a) (k:B8 b):B8 (a++b):=fun x hx=>(List.mem_append.1 hx).elim (h x) (k x)
theorem B8.cons {x:Nat} {a:List Nat} (h:x<256) (k:B8 a):B8 (x::a):=fun y hy=>by
 rcases Hk.1 hy with rfl | hy
 · exact h
 · exact k y hy
theorem B8.one {x:Nat} (h:x<256):B8 [x]:=B8.cons h B8.nil
theorem B8.flat {α:Type} {e:α→List Nat} {l:List α} (h : ∀x∈l,B8 (e x)):B8 (l.flatMap e):=fun y hy=>by
 obtain⟨x,hx,k⟩:=List.mem_flatMap.1 hy
 exact h x hx y k
theorem nC : ∀f n,B8 (pU f n)
 |0,n=>B8.one (by omega)
 |f+1,n=>by
  unfold pU
  split
  · exact B8.one (by omega)
  · exact B8.cons (by omega) (nC f _)
theorem RL : ∀f n,B8 (pS f n)
 |0,n=>B8.one (by omega)
 |f+1,n=>by
  unfold pS
  split
  · exact B8.one (by omega)
  · exact B8.cons (by omega) (RL f _)
theorem z7 (n:Int):B8 (eU n):=nC 4 _
theorem qI (n:Int):B8 (eV n):=nC 4 _
mutual
theorem Vz : ∀x:Ins,B8 (lW x)
 |.mk op r a b nn tg ll le=>by
  have h1:=Bz ll
  have h2:=Bz le
  rw[lW]
  refine B8.cons (by omega) ?_
  repeat' split
  all_goals first
   |exact B8.nil
   |exact B8.cons (by split<;>decide) (B8.app h1 (B8.app (by split<;>first | exact B8.nil | exact B8.cons (by decide) h2) (B8.one (by decide))))
   |exact B8.cons (by decide) (B8.app h1 (B8.app B8.nil (B8.one (by decide))))
   |exact B8.cons (by decide) (B8.app h1 (B8.app (B8.cons (by decide) h2) (B8.one (by decide))))
   |exact B8.app (nC _ _) (B8.one (by decide))
   |exact nC _ _
   |exact B8.app (nC _ _) (B8.app (B8.flat fun _ _=>nC _ _) (nC _ _))
   |exact B8.one (by decide)
   |exact RL _ _
   |exact B8.app (nC _ _) (nC _ _)
theorem Bz : ∀l:List Ins,B8 (kJ l)
 |[]=>B8.nil
 |x::r=>B8.app (Vz x) (Bz r)
end
theorem BA (l:List Ins):B8 (pz l):=by
 unfold pz
 split
 · exact B8.app (Bz l) (B8.one (by decide))
 · exact B8.nil
theorem VB (lo:Int) (l:List Ins):B8 (wg lo l):=by
 unfold wg
 split
 · refine B8.app ?_ (BA l)
   split
   · exact B8.one (by decide)
   · exact B8.app (B8.cons (by decide) (nC _ _)) (B8.one (by decide))
 · exact B8.nil
theorem VC (n:Nat):B8 (List.replicate n 127):=fun x hx=>by rw[(List.mem_replicate.1 hx).2];decide
theorem Nz (n:Int):B8 (IK n):=B8.app (qI n) (VC _)
theorem VD (x:Ty):B8 (Bn x):=by
 unfold Bn
 split
 · exact B8.cons (by decide) (B8.app (Nz _) (Nz _))
 · exact B8.nil
theorem QZ (s:ByteArray):B8 (ya s):=fun x hx=>by
 obtain⟨y,_,rfl⟩:=fi.1 hx
 exact y.toNat_lt
theorem FJ (s:ByteArray):B8 (Bo s):=by
 unfold Bo
 split
 · exact B8.app (qI _) (QZ s)
 · exact B8.nil
theorem NA (most:Int) (x:Li):B8 (zW most x):=by
 unfold zW
 split
 · split
   · exact B8.cons (by decide) (B8.app (z7 _) (z7 _))
   · exact B8.cons (by decide) (z7 _)
 · exact B8.nil
theorem kG {α:Type} {l:List α} {e:α→List Nat} (h : ∀x∈l,B8 (e x)):B8 (nZ l e):=by
 unfold nZ
 split
 · exact B8.nil
 · exact B8.app (qI _) (B8.flat h)
structure Jt (M:Mo):Prop where
 cj:M.cj
 tys : ∀x∈M.tys,BQ x=0
 aZ : ∀x∈M.aZ,l9 x.mo=0∧l9 x.nm=0∧0≤x.ty∧x.ty<4294967296
 fns : ∀x∈M.fns,0≤x.ty∧x.ty<4294967296∧0≤x.lo∧x.lo≤50000∧dg gw x.l=0
 dh : ∀x∈M.dh,zJ 1048576 x=0
 dw : ∀x∈M.dw,zJ 65536 x=0
 gls : ∀x∈M.gls,dg gw x.l=0
 exs : ∀x∈M.exs,l9 x.nm=0∧0≤x.kind∧x.kind≤3
 sn:M.st=false→M.sn=0
 els : ∀x∈M.els,dg gw x.l=0
 aY : ∀x∈M.aY,dg gw x.l=0 ∧ ∀b∈x.bs,b<256
theorem VE {M:Mo} (h:Jt M) (d:Nat):B8 (sec M d):=by
 unfold sec
 split
 · exact kG fun x _=>VD x
 · exact kG fun x _=>B8.app (B8.app (B8.app (FJ _) (FJ _)) (B8.one (by decide))) (qI _)
 · exact kG fun x _=>qI _
 · exact kG fun x _=>B8.app (B8.one (by decide)) (NA _ _)
 · exact kG fun x _=>NA _ _
 · exact kG fun x _=>B8.app (B8.cons (by decide) (B8.one (by split<;>decide))) (BA _)
 · exact kG fun x _=>B8.app (B8.app (FJ _) (B8.one (by omega))) (z7 _)
 · split
   · exact z7 _
   · exact B8.nil
 · exact kG fun x _=>B8.app (B8.app (B8.app (B8.one (by decide)) (BA _)) (qI _)) (B8.flat fun _ _=>z7 _)
 · exact kG fun x _=>B8.app (qI _) (VB _ _)
 · refine kG fun x hx=>B8.app (B8.app (B8.app (B8.one (by decide)) (BA _)) (qI _)) fun y hy=> ?_
   obtain⟨b,hb,rfl⟩:=fi.1 hy
   have h1:=(h.aY x hx).2 b hb
   have h2:=(h.cj.aY x hx).2.2.2 b hb
   omega
 · exact B8.nil
theorem Hi {M:Mo} (h:Jt M):B8 (gW M):=by
 unfold gW qV
 refine B8.app (fun x hx=> ?_) (B8.flat fun d hd=> ?_)
 · revert x;decide
 · have hd:d<256:=by
    have:=List.mem_range'.1 hd
    omega
   unfold gx
   split
   · exact B8.nil
   · exact B8.app (B8.app (B8.one hd) (qI _)) (VE h d)
def gT (M:Mo) (k n:Nat):List Nat:=(xb k n).flatMap (gx M)
theorem rZ (M:Mo) : ∀(n k c:Nat) (r:List Nat),gT M k n=c::r→k≤c
 |0,k,c,r,h=>by simp[gT] at h
 |n+1,k,c,r,h=>by
  unfold gT at h
  rw[adA,ac2] at h
  by_cases e:(sec M k).length=0
  · rw[gx,if_pos e,Ps] at h
    exact Nat.le_of_succ_le (rZ M n (k+1) c r h)
  · rw[gx,if_neg e] at h
    simp only[aaq,Ps,adD] at h
    omega
theorem D1 (M N:Mo) : ∀(n k:Nat),(gT M k n).length≤1048576→(gT N k n).length≤1048576→gT M k n=gT N k n → ∀d,k≤d→d<k+n→sec M d=sec N d
 |0,k,_,_,_,d,h1,h2=>by omega
 |n+1,k,hM,hN,h,d,h1,h2=>by
  have eM:gT M k (n+1)=gx M k++gT M (k+1) n:=by unfold gT;rw[adA,ac2]
  have eN:gT N k (n+1)=gx N k++gT N (k+1) n:=by unfold gT;rw[adA,ac2]
  rw[eM] at hM h
  rw[eN] at hN h
  rw[dT] at hM hN
  have key:sec M k=sec N k∧gT M (k+1) n=gT N (k+1) n:=by
   by_cases a:(sec M k).length=0
   · by_cases b:(sec N k).length=0
     · rw[gx,gx,if_pos a,if_pos b] at h
       exact⟨by rw[H4 a,H4 b],by simpa using h⟩
     · rw[gx,gx,if_pos a,if_neg b] at h
       simp only[aaq,Ps] at h
       have:=rZ M n (k+1) _ _ h
       omega
   · by_cases b:(sec N k).length=0
     · rw[gx,gx,if_neg a,if_pos b] at h
       simp only[aaq,Ps] at h
       have:=rZ N n (k+1) _ _ h.symm
       omega
     · have l1:(gx M k).length≥(sec M k).length:=by rw[gx,if_neg a];simp only[dT];omega
       have l2:(gx N k).length≥(sec N k).length:=by rw[gx,if_neg b];simp only[dT];omega
       rw[gx,gx,if_neg a,if_neg b] at h
       simp only[aaq,Ps,vt,adD,true_and] at h
       obtain⟨e1,e2⟩:=tC _ _ _ _ (by show 0≤((sec M k).length:Int)∧_<_;omega) (by show 0≤((sec N k).length:Int)∧_<_;omega) h
       exact adz e2 (by omega)
  by_cases e:d=k
  · rw[e];exact key.1
  · exact D1 M N n (k+1) (by omega) (by omega) key.2 d (by omega) (by omega)
theorem NB:PX (fun n:Int=>0≤n∧n<4294967296) IK:=fun x y s t hx hy h=>by
 unfold IK at h
 rw[vt,vt] at h
 obtain⟨e,h⟩:=tC _ _ _ _ hx hy h
 subst e
 exact⟨rfl,adB h⟩
theorem VF:PX (fun x:Ty=>BQ x=0) Bn:=fun x y s t hx hy h=>by
 have r : ∀x:Ty,BQ x=0→(0≤x.p∧x.p<4294967296)∧(0≤x.r∧x.r<4294967296):=fun x hx=>by
  unfold BQ at hx
  split at hx
  · omega
  · cases hx
 have rx:=r x hx
 have ry:=r y hy
 unfold Bn at h
 rw[if_pos hx,if_pos hy] at h
 simp only[aaq,adD,true_and,vt] at h
 obtain⟨e1,h⟩:=NB _ _ _ _ rx.1 ry.1 h
 obtain⟨e2,h⟩:=NB _ _ _ _ rx.2 ry.2 h
 refine⟨?_,h⟩
 cases x;cases y
 simp only at e1 e2
 rw[e1,e2]
theorem NC {s t:ByteArray} (h:ya s=ya t):s=t:=by
 have e:s.data.toList=t.data.toList:=by
  unfold ya at h
  exact List.map_inj_right (fun _ _ q=>UInt8.toNat_inj.1 q) |>.1 h
 obtain⟨⟨a⟩⟩:=s
 obtain⟨⟨b⟩⟩:=t
 simpa using e
theorem Hj {s:ByteArray} (h:l9 s=0):s.data.toList.length≤1048576:=by
 unfold l9 at h
 split at h
 · cases h
 · omega
theorem FK:PX (fun s:ByteArray=>l9 s=0) Bo:=fun x y s t hx hy h=>by
 have lx:=Hj hx
 have ly:=Hj hy
 unfold Bo at h
 rw[if_pos hx,if_pos hy,vt,vt] at h
 obtain⟨e,h⟩:=tC _ _ _ _ (by show 0≤(x.data.toList.length:Int)∧_<_;omega) (by show 0≤(y.data.toList.length:Int)∧_<_;omega) h
 obtain⟨e2,e3⟩:=adz h (by unfold ya;rw[ov,ov];omega)
 exact⟨NC e2,e3⟩
theorem ND (most:Int):PX (fun x:Li=>zJ most x=0∧tN x) (zW most):=fun x y s t hx hy h=>by
 have wx:=hx.2;have wy:=hy.2
 have x1:=kF wx.1;have x2:=kF wx.2;have y1:=kF wy.1;have y2:=kF wy.2
 have kx:=hx.1;have ky:=hy.1
 unfold zW at h
 rw[if_pos hx.1,if_pos hy.1] at h
 have z : ∀x:Li,zJ most x=0→x.cap=false→x.mx=0:=fun x k c=>by
  unfold zJ at k
  split at k
  · cases k
  · rename_i q
    by_cases e:x.mx=0
    · exact e
    · exact absurd (.inr (.inr ⟨c,e⟩)) q
 obtain⟨a,b,c⟩:=x
 obtain⟨a',b',c'⟩:=y
 cases c<;>cases c'<;>simp only[if_true,if_false,pn,aaq,adD,true_and,vt] at h
 · obtain⟨e1,h⟩:=ko _ _ _ _ x1 y1 h
   have b1:b=0:=z _ kx rfl
   have b2:b'=0:=z _ ky rfl
   simp only at e1
   exact⟨by rw[e1,b1,b2],h⟩
 · exact absurd h.1 (by decide)
 · exact absurd h.1 (by decide)
 · obtain⟨e1,h⟩:=ko _ _ _ _ x1 y1 h
   obtain⟨e2,h⟩:=ko _ _ _ _ x2 y2 h
   simp only at e1 e2
   exact⟨by rw[e1,e2],h⟩
def Zj (l:List Ins):Prop:=dg gw l=0∧sV l∧cZ l≤1000000
theorem xe:PX Zj pz:=fun x y s t hx hy h=>by
 unfold pz at h
 rw[if_pos hx.1,if_pos hy.1] at h
 have o : ∀l,dg gw l=0→zl gw l=true:=fun l q=>by
  unfold dg at q
  split at q
  · cases q
  · rename_i r;simpa using r
 obtain⟨e,_,h⟩:=By _ x y 11 11 s t (dd _) hx.2.2 hy.2.2 (o x hx.1) (o y hy.1) hx.2.1 hy.2.1 (.inr rfl) (.inr rfl) (by simpa using h)
 exact⟨e,h⟩
theorem VG:PX (fun x:Im=>l9 x.mo=0∧l9 x.nm=0∧0≤x.ty∧x.ty<4294967296) JF:=fun x y s t hx hy h=>by
 unfold JF at h
 simp only[vt] at h
 obtain⟨e1,h⟩:=FK _ _ _ _ hx.1 hy.1 h
 obtain⟨e2,h⟩:=FK _ _ _ _ hx.2.1 hy.2.1 h
 simp only[aaq,Ps,adD,true_and] at h
 obtain⟨e3,hz⟩:=tC _ _ _ _ hx.2.2 hy.2.2 h
 cases x;cases y
 simp only at e1 e2 e3
 exact⟨by rw[e1,e2,e3],hz⟩
theorem VH:PX (fun x:Li=>zJ 1048576 x=0∧tN x) JH:=fun x y s t hx hy h=>by
 unfold JH at h
 simp only[aaq,Ps,adD,true_and] at h
 exact ND _ _ _ _ _ hx hy h
theorem VI:PX (fun x:Gl=>Zj x.l) JI:=fun x y s t hx hy h=>by
 unfold JI at h
 simp only[aaq,Ps,adD,true_and] at h
 obtain⟨e1,h⟩:=h
 obtain⟨e2,hz⟩:=xe _ _ _ _ hx hy h
 obtain⟨a,l⟩:=x
 obtain⟨a',l'⟩:=y
 simp only at e1 e2
 subst e2
 refine⟨?_,hz⟩
 cases a<;>cases a'<;>first | rfl | (simp at e1)
theorem VJ:PX (fun x:Ex=>(l9 x.nm=0∧0≤x.kind∧x.kind≤3)∧0≤x.ix∧x.ix<4294967296) JK:=fun x y s t hx hy h=>by
 unfold JK at h
 simp only[vt] at h
 obtain⟨e1,h⟩:=FK _ _ _ _ hx.1.1 hy.1.1 h
 simp only[aaq,Ps,adD] at h
 obtain⟨e2,h⟩:=h
 obtain⟨e3,hz⟩:=ko _ _ _ _ hx.2 hy.2 h
 have a:=hx.1;have b:=hy.1
 have e2:x.kind=y.kind:=by omega
 cases x;cases y
 simp only at e1 e2 e3
 exact⟨by rw[e1,e2,e3],hz⟩
theorem VK:PX (fun x:El=>Zj x.l∧x.fs.length≤1000000 ∧ ∀t∈x.fs,0≤t∧t<4294967296) JL:=fun x y s t hx hy h=>by
 unfold JL at h
 simp only[vt,aaq,Ps,adD,true_and] at h
 obtain⟨e1,h⟩:=xe _ _ _ _ hx.1 hy.1 h
 have l1:=hx.2.1;have l2:=hy.2.1
 obtain⟨e2,hz⟩:=Nx (p:=fun n:Int=>0≤n∧n<4294967296) ko x.fs y.fs s t (by omega) (by omega) hx.2.2 hy.2.2 h
 cases x;cases y
 simp only at e1 e2
 exact⟨by rw[e1,e2],hz⟩
theorem VL:PX (fun x:Da=>Zj x.l∧x.bs.length≤1000000 ∧ ∀t∈x.bs,0≤t) JM:=fun x y s t hx hy h=>by
 unfold JM at h
 simp only[vt,aaq,Ps,adD,true_and] at h
 obtain⟨e1,h⟩:=xe _ _ _ _ hx.1 hy.1 h
 have l1:=hx.2.1;have l2:=hy.2.1
 obtain⟨e2,h⟩:=tC _ _ _ _ (by show 0≤(x.bs.length:Int)∧_<_;omega) (by show 0≤(y.bs.length:Int)∧_<_;omega) h
 obtain⟨e3,hz⟩:=adz h (by rw[ov,ov];omega)
 have inj : ∀l m:List Int,(∀t∈l,0≤t)→(∀t∈m,0≤t)→l.map Int.toNat=m.map Int.toNat→l=m:=by
  intro l
  induction l with
  |nil=>intro m _ _ h;cases m with
   |nil=>rfl
   |cons=>cases h
  |cons a l ih=>
   intro m ha hb h
   cases m with
   |nil=>cases h
   |cons b m=>
    simp only[uv,adD] at h
    have h1:=ha a (.head _)
    have h2:=hb b (.head _)
    rw[show a=b by omega,ih m (fun t ht=>ha t (.tail _ ht)) (fun t ht=>hb t (.tail _ ht)) h.2]
 have e3:=inj _ _ hx.2.2 hy.2.2 e3
 cases x;cases y
 simp only at e1 e3
 exact⟨by rw[e1,e3],hz⟩
def eC (q:Int×List Ins):List Nat:=eV (wg q.1 q.2).length++wg q.1 q.2
theorem Zk:PX (fun q:Int×List Ins=>0≤q.1∧q.1≤50000∧Zj q.2∧(wg q.1 q.2).length<4294967296) eC:=fun x y s t hx hy h=>by
 unfold eC at h
 rw[vt,vt] at h
 have l1:=hx.2.2.2;have l2:=hy.2.2.2
 obtain⟨e,h⟩:=tC _ _ _ _ (by show 0≤((wg x.1 x.2).length:Int)∧_<_;omega) (by show 0≤((wg y.1 y.2).length:Int)∧_<_;omega) h
 obtain⟨e1,e2⟩:=adz h (by omega)
 refine⟨?_,e2⟩
 have px:NV x.1 x.2=0:=by unfold NV;rw[if_neg (by have:=hx.1;have:=hx.2.1;omega)];exact hx.2.2.1.1
 have py:NV y.1 y.2=0:=by unfold NV;rw[if_neg (by have:=hy.1;have:=hy.2.1;omega)];exact hy.2.2.1.1
 unfold wg at e1
 rw[if_pos px,if_pos py] at e1
 obtain⟨a,l⟩:=x
 obtain⟨b,m⟩:=y
 have h1:0≤a∧a≤50000:=⟨hx.1,hx.2.1⟩
 have h2:0≤b∧b≤50000:=⟨hy.1,hy.2.1⟩
 simp only at e1
 by_cases za:a=0<;>by_cases zb:b=0
 · rw[if_pos za,if_pos zb] at e1
   obtain⟨e3,_⟩:=xe l m [] [] hx.2.2.1 hy.2.2.1 (by simpa using e1)
   rw[za,zb,e3]
 · rw[if_pos za,if_neg zb] at e1
   simp at e1
 · rw[if_neg za,if_pos zb] at e1
   simp at e1
 · rw[if_neg za,if_neg zb] at e1
   simp only[aaq,adD,true_and,vt] at e1
   obtain⟨e3,e4⟩:=ko a b ([127]++pz l) ([127]++pz m) (by show 0≤a∧a<_;omega) (by show 0≤b∧b<_;omega) e1
   obtain⟨e5,_⟩:=xe l m [] [] hx.2.2.1 hy.2.2.1 (by simpa using e4)
   rw[e3,e5]
theorem xg {α:Type} {e:α→List Nat} {x:α} : ∀{l:List α},x∈l→(e x).length≤(l.flatMap e).length
 |y::l,h=>by
  rw[ac2,dT]
  rcases Hk.1 h with rfl | h
  · omega
  · have:=xg (e:=e) h
    omega
theorem ug {α β:Type} (g:α→β) (e:β→List Nat) (l:List α):nZ (l.map g) e=nZ l fun x=>e (g x):=by
 unfold nZ
 rw[ov,List.flatMap_map]
theorem Hl : ∀l m:List Fu,l.map Fu.ty=m.map Fu.ty→l.map (fun x=>(x.lo,x.l))=m.map (fun x=>(x.lo,x.l))→l=m
 |[],[],_,_=>rfl
 |[],_::_,h,_=>by cases h
 |_::_,[],h,_=>by cases h
 |x::l,y::m,h,k=>by
  simp only[uv,adD,Prod.mk.injEq] at h k
  rw[Hl l m h.2 k.2]
  cases x;cases y
  simp only at h k
  rw[h.1,k.1.1,k.1.2]
theorem Q0 {M N:Mo} (hM:Jt M) (hN:Jt N) (lM:(gW M).length≤1048576) (lN:(gW N).length≤1048576) (h:gW M=gW N):M=N:=by
 have e:gT M 1 11=gT N 1 11:=adB h
 have tl : ∀M:Mo,(gT M 1 11).length≤(gW M).length:=fun M=>by unfold gW qV gT;rw[dT];omega
 have S:=D1 M N 11 1 (cp (tl M) lM) (cp (tl N) lN) e
 obtain⟨a1,a2,a3,a4,a5,a6,a7,a8,a9⟩:=hM.cj.len
 obtain⟨b1,b2,b3,b4,b5,b6,b7,b8,b9⟩:=hN.cj.len
 have s1:=iG VF M.tys N.tys (by omega) (by omega) hM.tys hN.tys (S 1 (by decide) (by decide))
 have s2:=iG VG M.aZ N.aZ (by omega) (by omega) hM.aZ hN.aZ (S 2 (by decide) (by decide))
 have s3:M.fns.map Fu.ty=N.fns.map Fu.ty:=by
  have k:nZ M.fns JG=nZ N.fns JG:=S 3 (by decide) (by decide)
  refine iG (p:=fun n:Int=>0≤n∧n<4294967296) tC _ _ (by rw[ov];omega) (by rw[ov];omega) (fun n hn=> ?_) (fun n hn=> ?_) ?_
  · obtain⟨x,hx,rfl⟩:=fi.1 hn;exact⟨(hM.fns x hx).1,(hM.fns x hx).2.1⟩
  · obtain⟨x,hx,rfl⟩:=fi.1 hn;exact⟨(hN.fns x hx).1,(hN.fns x hx).2.1⟩
  · rw[ug,ug];exact k
 have s4:=iG VH M.dh N.dh (by omega) (by omega) (fun x hx=>⟨hM.dh x hx,hM.cj.dh x hx⟩) (fun x hx=>⟨hN.dh x hx,hN.cj.dh x hx⟩) (S 4 (by decide) (by decide))
 have s5:=iG (e:=M6) (ND 65536) M.dw N.dw (by omega) (by omega) (fun x hx=>⟨hM.dw x hx,hM.cj.dw x hx⟩) (fun x hx=>⟨hN.dw x hx,hN.cj.dw x hx⟩) (S 5 (by decide) (by decide))
 have s6:=iG VI M.gls N.gls (by omega) (by omega) (fun x hx=>⟨hM.gls x hx,hM.cj.gls x hx⟩) (fun x hx=>⟨hN.gls x hx,hN.cj.gls x hx⟩) (S 6 (by decide) (by decide))
 have s7:=iG VJ M.exs N.exs (by omega) (by omega) (fun x hx=>⟨hM.exs x hx,(hM.cj.exs x hx).2⟩) (fun x hx=>⟨hN.exs x hx,(hN.cj.exs x hx).2⟩) (S 7 (by decide) (by decide))
 have s8:M.st=N.st∧M.sn=N.sn:=by
  have k:(if M.st=true then eU M.sn else[])=(if N.st=true then eU N.sn else[]):=S 8 (by decide) (by decide)
  have p1:=FI M.sn
  have p2:=FI N.sn
  cases x:M.st<;>cases y:N.st<;>rw[x,y] at k<;>simp only[if_true,if_false,pn] at k
  · exact⟨rfl,by rw[hM.sn x,hN.sn y]⟩
  · rw[←k] at p2;simp at p2
  · rw[k] at p1;simp at p1
  · exact⟨rfl,(ko M.sn N.sn [] [] hM.cj.sn hN.cj.sn (by rw[k])).1⟩
 have s9:=iG VK M.els N.els (by omega) (by omega) (fun x hx=>⟨⟨hM.els x hx,(hM.cj.els x hx).1,(hM.cj.els x hx).2.1⟩,(hM.cj.els x hx).2.2⟩) (fun x hx=>⟨⟨hN.els x hx,(hN.cj.els x hx).1,(hN.cj.els x hx).2.1⟩,(hN.cj.els x hx).2.2⟩) (S 9 (by decide) (by decide))
 have cl : ∀(M:Mo),Jt M→(gW M).length≤1048576→sec M 10=nZ M.fns BR → ∀x∈M.fns,(wg x.lo x.l).length<4294967296:=by
  intro M hM lM _ x hx
  have k1:(sec M 10).length≤(gx M 10).length:=by
   unfold gx
   split
   · omega
   · simp only[dT];omega
  have k2:(gx M 10).length≤(gW M).length:=by
   unfold gW qV
   rw[dT]
   have:(gx M 10).length≤((xb 1 11).flatMap (gx M)).length:=xg (by decide)
   omega
  have k3:(BR x).length≤(sec M 10).length:=by
   show _≤(nZ M.fns BR).length
   unfold nZ
   rw[if_neg (by have:=ady hx;omega),dT]
   have:=xg (e:=BR) hx
   omega
  have k4:(wg x.lo x.l).length≤(BR x).length:=by unfold BR;rw[dT];omega
  omega
 have s10:M.fns.map (fun x=>(x.lo,x.l))=N.fns.map (fun x=>(x.lo,x.l)):=by
  have k:nZ M.fns BR=nZ N.fns BR:=S 10 (by decide) (by decide)
  refine iG Zk _ _ (by rw[ov];omega) (by rw[ov];omega) (fun n hn=> ?_) (fun n hn=> ?_) ?_
  · obtain⟨x,hx,rfl⟩:=fi.1 hn
    exact⟨(hM.fns x hx).2.2.1,(hM.fns x hx).2.2.2.1,⟨(hM.fns x hx).2.2.2.2,(hM.cj.fns x hx).1,(hM.cj.fns x hx).2⟩,cl M hM lM rfl x hx⟩
  · obtain⟨x,hx,rfl⟩:=fi.1 hn
    exact⟨(hN.fns x hx).2.2.1,(hN.fns x hx).2.2.2.1,⟨(hN.fns x hx).2.2.2.2,(hN.cj.fns x hx).1,(hN.cj.fns x hx).2⟩,cl N hN lN rfl x hx⟩
  · rw[ug,ug];exact k
 have s11:=iG VL M.aY N.aY (by omega) (by omega) (fun x hx=>⟨⟨(hM.aY x hx).1,(hM.cj.aY x hx).1,(hM.cj.aY x hx).2.1⟩,(hM.cj.aY x hx).2.2⟩) (fun x hx=>⟨⟨(hN.aY x hx).1,(hN.cj.aY x hx).1,(hN.cj.aY x hx).2.1⟩,(hN.cj.aY x hx).2.2⟩) (S 11 (by decide) (by decide))
 have s12:=Hl _ _ s3 s10
 obtain⟨t1,t2⟩:=s8
 cases M;cases N
 simp only at s1 s2 s12 s4 s5 s6 s7 t1 t2 s9 s11
 subst s1 s2 s12 s4 s5 s6 s7 t1 t2 s9 s11
 rfl
end Go.Proofs.YtncncijedmfpjaaGreatDoor.N
end
section
set_option linter.unusedSimpArgs false
set_option linter.unusedVariables false
namespace Go.Proofs.YtncncijedmfpjaaGreatDoor.N
open Go Go.Am
end Go.Proofs.YtncncijedmfpjaaGreatDoor.N
end
section
namespace Go.Am
open Go.RowKit
section
variable {P:Program} {E:Env} {g:Gh} {m:Mem} {w:World}
def FZ (a b:AV):Prop:= ∀(g:Gh) (w:World) (v:Value),VA g w a v→VA g w b v
theorem FZ.refl (a:AV):FZ a a:=fun _ _ _ h=>h
theorem FZ.os {tok:Option Nat} {n z:Nat} {cs:List PV}:FZ (.os tok n z cs) (.p (.ps n z cs)):=fun g w v hv=>by
 cases hv with
 |os _ _ _ _ a cap h _=>exact .p _ _ h
theorem FZ.nil {tok:Option Nat} {z:Nat} {y:PV} (h:JD (.ps 0 z []) y):FZ (.os tok 0 z []) (.p y):=fun g w v hv=>by
 cases hv with
 |os _ _ _ _ a cap hv _=>exact .p _ _ (h _ _ _ hv)
theorem fzs {l l':List AV} (h:bI FZ l l') (g:Gh) (w:World) : ∀{vs:List Value},cY g w l vs→cY g w l' vs:=by
 induction l generalizing l' with
 |nil=>intro vs hv;cases l' with
  |nil=>exact hv
  |cons _ _=>exact h.elim
 |cons a l ih=>intro vs hv;cases l' with
  |nil=>exact h.elim
  |cons b l'=>cases vs with
   |nil=>exact hv.elim
   |cons v vs=>exact⟨h.1 g w v hv.1,ih h.2 hv.2⟩
theorem Rel.Q1 (h:Rel g m w) {i:Nat} {l l':List AV} (hb:m[i]? = some (.ac l)) (hl : ∀vs,cY g w l vs→cY g w l' vs) :
  Rel g (m.set i (.ac l')) w∧dm g m w g (m.set i (.ac l')) w:=by
 have own : ∀(j:Nat) (x:aN),(m.set i (.ac l'))[j]? = some x→x.cP=true → ∃y:aN,m[j]? = some y∧y.cP=true:=fun j x hj ho=>by
  rcases aD hj with⟨rfl,_⟩ | ⟨_,q⟩
  · exact⟨_,hb,rfl⟩
  · exact⟨x,q,ho⟩
 refine⟨⟨fun j hj=>h.sw j (by simpa using hj),fun j hj=> ?_,fun j x cs hj hx=> ?_,fun j c hj hc=> ?_,fun j q x x' c hj hq ho ho' hc eB=> ?_,h.there,fun j k1 l1 hj=> ?_⟩,
  ⟨dd _,fun _ _ _=>rfl,fun _ _ p=>⟨p,rfl⟩,fun _ _ p=> .inl p,fun c ho=> ?_,rfl,rfl,rfl⟩⟩
 · rcases aD hj with⟨_,q⟩ | ⟨_,q⟩
   · cases q
   · exact h.free j q
 · rcases aD hj with⟨rfl,rfl⟩ | ⟨_,q⟩
   · simp only[aN.cells?,Option.some.injEq] at hx
     subst hx
     obtain⟨c',cs',e,q,k1,k2,k3,k4,k5⟩:=h.cells _ _ _ hb rfl
     exact⟨c',cs',e,q,k1,k2,k3,⟨hl _ k4.1,k4.2⟩,k5⟩
   · exact h.cells j x cs q hx
 · rcases aD hj with⟨_,q⟩ | ⟨_,q⟩
   · cases q
   · exact h.tok j c q hc
 · obtain⟨y,y1,y2⟩:=own j x hj ho
   obtain⟨z,z1,z2⟩:=own q x' hq ho'
   exact h.inj j q y z c y1 z1 y2 z2 hc eB
 · rcases aD hj with⟨_,q⟩ | ⟨_,q⟩
   · cases q
   · exact h.obs j k1 l1 q
 · obtain⟨j,x,hj,hx,hc⟩:=ho
   obtain⟨y,y1,y2⟩:=own j x hj hx
   exact .inl ⟨j,y,y1,y2,hc⟩
theorem D2 {ρ:Nat→Option Nat} : ∀(tm:qK),tm.map (fun p=>(p.1,iI ρ p.2))=tm → ∀k,iI ρ (look tm k)=look tm k
 |[],_,_=>rfl
 |(j,v)::r,h,k=>by
  simp only[uv,adD,Prod.mk.injEq,true_and] at h
  unfold look
  cases Nat.beq j k with
  |true=>exact h.1
  |false=>exact D2 r h.2 k
theorem bD.told {c:cg} {a:List PV} {z l l':List AV} {r:Mem} {o:Out} (hm:c.st.mem = .pc a :: .ac z :: .ac l::r) (hf:c.st.fix=0) (hr:c.st.bZ = .call) (hk:c.st.cJ=[]) (hc:rN c=true)
  (hl:bI FZ l l') (hz:eE (idx [0,1,2]) z=z) (hl':eE (idx [0,1,2]) l'=l') (ht:c.st.tm.map (fun p=>(p.1,iI (idx [0,1,2]) p.2))=c.st.tm)
  (h:bD P E {c with st:={c.st with mem:=[.pc a,.ac z,.ac l']}} o):bD P E c o:=by
 refine bD.br (fun g fr w AP cs=> ?_) h
 obtain⟨f,todo,st⟩:=c
 obtain⟨tm,nt,mem,fix,cJ,bZ⟩:=st
 dsimp only at hm hf hr hk ht
 subst hm hf hr hk
 match todo,hc with
 |.code j x::k,_=>
  obtain⟨b,at',q1,q2,q3,q4,q5,q6⟩:=AP
  obtain⟨n1,n2⟩:=q5.rel.Q1 (i:=2) rfl fun vs hv=>fzs hl g w hv
  obtain⟨p1,p2⟩:=n1.pack (ord:=[0,1,2]) (by decide)
  have hmem:Am.pack ((aN.pc a :: .ac z :: .ac l::r).set 2 (.ac l')) [0,1,2]=[.pc a,.ac z,.ac l']:=by
   show[fq (idx [0,1,2]) (.pc a),fq (idx [0,1,2]) (.ac z),fq (idx [0,1,2]) (.ac l')]=_
   simp only[fq,hz,hl']
  rw[hmem] at p1 p2
  have hs:dm g (aN.pc a :: .ac z :: .ac l::r) w (g.pack [0,1,2]) [.pc a,.ac z,.ac l'] w:=n2.trans ⟨dd _,fun _ _ _=>rfl,fun _ _ p=>⟨p,rfl⟩,fun _ _ p=> .inl p,fun c ho=> .inl (p2 c ho),rfl,rfl,rfl⟩
  refine⟨g.pack [0,1,2],fr,w,Steps.refl _ _,⟨b,at',q1,q2,q3,?_,⟨fun k=> ?_,q5.nt,p1,Nat.zero_le _,q5.dS.mono fun _ _ p=>⟨p,rfl⟩⟩,q6⟩,hs,fun _ _ hk _=>absurd hk (Nat.not_lt_zero _),rfl,rfl,rfl⟩
  · show bI _ [] at'.defers
    have q4:bI _ [] at'.defers:=q4
    cases hd:at'.defers with
    |nil=>trivial
    |cons _ _=>rw[hd] at q4;exact q4.elim
  · have:=(q5.tm k).iI (dn.pack g [0,1,2])
    rwa [D2 tm ht k] at this
end
end Go.Am
end
section
set_option linter.unusedSimpArgs false
set_option linter.unusedVariables false
namespace Go.Proofs.YtncncijedmfpjaaGreatDoor.N
open Go Go.Am
structure _root_.Go.Am.Mo.VM (M:Mo):Prop where
 fns : ∀x∈M.fns,cZ x.l≤1000000
 gls : ∀x∈M.gls,cZ x.l≤1000000
 els : ∀x∈M.els,cZ x.l≤1000000∧x.fs.length≤1000000
 aY : ∀x∈M.aY,cZ x.l≤1000000∧x.bs.length≤1000000
def ZZ (a b:AV):Prop:= ∀(g:Gh) (w:World) (v:Value),VA g w a v→VA {g with bL:=fun _=>none} w b v
theorem ZZ.p {x y:PV} (h:JD x y):ZZ (.p x) (.p y):=fun g w v hv=>by
 cases hv with
 |p _ _ hv=>exact .p _ _ (VP.mono (g:=g) (g':={g with bL:=fun _=>none}) (w:=w) (w':=w) (fun _ _ q=>⟨q,rfl⟩) (h _ _ _ hv))
theorem ZZ.os {tok:Option Nat} {n z:Nat} {cs:List PV} {y:PV} (h:JD (.ps n z cs) y):ZZ (.os tok n z cs) (.p y):=fun g w v hv=>by
 cases hv with
 |os _ _ _ _ a cap hv _=>exact .p _ _ (VP.mono (g:=g) (g':={g with bL:=fun _=>none}) (w:=w) (w':=w) (fun _ _ q=>⟨q,rfl⟩) (h _ _ _ hv))
theorem Ho {M:Mo} (h:iy M=false):M.VM:=by
 unfold iy at h
 split at h
 · cases h
 rename_i q
 have h : ¬Dl M>5000:=by simpa using h
 have q:lens M≤5000:=by omega
 have q':=q
 unfold lens at q'
 have r1:=bM wT M.fns (lens M)
 have r2:=bM wU M.gls (bE lu (lens M) M.fns)
 have r3:=bM wV M.els (bE nW (bE lu (lens M) M.fns) M.gls)
 have r4:=bM wW M.aY (bE rW (bE nW (bE lu (lens M) M.fns) M.gls) M.els)
 have r5:=bM zV M.aZ (bE zU (bE rW (bE nW (bE lu (lens M) M.fns) M.gls) M.els) M.aY)
 have r6:=bM Dk M.exs (bE IJ (bE zU (bE rW (bE nW (bE lu (lens M) M.fns) M.gls) M.els) M.aY) M.aZ)
 unfold Dl at h
 have hl:0≤lens M:=by unfold lens;omega
 have cnt : ∀l:List Ins,cS l 5000 0≤5000→cZ l≤1000000:=fun l hl=>by
  have:=nu l 5000 0 (by decide) (by decide) hl
  omega
 have rng : ∀l:List Ins,0≤cS l 5000 0:=fun l=>(cq l 5000 0 (by decide) (by decide) (by decide)).1
 refine⟨fun x hx=> ?_,fun x hx=> ?_,fun x hx=> ?_,fun x hx=> ?_⟩
 · have:=gQ wT M.fns (lens M) x hx
   exact cnt _ (by have e:lu x=cS x.l 5000 0:=rfl;omega)
 · have:=gQ wU M.gls (bE lu (lens M) M.fns) x hx
   exact cnt _ (by have e:nW x=cS x.l 5000 0:=rfl;omega)
 · have:=gQ wV M.els (bE nW (bE lu (lens M) M.fns) M.gls) x hx
   have e:rW x=cS x.l 5000 0+min (x.fs.length:Int) 5000:=rfl
   have hp:0<M.els.length:=ady hx
   have:=rng x.l
   have hs:1≤lens M:=by unfold lens;omega
   exact⟨cnt _ (by omega),by omega⟩
 · have:=gQ wW M.aY (bE rW (bE nW (bE lu (lens M) M.fns) M.gls) M.els) x hx
   have e:zU x=cS x.l 5000 0+min (x.bs.length:Int) 5000:=rfl
   have hp:0<M.aY.length:=ady hx
   have:=rng x.l
   have hs:1≤lens M:=by unfold lens;omega
   exact⟨cnt _ (by omega),by omega⟩
end Go.Proofs.YtncncijedmfpjaaGreatDoor.N
end
