import Derived.Test.YtncncijedmfpjaaGreatDoorMU
open Go.Proofs.Tryz renaming prog→ae
open Int renaming eq_ofNat_of_zero_le→alR,toNat_natCast→afm
open List renaming length_append→dC,length_cons→ml,length_nil→aeK,map_append→aeJ,map_cons→s0,take_of_length_le→ea,map_nil→ta,append_assoc→tl,append_nil→Hc,length_map→my,nil_append→Hm,drop_zero→aeI,map_take→al4,take→aeQ,map→aeM
open Bool renaming and_eq_true→di,and_true→ajQ,true_and→ajX
open Nat renaming le_refl→c9,zero_add→pn,mul_one→ajS,ble_eq→ajp,beq_eq→fi
open True renaming intro→akX
noncomputable section
section
set_option linter.unusedSimpArgs false
set_option linter.unusedVariables false
namespace Go.Proofs.YtncncijedmfpjaaGreatDoor.N
open Go Go.Am
theorem No {M:Mo} (h:M.dB) (h0:(sec M 1).length=0):az ae bO 18 [.agg (mV M),sI .i64 ((1:Nat):Int)] [] (.os none 0 0 []) []:=by
 refine aa aH (fX M 1 34 0 []) ?_
 unfold gN
 exact⟨by kernel_rfl,by kernel_rfl,by kernel_rfl,(GX h).1 h0,rfl⟩
theorem Np {M:Mo} (h:M.dB) (h0:(sec M 1).length≠0):az ae bO 18 [.agg (mV M),sI .i64 ((1:Nat):Int)] [] (.ms 0 0 (sec M 1).length 1 none) [gB (sec M 1)]:=by
 refine aa aH (fY M 1 34 (sec M 1).length (bt (sec M 1))) ?_
 unfold gO
 simp only[bE]
 exact⟨by kernel_rfl,by kernel_rfl,by kernel_rfl,(GX h).2 h0,rfl⟩
theorem Nq {M:Mo} (h:M.dB) (h0:(sec M 2).length=0):az ae bO 18 [.agg (mV M),sI .i64 ((2:Nat):Int)] [] (.os none 0 0 []) []:=by
 refine aa aH (fX M 2 35 0 []) ?_
 unfold gN
 exact⟨by kernel_rfl,by kernel_rfl,by kernel_rfl,(GY h).1 h0,rfl⟩
theorem Nr {M:Mo} (h:M.dB) (h0:(sec M 2).length≠0):az ae bO 18 [.agg (mV M),sI .i64 ((2:Nat):Int)] [] (.ms 0 0 (sec M 2).length 1 none) [gB (sec M 2)]:=by
 refine aa aH (fY M 2 35 (sec M 2).length (bt (sec M 2))) ?_
 unfold gO
 simp only[bE]
 exact⟨by kernel_rfl,by kernel_rfl,by kernel_rfl,(GY h).2 h0,rfl⟩
theorem Ns {M:Mo} (h:M.dB) (h0:(sec M 3).length=0):az ae bO 18 [.agg (mV M),sI .i64 ((3:Nat):Int)] [] (.os none 0 0 []) []:=by
 refine aa aH (fX M 3 36 0 []) ?_
 unfold gN
 exact⟨by kernel_rfl,by kernel_rfl,by kernel_rfl,(GZ h).1 h0,rfl⟩
theorem Nt {M:Mo} (h:M.dB) (h0:(sec M 3).length≠0):az ae bO 18 [.agg (mV M),sI .i64 ((3:Nat):Int)] [] (.ms 0 0 (sec M 3).length 1 none) [gB (sec M 3)]:=by
 refine aa aH (fY M 3 36 (sec M 3).length (bt (sec M 3))) ?_
 unfold gO
 simp only[bE]
 exact⟨by kernel_rfl,by kernel_rfl,by kernel_rfl,(GZ h).2 h0,rfl⟩
theorem Nu {M:Mo} (h:M.dB) (h0:(sec M 4).length=0):az ae bO 18 [.agg (mV M),sI .i64 ((4:Nat):Int)] [] (.os none 0 0 []) []:=by
 refine aa aH (fX M 4 37 0 []) ?_
 unfold gN
 exact⟨by kernel_rfl,by kernel_rfl,by kernel_rfl,(G0 h).1 h0,rfl⟩
theorem Nv {M:Mo} (h:M.dB) (h0:(sec M 4).length≠0):az ae bO 18 [.agg (mV M),sI .i64 ((4:Nat):Int)] [] (.ms 0 0 (sec M 4).length 1 none) [gB (sec M 4)]:=by
 refine aa aH (fY M 4 37 (sec M 4).length (bt (sec M 4))) ?_
 unfold gO
 simp only[bE]
 exact⟨by kernel_rfl,by kernel_rfl,by kernel_rfl,(G0 h).2 h0,rfl⟩
theorem Nw {M:Mo} (h:M.dB) (h0:(sec M 5).length=0):az ae bO 18 [.agg (mV M),sI .i64 ((5:Nat):Int)] [] (.os none 0 0 []) []:=by
 refine aa aH (fX M 5 38 0 []) ?_
 unfold gN
 exact⟨by kernel_rfl,by kernel_rfl,by kernel_rfl,(G1 h).1 h0,rfl⟩
theorem Nx {M:Mo} (h:M.dB) (h0:(sec M 5).length≠0):az ae bO 18 [.agg (mV M),sI .i64 ((5:Nat):Int)] [] (.ms 0 0 (sec M 5).length 1 none) [gB (sec M 5)]:=by
 refine aa aH (fY M 5 38 (sec M 5).length (bt (sec M 5))) ?_
 unfold gO
 simp only[bE]
 exact⟨by kernel_rfl,by kernel_rfl,by kernel_rfl,(G1 h).2 h0,rfl⟩
theorem Ny {M:Mo} (h:M.dB) (h0:(sec M 6).length=0):az ae bO 18 [.agg (mV M),sI .i64 ((6:Nat):Int)] [] (.os none 0 0 []) []:=by
 refine aa aH (fX M 6 39 0 []) ?_
 unfold gN
 exact⟨by kernel_rfl,by kernel_rfl,by kernel_rfl,(G2 h).1 h0,rfl⟩
theorem Nz {M:Mo} (h:M.dB) (h0:(sec M 6).length≠0):az ae bO 18 [.agg (mV M),sI .i64 ((6:Nat):Int)] [] (.ms 0 0 (sec M 6).length 1 none) [gB (sec M 6)]:=by
 refine aa aH (fY M 6 39 (sec M 6).length (bt (sec M 6))) ?_
 unfold gO
 simp only[bE]
 exact⟨by kernel_rfl,by kernel_rfl,by kernel_rfl,(G2 h).2 h0,rfl⟩
theorem NA {M:Mo} (h:M.dB) (h0:(sec M 7).length=0):az ae bO 18 [.agg (mV M),sI .i64 ((7:Nat):Int)] [] (.os none 0 0 []) []:=by
 refine aa aH (fX M 7 40 0 []) ?_
 unfold gN
 exact⟨by kernel_rfl,by kernel_rfl,by kernel_rfl,(G3 h).1 h0,rfl⟩
theorem NB {M:Mo} (h:M.dB) (h0:(sec M 7).length≠0):az ae bO 18 [.agg (mV M),sI .i64 ((7:Nat):Int)] [] (.ms 0 0 (sec M 7).length 1 none) [gB (sec M 7)]:=by
 refine aa aH (fY M 7 40 (sec M 7).length (bt (sec M 7))) ?_
 unfold gO
 simp only[bE]
 exact⟨by kernel_rfl,by kernel_rfl,by kernel_rfl,(G3 h).2 h0,rfl⟩
theorem NC {M:Mo} (h:M.dB) (h0:(sec M 8).length=0):az ae bO 18 [.agg (mV M),sI .i64 ((8:Nat):Int)] [] (.os none 0 0 []) []:=by
 refine aa aH (fX M 8 41 0 []) ?_
 unfold gN
 exact⟨by kernel_rfl,by kernel_rfl,by kernel_rfl,(Lg h).1 h0,rfl⟩
theorem ND {M:Mo} (h:M.dB) (h0:(sec M 8).length≠0):az ae bO 18 [.agg (mV M),sI .i64 ((8:Nat):Int)] [] (.ms 0 0 (sec M 8).length 1 none) [gB (sec M 8)]:=by
 refine aa aH (fY M 8 41 (sec M 8).length (bt (sec M 8))) ?_
 unfold gO
 simp only[bE]
 exact⟨by kernel_rfl,by kernel_rfl,by kernel_rfl,(Lg h).2 h0,rfl⟩
theorem NF {M:Mo} (h:M.dB) (h0:(sec M 9).length=0):az ae bO 18 [.agg (mV M),sI .i64 ((9:Nat):Int)] [] (.os none 0 0 []) []:=by
 refine aa aH (fX M 9 42 0 []) ?_
 unfold gN
 exact⟨by kernel_rfl,by kernel_rfl,by kernel_rfl,(G4 h).1 h0,rfl⟩
theorem NG {M:Mo} (h:M.dB) (h0:(sec M 9).length≠0):az ae bO 18 [.agg (mV M),sI .i64 ((9:Nat):Int)] [] (.ms 0 0 (sec M 9).length 1 none) [gB (sec M 9)]:=by
 refine aa aH (fY M 9 42 (sec M 9).length (bt (sec M 9))) ?_
 unfold gO
 simp only[bE]
 exact⟨by kernel_rfl,by kernel_rfl,by kernel_rfl,(G4 h).2 h0,rfl⟩
theorem Jq {M:Mo} (h:M.dB) (h0:(sec M 10).length=0):az ae bO 18 [.agg (mV M),sI .i64 ((10:Nat):Int)] [] (.os none 0 0 []) []:=by
 refine aa aH (fX M 10 43 0 []) ?_
 unfold gN
 exact⟨by kernel_rfl,by kernel_rfl,by kernel_rfl,(G5 h).1 h0,rfl⟩
theorem Jr {M:Mo} (h:M.dB) (h0:(sec M 10).length≠0):az ae bO 18 [.agg (mV M),sI .i64 ((10:Nat):Int)] [] (.ms 0 0 (sec M 10).length 1 none) [gB (sec M 10)]:=by
 refine aa aH (fY M 10 43 (sec M 10).length (bt (sec M 10))) ?_
 unfold gO
 simp only[bE]
 exact⟨by kernel_rfl,by kernel_rfl,by kernel_rfl,(G5 h).2 h0,rfl⟩
theorem Js {M:Mo} (h:M.dB) (h0:(sec M 11).length=0):az ae bO 18 [.agg (mV M),sI .i64 ((11:Nat):Int)] [] (.os none 0 0 []) []:=by
 refine aa aH (fX M 11 44 0 []) ?_
 unfold gN
 exact⟨by kernel_rfl,by kernel_rfl,by kernel_rfl,(G6 h).1 h0,rfl⟩
theorem Jt {M:Mo} (h:M.dB) (h0:(sec M 11).length≠0):az ae bO 18 [.agg (mV M),sI .i64 ((11:Nat):Int)] [] (.ms 0 0 (sec M 11).length 1 none) [gB (sec M 11)]:=by
 refine aa aH (fY M 11 44 (sec M 11).length (bt (sec M 11))) ?_
 unfold gO
 simp only[bE]
 exact⟨by kernel_rfl,by kernel_rfl,by kernel_rfl,(G6 h).2 h0,rfl⟩
theorem sQ {M:Mo} (h:M.dB) : ∀{d:Nat},1≤d→d≤11→(sec M d).length=0→az ae bO 18 [.agg (mV M),sI .i64 (d:Int)] [] (.os none 0 0 []) []
 |1,_,_,h0=>No h h0
 |2,_,_,h0=>Nq h h0
 |3,_,_,h0=>Ns h h0
 |4,_,_,h0=>Nu h h0
 |5,_,_,h0=>Nw h h0
 |6,_,_,h0=>Ny h h0
 |7,_,_,h0=>NA h h0
 |8,_,_,h0=>NC h h0
 |9,_,_,h0=>NF h h0
 |10,_,_,h0=>Jq h h0
 |11,_,_,h0=>Js h h0
 |0,h1,_,_=>absurd h1 (by decide)
 |d+12,_,h2,_=>absurd h2 (by omega)
theorem zw {M:Mo} (h:M.dB) : ∀{d:Nat},1≤d→d≤11→(sec M d).length≠0→az ae bO 18 [.agg (mV M),sI .i64 (d:Int)] [] (.ms 0 0 (sec M d).length 1 none) [gB (sec M d)]
 |1,_,_,h0=>Np h h0
 |2,_,_,h0=>Nr h h0
 |3,_,_,h0=>Nt h h0
 |4,_,_,h0=>Nv h h0
 |5,_,_,h0=>Nx h h0
 |6,_,_,h0=>Nz h h0
 |7,_,_,h0=>NB h h0
 |8,_,_,h0=>ND h h0
 |9,_,_,h0=>NG h h0
 |10,_,_,h0=>Jr h h0
 |11,_,_,h0=>Jt h h0
 |0,h1,_,_=>absurd h1 (by decide)
 |d+12,_,h2,_=>absurd h2 (by omega)
theorem SM {M:Mo} (d:Int):(kO M d).length≠0→mH M d=0:=fun h=>by
 unfold kO at h
 split at h
 · assumption
 · exact absurd rfl h
theorem NH {M:Mo} {d:Int} (h:mH M d=0):dZ M=0∧1≤d∧d≤11:=by
 unfold mH at h
 split at h
 · rename_i q;exact absurd h q
 · rename_i q
   split at h
   · cases h
   · exact⟨by omega,by omega,by omega⟩
theorem D7 {M:Mo} (h:M.dB) (hM:M.fit) (hw:M.wf) (hs:M.uq) (d:Int) (h0:(kO M d).length=0):az ae bO 12 [.agg (mV M),sI .i64 d] [] (.aK [.os none 0 0 [],sI .i64 (mH M d)]) []:=by
 have hc:=az.vS (oO M hM hw hs)
 refine aa aH (SI M d (dZ M) 0 []) ?_
 simp only[Le,aV,aA.ok,bne_iff_ne,ne_eq,decide_eq_true_eq,decide_eq_false_iff_not,bne_eq_false_iff_eq]
 unfold mH
 refine⟨hc,fun q=>by rw[if_pos q],fun q=>⟨fun q1=> ?_,fun q1=>⟨fun q2=> ?_,fun q2=>⟨?_,?_⟩⟩⟩⟩
 · rw[if_neg (by omega),if_pos (by omega)]
 · rw[if_neg (by omega),if_pos (by omega)]
 · have e:mH M d=0:=by unfold mH;rw[if_neg (by omega),if_neg (by omega)]
   obtain⟨n,rfl⟩:=alR (show 0≤d by omega)
   unfold kO at h0
   rw[if_pos e,afm] at h0
   exact sQ h (by omega) (by omega) h0
 · rw[if_neg (by omega),if_neg (by omega)]
theorem D8 {M:Mo} (h:M.dB) (hM:M.fit) (hw:M.wf) (hs:M.uq) (d:Int) (h0:(kO M d).length≠0):az ae bO 12 [.agg (mV M),sI .i64 d] [] (.aK [.ms 0 0 (kO M d).length 1 none,sI .i64 (mH M d)]) [gB (kO M d)]:=by
 have hc:=az.vS (oO M hM hw hs)
 have e:=SM d h0
 obtain⟨e1,e2,e3⟩:=NH e
 have er:kO M d=sec M d.toNat:=by unfold kO;rw[if_pos e]
 rw[er] at h0 ⊢
 obtain⟨n,rfl⟩:=alR (show 0≤d by omega)
 rw[afm] at h0 ⊢
 refine aa aH (SJ M n (dZ M) (sec M n).length (bt (sec M n))) ?_
 simp only[Lf,aV,aA.ok,bne_iff_ne,ne_eq,decide_eq_true_eq,decide_eq_false_iff_not,bne_eq_false_iff_eq,bE]
 exact⟨hc,fun q=>absurd e1 q,fun q=>⟨fun q1=>absurd e2 (by omega),fun q1=>⟨fun q2=>absurd e3 (by omega),fun q2=>⟨zw h (by omega) (by omega) h0,by rw[e]⟩⟩⟩⟩
def hbP:List PV:=[.sc (.int .u8 0),.sc (.int .u8 97),.sc (.int .u8 115),.sc (.int .u8 109),.sc (.int .u8 1),.sc (.int .u8 0),.sc (.int .u8 0),.sc (.int .u8 0)]
noncomputable abbrev Yq (M:Mo) (d:Nat):cm:=ah ae bO 7 1 [.mp 0 0,.mp 1 0,sI .i64 d] [.pc M.aJ,.ac [.os none 8 1 hbP]] 0 38
noncomputable abbrev SN (M:Mo) (d k:Nat) (L:List AV):cm:=ah ae bO 7 1 [.mp 0 0,.mp 1 0,sI .i64 d] [.pc M.aJ,.ac [.ms 2 0 k 1 none],.ob (.gb 5) L] 0 38
theorem aif {M:Mo} {d k:Nat} {L:List AV} {o:Out} {X:List Nat} (hk:k=X.length) (hL:L=(bt X).map .p) (h:aU ae bO (SN M d X.length ((bt X).map .p)) o):aU ae bO (SN M d k L) o:=by subst hk;subst hL;exact h
theorem D9 {M:Mo} (h:M.dB) : ∀d,(nB M d).length≤8+d*200000000006
 |0=>by simp[nB,oP]
 |d+1=>by
  have h1:=D9 h d
  have h2:=dh h (d+1)
  have h3:=eg ((sec M (d+1)).length:Int)
  rw[oQ,dC]
  have:(AF M (d+1)).length≤200000000006:=by
   unfold AF
   split
   · simp
   · simp only[dC,ml,aeK];omega
  omega
def Cr (M:Mo):Out:=if(mG M).length>1048576 then .ret (.aK [.os none 0 0 [],sI .i64 3]) [] else .ret (.aK [.ms 0 0 (mG M).length 1 none,sI .i64 0]) [gB (mG M)]
theorem Ju {d:Nat} (h:d≤11):IntKind.u8.wrap (d:Int)=(d:Int):=by rw[wU8];omega
theorem Jv (l:List PV):aeM qw (aeM AV.p l)=l:=by rw[List.map_map];exact List.map_id l
theorem ko : ∀l:List PV,pV (l.map .p)=true
 |[]=>rfl
 |_::l=>ko l
theorem adC {M:Mo} (h:M.dB) : ∀(r d:Nat),d+r=11→aU ae bO (SN M (d+1) (nB M d).length ((bt (nB M d)).map .p)) (Cr M):=by
 have bw:aR=70368744177664:=rfl
 intro r
 induction r with
 |zero=>
  intro d hd
  obtain rfl:d=11:=by omega
  have e:mG M=nB M 11:=rfl
  refine af aH (Cq M 12 (nB M 11).length 0 (bt (nB M 11)) [] jU qU) ?_
  simp only[zu,aV,aA.ok,decide_eq_true_eq,decide_eq_false_iff_not,bE]
  refine⟨fun q=>absurd q (by decide),fun _=>⟨fun q=> ?_,fun q=> ?_⟩⟩
  · unfold Cr;rw[e,if_pos (by omega)]
  · unfold Cr;rw[e,if_neg (by omega)]
 |succ r ih=>
  intro d hd
  have hup:=D9 h d
  have Yr:=oQ M d
  have w:IntKind.i64.wrap (((d+1:Nat):Int)+1)=((d+1+1:Nat):Int):=by rw[aQ (by omega) (by omega)];rfl
  have Xm:decide (((d+1:Nat):Int)≤11)=true:=decide_eq_true (by omega)
  by_cases h0:(sec M (d+1)).length=0
  · have e:nB M (d+1)=nB M d:=by rw[Yr];unfold AF;rw[if_pos h0,Hc]
    have k:=ih (d+1) (by omega)
    rw[e] at k
    refine af aH (Cq M (d+1) (nB M d).length 0 (bt (nB M d)) [] jU qU) ?_
    simp only[zu,aV,aA.ok,Xm,w,bE]
    exact⟨fun _=>⟨sQ h (by omega) (by omega) h0,trivial,k⟩,fun q=>(by cases q)⟩
  · obtain⟨n,hn⟩ : ∃n,(sec M (d+1)).length=n+1:=⟨(sec M (d+1)).length-1,by omega⟩
    have Oy:=dh h (d+1)
    have hv:=gy (IntKind.u32.wrap ((n+1:Nat):Int))
    have e:nB M (d+1)=nB M d++([d+1]++eV ((n+1:Nat):Int)++sec M (d+1)):=by rw[Yr];unfold AF;rw[if_neg h0,hn]
    have hs:=zw h (d:=d+1) (by omega) (by omega) h0
    rw[hn] at hs
    have hp:decide (((n+1:Nat):Int)>0)=true:=decide_eq_true (by omega)
    have ht:aeQ ((n+1)*1) (bt (sec M (d+1)))=bt (sec M (d+1)):=ea (by rw[aT];omega)
    have hz:(bt (sec M (d+1))).length=n+1:=by rw[aT];exact hn
    refine af aH (Nn M (d+1) (nB M d).length n (bt (nB M d)) (bt (sec M (d+1))) jU qU) ?_
    simp only[GV,aV,aA.ok,Xm,w,hp,bE,aeJ,jJ,s0,ta,allBy_append,dy,gx,nD,gH,jA,aeI,←al4,ht,Jv,ko,ajQ,ajX,Ju (show d+1≤11 by omega)]
    simp only[di,ajp,fi,my,aT,dC,ml,aeK,ajS,pn,hz,hn,bw]
    have k:=ih (d+1) (by omega)
    rw[e] at k
    refine⟨fun _=>⟨hs,fun _=>⟨?_,az.vS (iE (eN _)),?_,trivial,?_,trivial,?_⟩,fun q=>(by cases q)⟩,fun q=>(by cases q)⟩
    · exact⟨⟨by omega,by omega⟩,by omega⟩
    · exact⟨⟨by omega,by omega⟩,by omega⟩
    · exact⟨⟨c9 _,by omega,by omega⟩,akX⟩
    · exact aif (by simp only[dC,ml,aeK,hn,eV];omega) (by simp only[aS,bU,cA,aeJ,s0,ta,tl,eV]) k
theorem G7 (M:Mo) (d:Nat) : ∀k,(nB M d).length≤(nB M (d+k)).length
 |0=>c9 _
 |k+1=>by
  have h:=G7 M d k
  rw[show d+(k+1)=d+k+1 from rfl,oQ,dC]
  omega
theorem adD {M:Mo} (h:M.dB) : ∀(r d:Nat),d+r=11→nB M d=oP→(mG M≠oP→aU ae bO (Yq M (d+1)) (Cr M)) ∧
  (mG M=oP→aU ae bO (Yq M (d+1)) (.ret (.aK [.os none 8 1 hbP,sI .i64 0]) [])):=by
 have bw:aR=70368744177664:=rfl
 intro r
 induction r with
 |zero=>
  intro d hd he
  obtain rfl:d=11:=by omega
  refine⟨fun q=>absurd he q,fun _=> ?_⟩
  refine af aH (uw M 12 0 0 [] [] jU qU) ?_
  simp only[sO,aV,aA.ok,decide_eq_true_eq,decide_eq_false_iff_not]
  exact⟨fun q=>absurd q (by decide),fun _=>rfl⟩
 |succ r ih=>
  intro d hd he
  have Yr:=oQ M d
  have w:IntKind.i64.wrap (((d+1:Nat):Int)+1)=((d+1+1:Nat):Int):=by rw[aQ (by omega) (by omega)];rfl
  have Xm:decide (((d+1:Nat):Int)≤11)=true:=decide_eq_true (by omega)
  by_cases h0:(sec M (d+1)).length=0
  · have e:nB M (d+1)=oP:=by rw[Yr];unfold AF;rw[if_pos h0,Hc];exact he
    obtain⟨k1,k2⟩:=ih (d+1) (by omega) e
    refine⟨fun q=> ?_,fun q=> ?_⟩
    · refine af aH (uw M (d+1) 0 0 [] [] jU qU) ?_
      simp only[sO,aV,aA.ok,Xm,w]
      exact⟨fun _=>⟨sQ h (by omega) (by omega) h0,akX,k1 q⟩,fun q=>(by cases q)⟩
    · refine af aH (uw M (d+1) 0 0 [] [] jU qU) ?_
      simp only[sO,aV,aA.ok,Xm,w]
      exact⟨fun _=>⟨sQ h (by omega) (by omega) h0,akX,k2 q⟩,fun q=>(by cases q)⟩
  · obtain⟨n,hn⟩ : ∃n,(sec M (d+1)).length=n+1:=⟨(sec M (d+1)).length-1,by omega⟩
    have Oy:=dh h (d+1)
    have hv:=gy (IntKind.u32.wrap ((n+1:Nat):Int))
    have e:nB M (d+1)=oP++([d+1]++eV ((n+1:Nat):Int)++sec M (d+1)):=by rw[Yr,he];unfold AF;rw[if_neg h0,hn]
    refine⟨fun _=> ?_,fun q=> ?_⟩
    · have hs:=zw h (d:=d+1) (by omega) (by omega) h0
      rw[hn] at hs
      have hp:decide (((n+1:Nat):Int)>0)=true:=decide_eq_true (by omega)
      have ht:aeQ ((n+1)*1) (bt (sec M (d+1)))=bt (sec M (d+1)):=ea (by rw[aT];omega)
      have hz:(bt (sec M (d+1))).length=n+1:=by rw[aT];exact hn
      refine af aH (Nl M (d+1) 0 n [] (bt (sec M (d+1))) jU qU) ?_
      simp only[GU,aA.ok,Xm,w,hp,bE,aeJ,jJ,s0,ta,allBy_append,dy,gx,nD,gH,jA,aeI,←al4,ht,Jv,ko,ajQ,ajX,Ju (show d+1≤11 by omega),List.append_eq,Hm]
      simp only[di,ajp,fi,my,aT,dC,ml,aeK,ajS,pn,hz,hn,bw]
      have k:=adC h r (d+1) (by omega)
      rw[e] at k
      refine⟨fun _=>⟨hs,fun _=>⟨akX,az.vS (iE (eN _)),?_,akX,?_,akX,?_⟩,fun q=>(by cases q)⟩,fun q=>(by cases q)⟩
      · exact⟨by omega,by omega⟩
      · exact⟨⟨c9 _,by omega,by omega⟩,by omega⟩
      · exact aif (by simp only[dC,ml,aeK,hn,eV,oP];omega) (by simp only[aS,bU,cA,aeJ,s0,ta,tl,eV,oP,List.cons_append,Hm];rfl) k
    · have h1:=G7 M (d+1) r
      rw[show d+1+r=11 by omega,show nB M 11=mG M from rfl,q,e] at h1
      simp only[dC,ml] at h1
      omega
theorem az.ofG {f:FuncId} {args:List AV} {m m':Mem} {v:AV} (h:az ae bO f args m v m'):az ae env f args m v m':=h.env fun _ _ q=>q
theorem G8 {M:Mo} (h:M.dB) (hM:M.fit) (hw:M.wf) (hs:M.uq):az ae env 7 [.agg (mV M)] [] (.aK [.p (.ps (kU M).length 1 (bt (kU M))),sI .i64 (nh M)]) []:=by
 have hc:=az.vS (oO M hM hw hs)
 by_cases h0:dZ M=0
 · obtain⟨k1,k2⟩:=adD h 11 0 (by omega) rfl
   by_cases hh:mG M=oP
   · have e:nh M=0:=by unfold nh;rw[if_neg (by omega),if_neg (by rw[hh];decide)]
     have er:kU M=oP:=by unfold kU;rw[if_pos e];exact hh
     rw[e,er]
     refine az.lI (tok:=none) (m':=[]) (az.ofG (aa aH (sN M 0 (dZ M) 0 []) ?_))
     simp only[sM,aV,aA.ok,bne_iff_ne,ne_eq,bne_eq_false_iff_eq]
     exact⟨hc,fun q=>absurd h0 q,fun _=>k2 hh⟩
   · by_cases hl:(mG M).length>1048576
     · have e:nh M=3:=by unfold nh;rw[if_neg (by omega),if_pos hl]
       have er:kU M=[]:=by unfold kU;rw[if_neg (by omega)]
       rw[e,er]
       have k:=k1 hh
       unfold Cr at k
       rw[if_pos hl] at k
       refine az.jw (m':=[]) (az.ofG (aa aH (sN M 0 (dZ M) 0 []) ?_))
       simp only[sM,aV,aA.ok,bne_iff_ne,ne_eq,bne_eq_false_iff_eq]
       exact⟨hc,fun q=>absurd h0 q,fun _=>k⟩
     · have e:nh M=0:=by unfold nh;rw[if_neg (by omega),if_neg hl]
       have er:kU M=mG M:=by unfold kU;rw[if_pos e]
       rw[e,er]
       have k:=k1 hh
       unfold Cr at k
       rw[if_neg hl] at k
       have hd:az ae bO 7 [.agg (mV M)] [] (.aK [.ms 0 0 (mG M).length 1 none,sI .i64 0]) [gB (mG M)]:=by
        refine aa aH (sN M 0 (dZ M) 0 []) ?_
        simp only[sM,aV,aA.ok,bne_iff_ne,ne_eq,bne_eq_false_iff_eq]
        exact⟨hc,fun q=>absurd h0 q,fun _=>k⟩
       exact az.RL (az.ofG hd) (aT _).symm
 · have e:nh M=dZ M:=by unfold nh;rw[if_pos h0]
   have er:kU M=[]:=by unfold kU;rw[if_neg (by omega)]
   rw[e,er]
   refine az.jw (m':=[]) (az.ofG (aa aH (sN M 0 (dZ M) 0 []) ?_))
   simp only[sM,aV,aA.ok,bne_iff_ne,ne_eq,bne_eq_false_iff_eq]
   exact⟨hc,fun _=>(by first | exact akX | rfl),fun q=>absurd q h0⟩
end Go.Proofs.YtncncijedmfpjaaGreatDoor.N
end
