import Derived.Test.YtjfgfhaoeicpdaaGreatDoorMH
import Derived.Test.YtjfgfhaoeicpdaaGreatDoorMK
import Derived.Test.YtjfgfhaoeicpdaaGreatDoorMG
open Go.Proofs.Tryz renaming prog→ab5
open Go.IntKind renaming i64→rn,u32→abb,i32→ae3,u8→ae4
open Nat renaming beq→ae,add_assoc→fg,reduceAdd→ab2,add_zero→ph,eq_of_beq_eq_true→ag,eq_or_lt_of_le→ae5,le_refl→bj
open Go.Fn renaming func→adL
open Go.Value renaming int→sd,bool→ae6
open List renaming flatMap→aeR,getElem?_eq_getElem→bm,take_succ_eq_append_getElem→ae7,getD_cons_zero→ae8,getD_cons_succ→ae9,length_eq_zero_iff→na,getElem_mem→dE,flatMap_append→aeY,flatMap_cons→aeS,flatMap_nil→afa,append_nil→H4,getElem?_eq_some_iff→di,map→abG
open Option renaming some→acx
open Int renaming toNat_natCast→aep
noncomputable section
section
set_option linter.unusedSimpArgs false
set_option linter.unusedVariables false
namespace Go.Proofs.YtjfgfhaoeicpdaaGreatDoor.N
open Go Go.Am
def I1:List (Nat×Nat×List Nat):=[(6,0,[1,3]),(17,0,[1,2,5]),(12,6,[0,1,8,27,28]),(8,8,[1,4,64,65,66]),(8,2,[1,4,22,23,24]),(24,10,[0,67,68,69]),(24,6,[0,6,18,19,20,45,46,47]),(24,0,[0,18,19,20]),(52,0,[1,5,8,9,10]),(55,0,[1,5,8,9,10]),(57,0,[1,5,8,9,10]),(60,0,[1,5,8,9,10]),(92,0,[1,5,8,9,10]),(65,4,[0,1,21,22,23])]
def bn:Env where
 cQ:=pF tabs
 wr:=wrs
 keep:=xT I1
def kQ:PV:= .sc (.pointer none)
def Ml (n most w:Int):Mem:=[.ac [.vm 1,sI .u32 n,sI .u32 most],.ob (.map [] [] 0) []]
def YH:bD:=aQ aI av [] [(64,2,5),(64,2,8),(64,2,14),(64,2,22),(64,2,26),(23,0,1),(64,0,0)] []
def acS:Sc:=(.fork (.lit (.lit .fin)) (.fork (.fork (.lit (.lit .fin)) (.fork (.lit .fin) (.no (.lit (.yes .fin))))) (.lit (.yes (.fork .fin (.no .fin))))))
def lD:aC:=
 (.out (.ret (.aA [.p (.sc (Value.pointer none)),sI .i64 2]) []))
def I2 (mn mx:Int) (cap:Bool) (e:Int):aC:=
 (.test (decide (mn>65536))
 (lD)
 (.test (cap)
 (.test (decide (mx<mn))
 (lD)
 (.test (decide (mx>65536))
 (lD)
 (.must (!(!cap))
 (.must (cap)
 (.out (.ret (.aA [.mp 0 0,sI .i64 0]) [.ac [.vm 1,sI .u32 mn,sI .u32 mx],.ob (aG.map [] [] 0) []]))))))
 (.must (!cap)
 (.test (mx != 0)
 (lD)
 (.must (!(cap))
 (.out (.ret (.aA [.mp 0 0,sI .i64 0]) [.ac [.vm 1,sI .u32 mn,sI .u32 65536],.ob (aG.map [] [] 0) []])))))))
theorem Pc (mn mx:Int) (cap:Bool) (e:Int):aH ab5 bn YH 1000000 23 ([AV.agg [sI abb mn,sI abb mx,sB cap]]) ([]) acS=I2 mn mx cap e:=by kernel_rfl
theorem YI {T:Nat} {x:Int} (h0:0≤x) (h:x<(T:Int)):(List.replicate T kQ).getD (x.toNat*1) .bK=kQ:=by
 rw[Nat.mul_one,List.getD_eq_getElem?_getD,List.getElem?_replicate,if_pos (by omega)]
 rfl
theorem tE {x:Int} (h0:0≤x) (h:x<4294967296):IntKind.u64.wrap x=x:=by rw[af1];omega
theorem Be (x:Li) (h:TL 65536 x=0):an ab5 bn 23 [.agg ((aN x).map .p)] [] (.aA [.mp 0 0,sI .i64 0]) (Ml x.mn (if x.cap=true then x.mx else 65536) 0):=by
 unfold TL at h
 split at h
 · cases h
 rename_i hn
 simp only[not_or,not_and,Decidable.not_not] at hn
 obtain⟨h1,h2,h3⟩:=hn
 refine af aM (Pc x.mn x.mx x.cap 0) ?_
 have g1:decide (x.mn>65536)=false:=decide_eq_false (by omega)
 simp only[I2,lD,aC.ok,g1]
 refine⟨fun q=>absurd q (by decide),fun _=> ?_⟩
 cases hc:x.cap with
 |true=>
  have k:=h2 hc
  have g2:decide (x.mx<x.mn)=false:=decide_eq_false (by omega)
  have g3:decide (x.mx>65536)=false:=decide_eq_false (by omega)
  rw[g2,g3]
  exact⟨fun _=>⟨fun q=>absurd q (by decide),fun _=>⟨fun q=>absurd q (by decide),fun _=>⟨rfl,rfl,(by first | rfl | trivial)⟩⟩⟩,fun q=>absurd q (by decide)⟩
 |false=>
  have k:=h3 hc
  rw[k]
  exact⟨fun q=>absurd q (by decide),fun _=>⟨rfl,fun q=>absurd q (by decide),fun _=>⟨rfl,(by first | rfl | trivial)⟩⟩⟩
theorem Pd {z:Nat} (hz:1≤z) (tok:Option Nat) (s:Nat) (g:Gh) (w:World) (cv:Value) (hv:VA g w (.os tok 0 s []) cv):VA {g with bS:=fun _=>none} w (.p (.ps 0 z [])) cv:=by
 cases hv with
 |os _ _ _ _ a cap h _=>exact .p _ _ (.pP _ _ _ (.inl hz))
def acT (f:FuncId):bD:=aQ aI av [] [] [(f,4,2)]
theorem iB {f z:Nat} (hz:1≤z)
  (h:tj ab5 bn (aQ aI av [] [] []) 10000 f [.p (.ps 0 z [])] .fin .fin=some (.out (.ret (.os none 0 0 []) []),.out (.ret (.os (some 0) 0 z []) [.tok]))) :
  an ab5 bn f [.p (.ps 0 z [])] [] (.p (.ps 0 z [])) []:=
 Kx aM h (v1:= .os none 0 0 []) (v2:= .os (some 0) 0 z []) (m1:=[]) (m2:=[.tok]) rfl rfl (Pd hz none 0) (Pd hz (some 0) z)
theorem jz {f z s:Nat} (h0:an ab5 bn f [.p (.ps 0 z [])] [] (.p (.ps 0 z [])) [])
  (h : ∀(k:Nat) (cs:List PV),aH ab5 bn (acT f) 1000000 f [.p (.ps (k+1) z cs)] [] .fin = .must (((0+(k+1))*s).ble ef&&(0+(k+1)).ble ef&&true) (.out (.ret (.os (some 0) (0+(k+1)) z ([]++cs)) [.tok])))
  (hs:1≤s) (n:Nat) (cs:List PV) (hn:n*s≤ef) (hc:n=0→cs=[]):an ab5 bn f [.p (.ps n z cs)] [] (.p (.ps n z cs)) []:=by
 cases n with
 |zero=>rw[hc rfl];exact h0
 |succ k=>
  have h1:k+1≤ef:=Nat.le_trans (Nat.le_mul_of_pos_right _ hs) hn
  have:=af aM (h k cs) (v:= .os (some 0) (0+(k+1)) z cs) (m':=[.tok]) ⟨by simp[Nat.ble_eq,hn,h1],rfl⟩
  rw[Nat.zero_add] at this
  exact this.pure
theorem TP (n:Nat) (cs:List PV) (hn:n*16≤ef) (hc:n=0→cs=[]):an ab5 bn 48 [.p (.ps n 2 cs)] [] (.p (.ps n 2 cs)) []:=
 jz (iB (by decide) (by kernel_rfl)) (fun k cs=>by kernel_rfl) (by decide) n cs hn hc
theorem TQ (n:Nat) (cs:List PV) (hn:n*40≤ef) (hc:n=0→cs=[]):an ab5 bn 49 [.p (.ps n 3 cs)] [] (.p (.ps n 3 cs)) []:=
 jz (iB (by decide) (by kernel_rfl)) (fun k cs=>by kernel_rfl) (by decide) n cs hn hc
theorem I3 (n:Nat) (cs:List PV) (hn:n*12≤ef) (hc:n=0→cs=[]):an ab5 bn 50 [.p (.ps n 3 cs)] [] (.p (.ps n 3 cs)) []:=
 jz (iB (by decide) (by kernel_rfl)) (fun k cs=>by kernel_rfl) (by decide) n cs hn hc
theorem TR (n:Nat) (cs:List PV) (hn:n*32≤ef) (hc:n=0→cs=[]):an ab5 bn 51 [.p (.ps n 3 cs)] [] (.p (.ps n 3 cs)) []:=
 jz (iB (by decide) (by kernel_rfl)) (fun k cs=>by kernel_rfl) (by decide) n cs hn hc
theorem I4 (n:Nat) (cs:List PV) (hn:n*4≤ef) (hc:n=0→cs=[]):an ab5 bn 59 [.p (.ps n 1 cs)] [] (.p (.ps n 1 cs)) []:=
 jz (iB (by decide) (by kernel_rfl)) (fun k cs=>by kernel_rfl) (by decide) n cs hn hc
theorem TS (n:Nat) (cs:List PV) (hn:n*1≤ef) (hc:n=0→cs=[]):an ab5 bn 62 [.p (.ps n 1 cs)] [] (.p (.ps n 1 cs)) []:=
 jz (iB (by decide) (by kernel_rfl)) (fun k cs=>by kernel_rfl) (by decide) n cs hn hc
end Go.Proofs.YtjfgfhaoeicpdaaGreatDoor.N
end
section
namespace Go.Am
open Go.RowKit
section
variable {P:Program} {E:Env} {g:Gh} {m:Mem} {w:World}
theorem Rel.I5 (h:Rel g m w) {i:Nat} {l l':List AV} (hb:m[i]? = some (.ac l)) (hl : ∀vs,cA g w l vs→cA g w l' vs) :
  Rel g (m.set i (.ac l')) w∧dc g m w g (m.set i (.ac l')) w:=by
 have own : ∀(j:Nat) (x:aU),(m.set i (.ac l'))[j]? = some x→x.dz=true → ∃y:aU,m[j]? = some y∧y.dz=true:=fun j x hj ho=>by
  rcases aP hj with⟨rfl,_⟩ | ⟨_,q⟩
  · exact⟨_,hb,rfl⟩
  · exact⟨x,q,ho⟩
 refine⟨⟨fun j hj=>h.vJ j (by simpa using hj),fun j hj=> ?_,fun j x cs hj hx=> ?_,fun j c hj hc=> ?_,fun j q x x' c hj hq ho ho' hc fm=> ?_,h.there,fun j k1 l1 hj=> ?_⟩,
  ⟨bj _,fun _ _ _=>rfl,fun _ _ p=>⟨p,rfl⟩,fun _ _ p=> .inl p,fun c ho=> ?_,rfl,rfl,rfl⟩⟩
 · rcases aP hj with⟨_,q⟩ | ⟨_,q⟩
   · cases q
   · exact h.free j q
 · rcases aP hj with⟨rfl,rfl⟩ | ⟨_,q⟩
   · simp only[aU.cells?,Option.some.injEq] at hx
     subst hx
     obtain⟨c',cs',e,q,k1,k2,k3,k4,k5⟩:=h.cells _ _ _ hb rfl
     exact⟨c',cs',e,q,k1,k2,k3,⟨hl _ k4.1,k4.2⟩,k5⟩
   · exact h.cells j x cs q hx
 · rcases aP hj with⟨_,q⟩ | ⟨_,q⟩
   · cases q
   · exact h.tok j c q hc
 · obtain⟨y,y1,y2⟩:=own j x hj ho
   obtain⟨z,z1,z2⟩:=own q x' hq ho'
   exact h.inj j q y z c y1 z1 y2 z2 hc fm
 · rcases aP hj with⟨_,q⟩ | ⟨_,q⟩
   · cases q
   · exact h.obs j k1 l1 q
 · obtain⟨j,x,hj,hx,hc⟩:=ho
   obtain⟨y,y1,y2⟩:=own j x hj hx
   exact .inl ⟨j,y,y1,y2,hc⟩
theorem an.mD {f:FuncId} {args:List AV} {sz:Nat} {v:AV} {m':Mem} (hz:1≤sz) (h:an P E f (.os (some 0) 0 sz []::args) [.tok] v m'):an P E f (.os none 0 0 []::args) [] v m':=by
 refine⟨h.1,fun g w cJ cs hr hv hg=> ?_⟩
 have hf:g.bS 0=none:=hr.vJ 0 (bj _)
 have FO:Rel g [.tok] w:=by
  have h1:=(hr.cV 1).1
  have h2:=(h1.vK (i:=0) rfl).1
  exact h2
 have own : ∀c,¬fD g ([.tok]:Mem) c:=fun c ho=>by
  obtain⟨i,b,hi,_,hc⟩:=ho
  match i,hi with
  |0,_=>rw[hf] at hc;cases hc
 match hl:cJ.toList,hv with
 |x::xs,hv=>
  have hx:VA g w (.os (some 0) 0 sz []) x:=by
   have h1:VA g w (.os none 0 0 []) x:=hv.1
   cases h1 with
   |os _ _ _ _ a cap h' hr'=>
    have hcap:cap=0:=by
     rcases hr' with h | ⟨t,b,o,e,_⟩
     · exact h
     · cases e
    subst hcap
    exact .os _ _ _ _ a 0 (.pP sz a 0 (.inl hz)) (.inl rfl)
  obtain⟨w',g',cv,fr,s1,s2,s3,s4,s5,s6,s7,s8⟩:=h.2 g w cJ cs FO (by rw[hl];exact⟨hx,hv.2⟩) hg
  refine⟨w',g',cv,fr,s1,s2,s3,s4,s5,⟨s6.size,fun c hc ho=>s6.keep c hc (own c),s6.pure,fun c o hp=> ?_,fun c ho=> ?_,s6.os,s6.tape,s6.output⟩,fun k c hk hc=>absurd hk (Nat.not_lt_zero _),Nat.zero_le _⟩
  · rcases s6.fresh c o hp with q | q | q
    · exact .inl q
    · exact absurd q (own c)
    · exact .inr (.inr q)
  · rcases s6.owned c ho with q | q
    · exact absurd q (own c)
    · exact .inr q
def yF (n sz j:Nat):sA→sA
 |[]=>[]
 |(k,v)::r=>(k,cond (ae k j) (.os (some n) 0 sz []) v)::yF n sz j r
theorem VA.mD {t sz:Nat} {x:Value} (hz:1≤sz) (h:VA g w (.os none 0 0 []) x):VA g w (.os (some t) 0 sz []) x:=by
 cases h with
 |os _ _ _ _ a cap h' hr'=>
  have hcap:cap=0:=by
   rcases hr' with h | ⟨t,b,o,e,_⟩
   · exact h
   · cases e
  subst hcap
  exact .os _ _ _ _ a 0 (.pP sz a 0 (.inl hz)) (.inl rfl)
theorem qh {n sz j:Nat} : ∀{tm:sA},look tm j = .os none 0 0 [] → ∀k,look (yF n sz j tm) k=look tm k∨(look tm k = .os none 0 0 []∧look (yF n sz j tm) k = .os (some n) 0 sz [])
 |[],_,_=> .inl rfl
 |(i,v)::r,h,k=>by
  simp only[look,yF] at h ⊢
  cases hi:ae i j with
  |true=>
   rw[hi] at h
   cases hk:ae i k with
   |true=>exact .inr ⟨h,rfl⟩
   |false=>
    simp only[cond_false]
    clear h
    obtain rfl:=ag hi
    by_cases hr:look r i = .os none 0 0 []
    · exact qh hr k
    · exact .inl (yG hk)
  |false=>
   rw[hi] at h
   cases hk:ae i k with
   |true=>exact .inl rfl
   |false=>exact qh h k
where
 yG {n sz i k:Nat} (hk:ae i k=false) : ∀{r:sA},look (yF n sz i r) k=look r k
  |[]=>rfl
  |(a,v)::r=>by
   simp only[look,yF]
   cases ha:ae a k with
   |true=>
    obtain rfl:=ag ha
    have:ae a i=false:=by
     cases hai:ae a i with
     |false=>rfl
     |true=>obtain rfl:=ag hai;rw[Nat.beq_refl] at hk;cases hk
    rw[this];rfl
   |false=>exact yG hk
theorem bR.mD {c:cm} {o:Out} (j sz:Nat) (hz:1≤sz) (hj:look c.st.tm j = .os none 0 0 []) (hc:CE c=true)
  (h:bR P E {c with st:={c.st with tm:=yF c.st.mem.length sz j c.st.tm,mem:=c.st.mem++[.tok]}} o):bR P E c o:=by
 refine bR.bz (fun g fr w hr cs=> ?_) h
 obtain⟨f,todo,st⟩:=c
 obtain⟨tm,nt,mem,fix,cw,b9⟩:=st
 dsimp only at hj h ⊢
 match todo,hc with
 |.code i x::k,_=>
  obtain⟨b,a,q1,q2,q3,q4,q5,q6⟩:=hr
  have Gp:Rel g mem w:=q5.rel
  obtain⟨f1,f2⟩:=Gp.cV 1
  have hn:(mem++cV 1)[mem.length]? = some .free:=by rw[List.getElem?_append_right (bj _),Nat.sub_self];rfl
  obtain⟨z1,z2⟩:=f1.vK hn
  have hmem:(mem++cV 1).set mem.length .tok=mem++[.tok]:=by simp[cV]
  rw[hmem] at z1 z2
  refine⟨g,fr,w,Steps.refl _ _,⟨b,a,q1,q2,q3,q4,⟨fun k=> ?_,q5.nt,z1,?_,q5.cQ⟩,q6⟩,f2.trans z2,bM.refl _ _,rfl,rfl,rfl⟩
  · rcases qh (n:=mem.length) (sz:=sz) hj k with e | ⟨e1,e2⟩
    · dsimp only;rw[e];exact q5.tm k
    · dsimp only;rw[e2]
      have:=q5.tm k
      dsimp only at this
      rw[e1] at this
      exact VA.mD hz this
  · have:=q5.fix
    dsimp only at this ⊢
    rw[List.length_append]
    omega
theorem bR.YJ {c c':cm} {o:Out} (h:c'=c) (k:bR P E c o):bR P E c' o:=by subst h;exact k
end
end Go.Am
end
section
set_option linter.unusedSimpArgs false
set_option linter.unusedVariables false
namespace Go.Proofs.YtjfgfhaoeicpdaaGreatDoor.N
open Go Go.Am
def nU (f:FuncId) (a:List AV) (m:Mem):Option (AV×Mem):=cond (ae f 92||ae f 63||ae f 59||ae f 62||ae f 54) (match a with | v::_=>some (v,m) | _=>none) none
def Sk (f:FuncId) (a:List AV) (m:Mem):Option (AV×Mem):=
 cond (ae f 53||ae f 56||ae f 58||ae f 61||ae f 93) (match a with | v::_=>some (v,m) | _=>none) none
def Pe (f:FuncId) (a:List AV) (m:Mem):Option (AV×Mem):=
 cond (ae f 48||ae f 49||ae f 50||ae f 51||ae f 52||ae f 55||ae f 57||ae f 59||ae f 60||ae f 62||ae f 92)
  (match a with | v::_=>some (v,m) | _=>none) none
def K3:bD:=aQ nU av [] [] []
def Pf:Sc:= .fin
def GU (l:List Ins):aC:=
 (.call ⟨92,[AV.p (PV.ps l.length 8 (aq l)),AV.fn (adL 93) [] []],[],AV.p (PV.ps l.length 8 (aq l)),[]⟩
  (.out (Out.ret (AV.p (PV.ps l.length 8 (aq l))) [])))
theorem ED (l:List Ins):aH ab5 bn K3 1000000 54 ([aL l]) ([]) Pf=GU l:=by kernel_rfl
def K4:bD:=aQ nU nU [] [] []
def Pg:Sc:= .fin
def GV (x:Fu):aC:=
 (.call ⟨54,[AV.p (PV.ps x.l.length 8 (aq x.l))],[],AV.p (PV.ps x.l.length 8 (aq x.l)),[]⟩
  (.out (Out.ret (AV.agg [AV.p (PV.sc (sd rn x.ty)),AV.p (PV.sc (sd rn x.lo)),AV.p (PV.ps x.l.length 8 (aq x.l))]) [])))
theorem EE (x:Fu):aH ab5 bn K4 1000000 53 ([AV.agg (abG AV.p (aV x))]) ([]) Pg=GV x:=by kernel_rfl
def K5:bD:=aQ nU nU [] [] []
def Ph:Sc:= .fin
def GW (x:Gl):aC:=
 (.call ⟨54,[AV.p (PV.ps x.l.length 8 (aq x.l))],[],AV.p (PV.ps x.l.length 8 (aq x.l)),[]⟩
  (.out (Out.ret (AV.agg [AV.p (PV.sc (ae6 x.mu)),AV.p (PV.ps x.l.length 8 (aq x.l))]) [])))
theorem EF (x:Gl):aH ab5 bn K5 1000000 56 ([AV.agg (abG AV.p (aY x))]) ([]) Ph=GW x:=by kernel_rfl
def K6:bD:=aQ nU nU [] [] []
def Pj:Sc:= .fin
def GX (x:El):aC:=
 (.call ⟨54,[AV.p (PV.ps x.l.length 8 (aq x.l))],[],AV.p (PV.ps x.l.length 8 (aq x.l)),[]⟩
 (.call ⟨59,[AV.p (PV.ps x.fs.length 1 (dw abb x.fs))],[],AV.p (PV.ps x.fs.length 1 (dw abb x.fs)),[]⟩
  (.out (Out.ret (AV.agg [AV.p (PV.ps x.l.length 8 (aq x.l)),AV.p (PV.ps x.fs.length 1 (dw abb x.fs))]) []))))
theorem EG (x:El):aH ab5 bn K6 1000000 58 ([AV.agg (abG AV.p (aX x))]) ([]) Pj=GX x:=by kernel_rfl
def K7:bD:=aQ nU nU [] [] []
def Pk:Sc:= .fin
def GY (x:Da):aC:=
 (.call ⟨54,[AV.p (PV.ps x.l.length 8 (aq x.l))],[],AV.p (PV.ps x.l.length 8 (aq x.l)),[]⟩
 (.call ⟨62,[AV.p (PV.ps x.bs.length 1 (dw ae4 x.bs))],[],AV.p (PV.ps x.bs.length 1 (dw ae4 x.bs)),[]⟩
  (.out (Out.ret (AV.agg [AV.p (PV.ps x.l.length 8 (aq x.l)),AV.p (PV.ps x.bs.length 1 (dw ae4 x.bs))]) []))))
theorem EH (x:Da):aH ab5 bn K7 1000000 61 ([AV.agg (abG AV.p (bg x))]) ([]) Pk=GY x:=by kernel_rfl
def K8:bD:=aQ Sk av [(52,0)] [(52,0,1)] [(52,5,0),(52,5,1),(52,6,5)]
def Pm:Sc:= .fin
def qi (M:Mo) (k:Nat) (cs:List PV) (i:Int):aC:=
 (.test (decide (i<(↑M.fns.length:Int)))
  (.must (bp i M.fns.length&&true&&true)
   (.must (isInt rn (aB (aeR aV M.fns) (i.toNat*3))&&(isInt rn (aB (aeR aV M.fns) (i.toNat*3+1))&&(bB (aB (aeR aV M.fns) (i.toNat*3+1+1))&&true))&&true)
    (.call ⟨53,[AV.agg [AV.p (PV.sc (sd rn (az (aB (aeR aV M.fns) (i.toNat*3))))),AV.p (PV.sc (sd rn (az (aB (aeR aV M.fns) (i.toNat*3+1))))),AV.p (PV.ps (aD (aB (aeR aV M.fns) (i.toNat*3+1+1))) (bh (aB (aeR aV M.fns) (i.toNat*3+1+1))) (au (aB (aeR aV M.fns) (i.toNat*3+1+1))))]],[],AV.agg [AV.p (PV.sc (sd rn (az (aB (aeR aV M.fns) (i.toNat*3))))),AV.p (PV.sc (sd rn (az (aB (aeR aV M.fns) (i.toNat*3+1))))),AV.p (PV.ps (aD (aB (aeR aV M.fns) (i.toNat*3+1+1))) (bh (aB (aeR aV M.fns) (i.toNat*3+1+1))) (au (aB (aeR aV M.fns) (i.toNat*3+1+1))))],[]⟩
     (.must (((k+1)*40).ble ef&&(k+1).ble ef&&true)
      (.at (ak ab5 bn 52 0 [AV.fn (adL 53) [] [],AV.os (acx 0) (k+1) 3 (cs++[PV.sc (sd rn (az (aB (aeR aV M.fns) (i.toNat*3)))),PV.sc (sd rn (az (aB (aeR aV M.fns) (i.toNat*3+1)))),PV.ps (aD (aB (aeR aV M.fns) (i.toNat*3+1+1))) (bh (aB (aeR aV M.fns) (i.toNat*3+1+1))) (au (aB (aeR aV M.fns) (i.toNat*3+1+1)))]),AV.p (PV.ps M.fns.length 3 (aeR aV M.fns)),AV.p (PV.sc (sd rn (↑M.fns.length:Int))),AV.p (PV.sc (sd rn (rn.wrap (i+1))))] ([aU.tok]) 0 22))))))
  (.out (Out.ret (AV.os (acx 0) k 3 cs) [aU.tok])))
theorem uS (M:Mo) (k:Nat) (cs:List PV) (i:Int):grow ab5 bn K8 1000000 true (ak ab5 bn 52 0 ([AV.fn (adL 53) [] [],AV.os (acx 0) k 3 cs,AV.p (PV.ps M.fns.length 3 (aeR aV M.fns)),sI rn (↑M.fns.length:Int),sI rn i]) ([aU.tok]) 0 22) Pm atEnd=qi M k cs i:=by kernel_rfl
def K9:bD:=aQ Sk av [(55,0)] [(55,0,1)] [(55,5,0),(55,5,1),(55,6,5)]
def Pn:Sc:= .fin
def qj (M:Mo) (k:Nat) (cs:List PV) (i:Int):aC:=
 (.test (decide (i<(↑M.gls.length:Int)))
  (.must (bp i M.gls.length&&true&&true)
   (.must (isBool (aB (aeR aY M.gls) (i.toNat*2))&&(bB (aB (aeR aY M.gls) (i.toNat*2+1))&&true)&&true)
    (.call ⟨56,[AV.agg [AV.p (PV.sc (ae6 (bu (aB (aeR aY M.gls) (i.toNat*2))))),AV.p (PV.ps (aD (aB (aeR aY M.gls) (i.toNat*2+1))) (bh (aB (aeR aY M.gls) (i.toNat*2+1))) (au (aB (aeR aY M.gls) (i.toNat*2+1))))]],[],AV.agg [AV.p (PV.sc (ae6 (bu (aB (aeR aY M.gls) (i.toNat*2))))),AV.p (PV.ps (aD (aB (aeR aY M.gls) (i.toNat*2+1))) (bh (aB (aeR aY M.gls) (i.toNat*2+1))) (au (aB (aeR aY M.gls) (i.toNat*2+1))))],[]⟩
     (.must (((k+1)*32).ble ef&&(k+1).ble ef&&true)
      (.at (ak ab5 bn 55 0 [AV.fn (adL 56) [] [],AV.os (acx 0) (k+1) 2 (cs++[PV.sc (ae6 (bu (aB (aeR aY M.gls) (i.toNat*2)))),PV.ps (aD (aB (aeR aY M.gls) (i.toNat*2+1))) (bh (aB (aeR aY M.gls) (i.toNat*2+1))) (au (aB (aeR aY M.gls) (i.toNat*2+1)))]),AV.p (PV.ps M.gls.length 2 (aeR aY M.gls)),AV.p (PV.sc (sd rn (↑M.gls.length:Int))),AV.p (PV.sc (sd rn (rn.wrap (i+1))))] ([aU.tok]) 0 22))))))
  (.out (Out.ret (AV.os (acx 0) k 2 cs) [aU.tok])))
theorem uT (M:Mo) (k:Nat) (cs:List PV) (i:Int):grow ab5 bn K9 1000000 true (ak ab5 bn 55 0 ([AV.fn (adL 56) [] [],AV.os (acx 0) k 2 cs,AV.p (PV.ps M.gls.length 2 (aeR aY M.gls)),sI rn (↑M.gls.length:Int),sI rn i]) ([aU.tok]) 0 22) Pn atEnd=qj M k cs i:=by kernel_rfl
def La:bD:=aQ Sk av [(57,0)] [(57,0,1)] [(57,5,0),(57,5,1),(57,6,5)]
def Po:Sc:= .fin
def qk (M:Mo) (k:Nat) (cs:List PV) (i:Int):aC:=
 (.test (decide (i<(↑M.els.length:Int)))
  (.must (bp i M.els.length&&true&&true)
   (.must (bB (aB (aeR aX M.els) (i.toNat*2))&&(bB (aB (aeR aX M.els) (i.toNat*2+1))&&true)&&true)
    (.call ⟨58,[AV.agg [AV.p (PV.ps (aD (aB (aeR aX M.els) (i.toNat*2))) (bh (aB (aeR aX M.els) (i.toNat*2))) (au (aB (aeR aX M.els) (i.toNat*2)))),AV.p (PV.ps (aD (aB (aeR aX M.els) (i.toNat*2+1))) (bh (aB (aeR aX M.els) (i.toNat*2+1))) (au (aB (aeR aX M.els) (i.toNat*2+1))))]],[],AV.agg [AV.p (PV.ps (aD (aB (aeR aX M.els) (i.toNat*2))) (bh (aB (aeR aX M.els) (i.toNat*2))) (au (aB (aeR aX M.els) (i.toNat*2)))),AV.p (PV.ps (aD (aB (aeR aX M.els) (i.toNat*2+1))) (bh (aB (aeR aX M.els) (i.toNat*2+1))) (au (aB (aeR aX M.els) (i.toNat*2+1))))],[]⟩
     (.must (((k+1)*48).ble ef&&(k+1).ble ef&&true)
      (.at (ak ab5 bn 57 0 [AV.fn (adL 58) [] [],AV.os (acx 0) (k+1) 2 (cs++[PV.ps (aD (aB (aeR aX M.els) (i.toNat*2))) (bh (aB (aeR aX M.els) (i.toNat*2))) (au (aB (aeR aX M.els) (i.toNat*2))),PV.ps (aD (aB (aeR aX M.els) (i.toNat*2+1))) (bh (aB (aeR aX M.els) (i.toNat*2+1))) (au (aB (aeR aX M.els) (i.toNat*2+1)))]),AV.p (PV.ps M.els.length 2 (aeR aX M.els)),AV.p (PV.sc (sd rn (↑M.els.length:Int))),AV.p (PV.sc (sd rn (rn.wrap (i+1))))] ([aU.tok]) 0 22))))))
  (.out (Out.ret (AV.os (acx 0) k 2 cs) [aU.tok])))
theorem uU (M:Mo) (k:Nat) (cs:List PV) (i:Int):grow ab5 bn La 1000000 true (ak ab5 bn 57 0 ([AV.fn (adL 58) [] [],AV.os (acx 0) k 2 cs,AV.p (PV.ps M.els.length 2 (aeR aX M.els)),sI rn (↑M.els.length:Int),sI rn i]) ([aU.tok]) 0 22) Po atEnd=qk M k cs i:=by kernel_rfl
def Lb:bD:=aQ Sk av [(60,0)] [(60,0,1)] [(60,5,0),(60,5,1),(60,6,5)]
def Pp:Sc:= .fin
def ql (M:Mo) (k:Nat) (cs:List PV) (i:Int):aC:=
 (.test (decide (i<(↑M.bt.length:Int)))
  (.must (bp i M.bt.length&&true&&true)
   (.must (bB (aB (aeR bg M.bt) (i.toNat*2))&&(bB (aB (aeR bg M.bt) (i.toNat*2+1))&&true)&&true)
    (.call ⟨61,[AV.agg [AV.p (PV.ps (aD (aB (aeR bg M.bt) (i.toNat*2))) (bh (aB (aeR bg M.bt) (i.toNat*2))) (au (aB (aeR bg M.bt) (i.toNat*2)))),AV.p (PV.ps (aD (aB (aeR bg M.bt) (i.toNat*2+1))) (bh (aB (aeR bg M.bt) (i.toNat*2+1))) (au (aB (aeR bg M.bt) (i.toNat*2+1))))]],[],AV.agg [AV.p (PV.ps (aD (aB (aeR bg M.bt) (i.toNat*2))) (bh (aB (aeR bg M.bt) (i.toNat*2))) (au (aB (aeR bg M.bt) (i.toNat*2)))),AV.p (PV.ps (aD (aB (aeR bg M.bt) (i.toNat*2+1))) (bh (aB (aeR bg M.bt) (i.toNat*2+1))) (au (aB (aeR bg M.bt) (i.toNat*2+1))))],[]⟩
     (.must (((k+1)*48).ble ef&&(k+1).ble ef&&true)
      (.at (ak ab5 bn 60 0 [AV.fn (adL 61) [] [],AV.os (acx 0) (k+1) 2 (cs++[PV.ps (aD (aB (aeR bg M.bt) (i.toNat*2))) (bh (aB (aeR bg M.bt) (i.toNat*2))) (au (aB (aeR bg M.bt) (i.toNat*2))),PV.ps (aD (aB (aeR bg M.bt) (i.toNat*2+1))) (bh (aB (aeR bg M.bt) (i.toNat*2+1))) (au (aB (aeR bg M.bt) (i.toNat*2+1)))]),AV.p (PV.ps M.bt.length 2 (aeR bg M.bt)),AV.p (PV.sc (sd rn (↑M.bt.length:Int))),AV.p (PV.sc (sd rn (rn.wrap (i+1))))] ([aU.tok]) 0 22))))))
  (.out (Out.ret (AV.os (acx 0) k 2 cs) [aU.tok])))
theorem uV (M:Mo) (k:Nat) (cs:List PV) (i:Int):grow ab5 bn Lb 1000000 true (ak ab5 bn 60 0 ([AV.fn (adL 61) [] [],AV.os (acx 0) k 2 cs,AV.p (PV.ps M.bt.length 2 (aeR bg M.bt)),sI rn (↑M.bt.length:Int),sI rn i]) ([aU.tok]) 0 22) Pp atEnd=ql M k cs i:=by kernel_rfl
def Lc:bD:=aQ Sk av [(52,0)] [] []
def Pq:Sc:= .fin
def yH (M:Mo):aC:=
 (.at (ak ab5 bn 52 0 [AV.fn (adL 53) [] [],mq,AV.p (PV.ps M.fns.length 3 (aeR aV M.fns)),AV.p (PV.sc (sd rn (↑M.fns.length:Int))),AV.p (PV.sc (sd rn 0))] ([]) 0 22))
theorem EI (M:Mo):aH ab5 bn Lc 1000000 52 ([AV.p (PV.ps M.fns.length 3 (aeR aV M.fns)),AV.fn (adL 53) [] []]) ([]) Pq=yH M:=by kernel_rfl
def Ld:bD:=aQ Sk av [(55,0)] [] []
def Pr:Sc:= .fin
def yI (M:Mo):aC:=
 (.at (ak ab5 bn 55 0 [AV.fn (adL 56) [] [],mq,AV.p (PV.ps M.gls.length 2 (aeR aY M.gls)),AV.p (PV.sc (sd rn (↑M.gls.length:Int))),AV.p (PV.sc (sd rn 0))] ([]) 0 22))
theorem EJ (M:Mo):aH ab5 bn Ld 1000000 55 ([AV.p (PV.ps M.gls.length 2 (aeR aY M.gls)),AV.fn (adL 56) [] []]) ([]) Pr=yI M:=by kernel_rfl
def Le:bD:=aQ Sk av [(57,0)] [] []
def Pu:Sc:= .fin
def yJ (M:Mo):aC:=
 (.at (ak ab5 bn 57 0 [AV.fn (adL 58) [] [],mq,AV.p (PV.ps M.els.length 2 (aeR aX M.els)),AV.p (PV.sc (sd rn (↑M.els.length:Int))),AV.p (PV.sc (sd rn 0))] ([]) 0 22))
theorem EK (M:Mo):aH ab5 bn Le 1000000 57 ([AV.p (PV.ps M.els.length 2 (aeR aX M.els)),AV.fn (adL 58) [] []]) ([]) Pu=yJ M:=by kernel_rfl
def Lf:bD:=aQ Sk av [(60,0)] [] []
def Pv:Sc:= .fin
def yK (M:Mo):aC:=
 (.at (ak ab5 bn 60 0 [AV.fn (adL 61) [] [],mq,AV.p (PV.ps M.bt.length 2 (aeR bg M.bt)),AV.p (PV.sc (sd rn (↑M.bt.length:Int))),AV.p (PV.sc (sd rn 0))] ([]) 0 22))
theorem EL (M:Mo):aH ab5 bn Lf 1000000 60 ([AV.p (PV.ps M.bt.length 2 (aeR bg M.bt)),AV.fn (adL 61) [] []]) ([]) Pv=yK M:=by kernel_rfl
def Lg:bD:=aQ Sk av [(92,0)] [] []
def Pw:Sc:= .fin
def yL (l:List Ins):aC:=
 (.at (ak ab5 bn 92 0 [AV.fn (adL 93) [] [],mq,AV.p (PV.ps l.length 8 (aq l)),AV.p (PV.sc (sd rn (↑l.length:Int))),AV.p (PV.sc (sd rn 0))] ([]) 0 22))
theorem EM (l:List Ins):aH ab5 bn Lg 1000000 92 ([aL l,AV.fn (adL 93) [] []]) ([]) Pw=yL l:=by kernel_rfl
def Lh:bD:=aQ Sk av [(92,0)] [(92,0,1)] [(92,5,0),(92,5,1),(92,6,5)]
def Px:Sc:= .fin
def qm (l:List Ins) (k:Nat) (cs:List PV) (i:Int):aC:=
 (.test (decide (i<(↑l.length:Int)))
  (.must (bp i l.length&&true&&true)
   (.must (isInt rn (aB (aq l) (i.toNat*8))&&(isInt rn (aB (aq l) (i.toNat*8+1))&&(isInt abb (aB (aq l) (i.toNat*8+1+1))&&(isInt abb (aB (aq l) (i.toNat*8+1+1+1))&&(isInt ae3 (aB (aq l) (i.toNat*8+1+1+1+1))&&(bB (aB (aq l) (i.toNat*8+1+1+1+1+1))&&(bB (aB (aq l) (i.toNat*8+1+1+1+1+1+1))&&(bB (aB (aq l) (i.toNat*8+1+1+1+1+1+1+1))&&true)))))))&&true)
    (.call ⟨93,[AV.agg [AV.p (PV.sc (sd rn (az (aB (aq l) (i.toNat*8))))),AV.p (PV.sc (sd rn (az (aB (aq l) (i.toNat*8+1))))),AV.p (PV.sc (sd abb (az (aB (aq l) (i.toNat*8+1+1))))),AV.p (PV.sc (sd abb (az (aB (aq l) (i.toNat*8+1+1+1))))),AV.p (PV.sc (sd ae3 (az (aB (aq l) (i.toNat*8+1+1+1+1))))),AV.p (PV.ps (aD (aB (aq l) (i.toNat*8+1+1+1+1+1))) (bh (aB (aq l) (i.toNat*8+1+1+1+1+1))) (au (aB (aq l) (i.toNat*8+1+1+1+1+1)))),AV.p (PV.ps (aD (aB (aq l) (i.toNat*8+1+1+1+1+1+1))) (bh (aB (aq l) (i.toNat*8+1+1+1+1+1+1))) (au (aB (aq l) (i.toNat*8+1+1+1+1+1+1)))),AV.p (PV.ps (aD (aB (aq l) (i.toNat*8+1+1+1+1+1+1+1))) (bh (aB (aq l) (i.toNat*8+1+1+1+1+1+1+1))) (au (aB (aq l) (i.toNat*8+1+1+1+1+1+1+1))))]],[],AV.agg [AV.p (PV.sc (sd rn (az (aB (aq l) (i.toNat*8))))),AV.p (PV.sc (sd rn (az (aB (aq l) (i.toNat*8+1))))),AV.p (PV.sc (sd abb (az (aB (aq l) (i.toNat*8+1+1))))),AV.p (PV.sc (sd abb (az (aB (aq l) (i.toNat*8+1+1+1))))),AV.p (PV.sc (sd ae3 (az (aB (aq l) (i.toNat*8+1+1+1+1))))),AV.p (PV.ps (aD (aB (aq l) (i.toNat*8+1+1+1+1+1))) (bh (aB (aq l) (i.toNat*8+1+1+1+1+1))) (au (aB (aq l) (i.toNat*8+1+1+1+1+1)))),AV.p (PV.ps (aD (aB (aq l) (i.toNat*8+1+1+1+1+1+1))) (bh (aB (aq l) (i.toNat*8+1+1+1+1+1+1))) (au (aB (aq l) (i.toNat*8+1+1+1+1+1+1)))),AV.p (PV.ps (aD (aB (aq l) (i.toNat*8+1+1+1+1+1+1+1))) (bh (aB (aq l) (i.toNat*8+1+1+1+1+1+1+1))) (au (aB (aq l) (i.toNat*8+1+1+1+1+1+1+1))))],[]⟩
     (.must (((k+1)*104).ble ef&&(k+1).ble ef&&true)
      (.at (ak ab5 bn 92 0 [AV.fn (adL 93) [] [],AV.os (acx 0) (k+1) 8 (cs++[PV.sc (sd rn (az (aB (aq l) (i.toNat*8)))),PV.sc (sd rn (az (aB (aq l) (i.toNat*8+1)))),PV.sc (sd abb (az (aB (aq l) (i.toNat*8+1+1)))),PV.sc (sd abb (az (aB (aq l) (i.toNat*8+1+1+1)))),PV.sc (sd ae3 (az (aB (aq l) (i.toNat*8+1+1+1+1)))),PV.ps (aD (aB (aq l) (i.toNat*8+1+1+1+1+1))) (bh (aB (aq l) (i.toNat*8+1+1+1+1+1))) (au (aB (aq l) (i.toNat*8+1+1+1+1+1))),PV.ps (aD (aB (aq l) (i.toNat*8+1+1+1+1+1+1))) (bh (aB (aq l) (i.toNat*8+1+1+1+1+1+1))) (au (aB (aq l) (i.toNat*8+1+1+1+1+1+1))),PV.ps (aD (aB (aq l) (i.toNat*8+1+1+1+1+1+1+1))) (bh (aB (aq l) (i.toNat*8+1+1+1+1+1+1+1))) (au (aB (aq l) (i.toNat*8+1+1+1+1+1+1+1)))]),AV.p (PV.ps l.length 8 (aq l)),AV.p (PV.sc (sd rn (↑l.length:Int))),AV.p (PV.sc (sd rn (rn.wrap (i+1))))] ([aU.tok]) 0 22))))))
  (.out (Out.ret (AV.os (acx 0) k 8 cs) [aU.tok])))
theorem uW (l:List Ins) (k:Nat) (cs:List PV) (i:Int):grow ab5 bn Lh 1000000 true (ak ab5 bn 92 0 ([AV.fn (adL 93) [] [],AV.os (acx 0) k 8 cs,aL l,sI rn (↑l.length:Int),sI rn i]) ([aU.tok]) 0 22) Px atEnd=qm l k cs i:=by kernel_rfl
def Lj:bD:=aQ nU nU [] [] []
def Py:Sc:= .fin
def GZ (op:Int) (r:Int) (a:Int) (b:Int) (n:Int) (tags:List Int) (ll:List Ins) (le:List Ins):aC:=
 (.call ⟨59,[AV.p (PV.ps tags.length 1 (dw abb tags))],[],AV.p (PV.ps tags.length 1 (dw abb tags)),[]⟩
 (.call ⟨54,[AV.p (PV.ps ll.length 8 (aq ll))],[],AV.p (PV.ps ll.length 8 (aq ll)),[]⟩
 (.call ⟨54,[AV.p (PV.ps le.length 8 (aq le))],[],AV.p (PV.ps le.length 8 (aq le)),[]⟩
  (.out (Out.ret (AV.agg [AV.p (PV.sc (sd rn op)),AV.p (PV.sc (sd rn r)),AV.p (PV.sc (sd abb a)),AV.p (PV.sc (sd abb b)),AV.p (PV.sc (sd ae3 n)),AV.p (PV.ps tags.length 1 (dw abb tags)),AV.p (PV.ps ll.length 8 (aq ll)),AV.p (PV.ps le.length 8 (aq le))]) [])))))
theorem EN (op:Int) (r:Int) (a:Int) (b:Int) (n:Int) (tags:List Int) (ll:List Ins) (le:List Ins):aH ab5 bn Lj 1000000 93 ([AV.agg [sI rn op,sI rn r,sI abb a,sI abb b,sI ae3 n,AV.p (PV.ps tags.length 1 (dw abb tags)),aL ll,aL le]]) ([]) Py=GZ op r a b n tags ll le:=by kernel_rfl
def Ll:bD:=aQ Pe Pe [] [] []
def Pz:Sc:= .fin
def G0 (M:Mo):aC:=
 (.call ⟨48,[AV.p (PV.ps M.tys.length 2 (aeR bW M.tys))],[],AV.p (PV.ps M.tys.length 2 (aeR bW M.tys)),[]⟩
 (.call ⟨49,[AV.p (PV.ps M.aZ.length 3 (aeR bQ M.aZ))],[],AV.p (PV.ps M.aZ.length 3 (aeR bQ M.aZ)),[]⟩
 (.call ⟨50,[AV.p (PV.ps M.cj.length 3 (aeR aN M.cj))],[],AV.p (PV.ps M.cj.length 3 (aeR aN M.cj)),[]⟩
 (.call ⟨50,[AV.p (PV.ps M.cM.length 3 (aeR aN M.cM))],[],AV.p (PV.ps M.cM.length 3 (aeR aN M.cM)),[]⟩
 (.call ⟨51,[AV.p (PV.ps M.exs.length 3 (aeR aW M.exs))],[],AV.p (PV.ps M.exs.length 3 (aeR aW M.exs)),[]⟩
  (.call ⟨52,[AV.p (PV.ps M.fns.length 3 (aeR aV M.fns)),AV.fn (adL 53) [] []],[],AV.p (PV.ps M.fns.length 3 (aeR aV M.fns)),[]⟩
   (.call ⟨55,[AV.p (PV.ps M.gls.length 2 (aeR aY M.gls)),AV.fn (adL 56) [] []],[],AV.p (PV.ps M.gls.length 2 (aeR aY M.gls)),[]⟩
    (.call ⟨57,[AV.p (PV.ps M.els.length 2 (aeR aX M.els)),AV.fn (adL 58) [] []],[],AV.p (PV.ps M.els.length 2 (aeR aX M.els)),[]⟩
     (.call ⟨60,[AV.p (PV.ps M.bt.length 2 (aeR bg M.bt)),AV.fn (adL 61) [] []],[],AV.p (PV.ps M.bt.length 2 (aeR bg M.bt)),[]⟩
      (.out (Out.ret (AV.agg [AV.p (PV.ps M.tys.length 2 (aeR bW M.tys)),AV.p (PV.ps M.aZ.length 3 (aeR bQ M.aZ)),AV.p (PV.ps M.fns.length 3 (aeR aV M.fns)),AV.p (PV.ps M.cj.length 3 (aeR aN M.cj)),AV.p (PV.ps M.cM.length 3 (aeR aN M.cM)),AV.p (PV.ps M.gls.length 2 (aeR aY M.gls)),AV.p (PV.ps M.exs.length 3 (aeR aW M.exs)),AV.p (PV.sc (ae6 M.st)),AV.p (PV.sc (sd abb M.sn)),AV.p (PV.ps M.els.length 2 (aeR aX M.els)),AV.p (PV.ps M.bt.length 2 (aeR bg M.bt))]) [])))))))))))
theorem EO (M:Mo):aH ab5 bn Ll 1000000 20 ([AV.agg (abG AV.p M.aJ)]) ([]) Pz=G0 M:=by kernel_rfl
theorem rJ {D:Nat→cm} {o:Out} {n:Nat} (fin:bR ab5 bn (D n) o) (step : ∀i,i<n→bR ab5 bn (D (i+1)) o→bR ab5 bn (D i) o) :
  ∀r i,i+r=n→bR ab5 bn (D i) o:=by
 intro r
 induction r with
 |zero=>intro i hi;obtain rfl:i=n:=by omega
        exact fin
 |succ r ih=>intro i hi;exact step i (by omega) (ih (i+1) (by omega))
theorem EP (l:List Ins) (hc:iy l≤1000000)
  (IH : ∀x∈l,an ab5 bn 93 [.agg ((oN x).map .p)] [] (.agg ((oN x).map .p)) []):an ab5 bn 92 [aL l,.fn (.func 93) [] []] [] (aL l) []:=by
 have hl:=uH l
 have hL:ef=70368744177664:=rfl
 suffices h:bR ab5 bn (ak ab5 bn 92 0 [.fn (.func 93) [] [],.os (some 0) 0 8 (aq (l.take 0)),aL l,sI .i64 l.length,sI .i64 (0:Nat)] [.tok] 0 22) (.ret (.os (some 0) l.length 8 (aq l)) [.tok]) from
  an.pure (af aM (EM l) (by
   simp only[yL,bN,aC.ok]
   exact bR.mD 5 8 (by omega) (by kernel_rfl) (by kernel_rfl) (bR.YJ (by kernel_rfl) h)))
 refine rJ (D:=fun i=>ak ab5 bn 92 0 [.fn (.func 93) [] [],.os (some 0) i 8 (aq (l.take i)),aL l,sI .i64 l.length,sI .i64 (i:Nat)] [.tok] 0 22) (n:=l.length) ?_ (fun i hi h=> ?_) l.length 0 (by omega)
 · refine ah aM (uW l l.length (aq (l.take l.length)) l.length) ?_
   simp[qm,bN,aC.ok]
 · refine ah aM (uW l i (aq (l.take i)) i) ?_
   have vo:l[i]? = some l[i]:=bm hi
   have hmem:l[i]∈l:=dE hi
   rw[ae7 hi,uG,NB] at h
   have hI:=IH _ hmem
   generalize l[i]=x at *
   obtain⟨op,rs,a,b,nn,tags,ll,le⟩:=x
   obtain⟨c0,c1,c2,c3,c4,c5,c6,c7⟩:=nR vo
   have hw:rn.wrap ((i:Int)+1)=((i+1:Nat):Int):=by rw[aO (by omega) (by omega)];rfl
   have mC:(i:Int)<(l.length:Int):=by omega
   simp only[qm,bN,aC.ok,fg,ab2,c0,c1,c2,c3,c4,c5,c6,c7,aD,bh,au,bB,isInt,az,aep,bp,hw]
   refine⟨fun _=>⟨by simp[mC],by simp,hI,by simp;omega,?_⟩,fun q=>absurd mC (by simpa using q)⟩
   simpa[oN] using h
theorem ER (x:Ins) (ht:x.tags.length*4≤ef) (h1:an ab5 bn 54 [aL x.l] [] (aL x.l) []) (h2:an ab5 bn 54 [aL x.e] [] (aL x.e) []):an ab5 bn 93 [.agg ((oN x).map .p)] [] (.agg ((oN x).map .p)) []:=by
 obtain⟨op,rs,a,b,nn,tags,ll,le⟩:=x
 exact af aM (EN op rs a b nn tags ll le) ⟨I4 _ _ ht (fun q=>by rw[na.1 q];rfl),h1,h2,rfl⟩
theorem iK (l:List Ins):iy l≤1000000→an ab5 bn 54 [aL l] [] (aL l) []:=by
 refine Iy (Q:=fun l=>iy l≤1000000→an ab5 bn 54 [aL l] [] (aL l) []) (fun l IH hc=> ?_) l
 refine af aM (ED l) ⟨EP l hc fun x hx=> ?_,rfl⟩
 have h1:=xZ hx
 have h2:=IH x hx
 have hL:ef=70368744177664:=rfl
 refine ER x ?_ (h2.1 ?_) (h2.2 ?_)<;>(obtain⟨op,rs,a,b,nn,tags,ll,le⟩:=x;simp only[xY] at h1;simp only[Ins.tags,Ins.l,Ins.e];omega)
theorem ES (M:Mo) (hn:M.fns.length≤1000000) (IH : ∀x∈M.fns,an ab5 bn 53 [.agg ((aV x).map .p)] [] (.agg ((aV x).map .p)) []) :
  an ab5 bn 52 [.p (.ps M.fns.length 3 (M.fns.flatMap aV)),.fn (.func 53) [] []] [] (.p (.ps M.fns.length 3 (M.fns.flatMap aV))) []:=by
 have hL:ef=70368744177664:=rfl
 suffices h:bR ab5 bn (ak ab5 bn 52 0 [.fn (.func 53) [] [],.os (some 0) 0 3 ((M.fns.take 0).flatMap aV),.p (.ps M.fns.length 3 (M.fns.flatMap aV)),sI .i64 M.fns.length,sI .i64 (0:Nat)] [.tok] 0 22) (.ret (.os (some 0) M.fns.length 3 (M.fns.flatMap aV)) [.tok]) from
  an.pure (af aM (EI M) (by
   simp only[yH,bN,aC.ok]
   exact bR.mD 5 3 (by omega) (by kernel_rfl) (by kernel_rfl) (bR.YJ (by kernel_rfl) h)))
 refine rJ (D:=fun i=>ak ab5 bn 52 0 [.fn (.func 53) [] [],.os (some 0) i 3 ((M.fns.take i).flatMap aV),.p (.ps M.fns.length 3 (M.fns.flatMap aV)),sI .i64 M.fns.length,sI .i64 (i:Nat)] [.tok] 0 22) (n:=M.fns.length) ?_ (fun i hi h=> ?_) M.fns.length 0 (by omega)
 · refine ah aM (uS M M.fns.length ((M.fns.take M.fns.length).flatMap aV) M.fns.length) ?_
   simp[qi,bN,aC.ok]
 · refine ah aM (uS M i ((M.fns.take i).flatMap aV) i) ?_
   have vo:M.fns[i]? = some M.fns[i]:=bm hi
   rw[ae7 hi,aeY,aeS,afa,H4] at h
   have hI:=IH _ (dE hi)
   have c:=bq (z:=3) (enc:=aV) (fun _=>rfl) vo
   have c0:=c 0 (by decide)
   have c1:=c 1 (by decide)
   have c2:=c 2 (by decide)
   generalize M.fns[i]=x at *
   simp only[aV,ae8,ae9,ph] at c0 c1 c2
   have hw:rn.wrap ((i:Int)+1)=((i+1:Nat):Int):=by rw[aO (by omega) (by omega)];rfl
   have mC:(i:Int)<(M.fns.length:Int):=by omega
   simp only[qi,bN,aC.ok,fg,ab2,c0,c1,c2,pL,aD,bh,au,bB,isInt,isBool,az,bu,aep,bp,hw]
   refine⟨fun _=>⟨by simp[mC],by simp,hI,by simp;omega,?_⟩,fun q=>absurd mC (by simpa using q)⟩
   simpa[aV,pL] using h
theorem ET (M:Mo) (hn:M.gls.length≤1000000) (IH : ∀x∈M.gls,an ab5 bn 56 [.agg ((aY x).map .p)] [] (.agg ((aY x).map .p)) []) :
  an ab5 bn 55 [.p (.ps M.gls.length 2 (M.gls.flatMap aY)),.fn (.func 56) [] []] [] (.p (.ps M.gls.length 2 (M.gls.flatMap aY))) []:=by
 have hL:ef=70368744177664:=rfl
 suffices h:bR ab5 bn (ak ab5 bn 55 0 [.fn (.func 56) [] [],.os (some 0) 0 2 ((M.gls.take 0).flatMap aY),.p (.ps M.gls.length 2 (M.gls.flatMap aY)),sI .i64 M.gls.length,sI .i64 (0:Nat)] [.tok] 0 22) (.ret (.os (some 0) M.gls.length 2 (M.gls.flatMap aY)) [.tok]) from
  an.pure (af aM (EJ M) (by
   simp only[yI,bN,aC.ok]
   exact bR.mD 5 2 (by omega) (by kernel_rfl) (by kernel_rfl) (bR.YJ (by kernel_rfl) h)))
 refine rJ (D:=fun i=>ak ab5 bn 55 0 [.fn (.func 56) [] [],.os (some 0) i 2 ((M.gls.take i).flatMap aY),.p (.ps M.gls.length 2 (M.gls.flatMap aY)),sI .i64 M.gls.length,sI .i64 (i:Nat)] [.tok] 0 22) (n:=M.gls.length) ?_ (fun i hi h=> ?_) M.gls.length 0 (by omega)
 · refine ah aM (uT M M.gls.length ((M.gls.take M.gls.length).flatMap aY) M.gls.length) ?_
   simp[qj,bN,aC.ok]
 · refine ah aM (uT M i ((M.gls.take i).flatMap aY) i) ?_
   have vo:M.gls[i]? = some M.gls[i]:=bm hi
   rw[ae7 hi,aeY,aeS,afa,H4] at h
   have hI:=IH _ (dE hi)
   have c:=bq (z:=2) (enc:=aY) (fun _=>rfl) vo
   have c0:=c 0 (by decide)
   have c1:=c 1 (by decide)
   generalize M.gls[i]=x at *
   simp only[aY,ae8,ae9,ph] at c0 c1
   have hw:rn.wrap ((i:Int)+1)=((i+1:Nat):Int):=by rw[aO (by omega) (by omega)];rfl
   have mC:(i:Int)<(M.gls.length:Int):=by omega
   simp only[qj,bN,aC.ok,fg,ab2,c0,c1,pL,aD,bh,au,bB,isInt,isBool,az,bu,aep,bp,hw]
   refine⟨fun _=>⟨by simp[mC],by simp,hI,by simp;omega,?_⟩,fun q=>absurd mC (by simpa using q)⟩
   simpa[aY,pL] using h
theorem EU (M:Mo) (hn:M.els.length≤1000000) (IH : ∀x∈M.els,an ab5 bn 58 [.agg ((aX x).map .p)] [] (.agg ((aX x).map .p)) []) :
  an ab5 bn 57 [.p (.ps M.els.length 2 (M.els.flatMap aX)),.fn (.func 58) [] []] [] (.p (.ps M.els.length 2 (M.els.flatMap aX))) []:=by
 have hL:ef=70368744177664:=rfl
 suffices h:bR ab5 bn (ak ab5 bn 57 0 [.fn (.func 58) [] [],.os (some 0) 0 2 ((M.els.take 0).flatMap aX),.p (.ps M.els.length 2 (M.els.flatMap aX)),sI .i64 M.els.length,sI .i64 (0:Nat)] [.tok] 0 22) (.ret (.os (some 0) M.els.length 2 (M.els.flatMap aX)) [.tok]) from
  an.pure (af aM (EK M) (by
   simp only[yJ,bN,aC.ok]
   exact bR.mD 5 2 (by omega) (by kernel_rfl) (by kernel_rfl) (bR.YJ (by kernel_rfl) h)))
 refine rJ (D:=fun i=>ak ab5 bn 57 0 [.fn (.func 58) [] [],.os (some 0) i 2 ((M.els.take i).flatMap aX),.p (.ps M.els.length 2 (M.els.flatMap aX)),sI .i64 M.els.length,sI .i64 (i:Nat)] [.tok] 0 22) (n:=M.els.length) ?_ (fun i hi h=> ?_) M.els.length 0 (by omega)
 · refine ah aM (uU M M.els.length ((M.els.take M.els.length).flatMap aX) M.els.length) ?_
   simp[qk,bN,aC.ok]
 · refine ah aM (uU M i ((M.els.take i).flatMap aX) i) ?_
   have vo:M.els[i]? = some M.els[i]:=bm hi
   rw[ae7 hi,aeY,aeS,afa,H4] at h
   have hI:=IH _ (dE hi)
   have c:=bq (z:=2) (enc:=aX) (fun _=>rfl) vo
   have c0:=c 0 (by decide)
   have c1:=c 1 (by decide)
   generalize M.els[i]=x at *
   simp only[aX,ae8,ae9,ph] at c0 c1
   have hw:rn.wrap ((i:Int)+1)=((i+1:Nat):Int):=by rw[aO (by omega) (by omega)];rfl
   have mC:(i:Int)<(M.els.length:Int):=by omega
   simp only[qk,bN,aC.ok,fg,ab2,c0,c1,pL,aD,bh,au,bB,isInt,isBool,az,bu,aep,bp,hw]
   refine⟨fun _=>⟨by simp[mC],by simp,hI,by simp;omega,?_⟩,fun q=>absurd mC (by simpa using q)⟩
   simpa[aX,pL] using h
theorem EV (M:Mo) (hn:M.bt.length≤1000000) (IH : ∀x∈M.bt,an ab5 bn 61 [.agg ((bg x).map .p)] [] (.agg ((bg x).map .p)) []) :
  an ab5 bn 60 [.p (.ps M.bt.length 2 (M.bt.flatMap bg)),.fn (.func 61) [] []] [] (.p (.ps M.bt.length 2 (M.bt.flatMap bg))) []:=by
 have hL:ef=70368744177664:=rfl
 suffices h:bR ab5 bn (ak ab5 bn 60 0 [.fn (.func 61) [] [],.os (some 0) 0 2 ((M.bt.take 0).flatMap bg),.p (.ps M.bt.length 2 (M.bt.flatMap bg)),sI .i64 M.bt.length,sI .i64 (0:Nat)] [.tok] 0 22) (.ret (.os (some 0) M.bt.length 2 (M.bt.flatMap bg)) [.tok]) from
  an.pure (af aM (EL M) (by
   simp only[yK,bN,aC.ok]
   exact bR.mD 5 2 (by omega) (by kernel_rfl) (by kernel_rfl) (bR.YJ (by kernel_rfl) h)))
 refine rJ (D:=fun i=>ak ab5 bn 60 0 [.fn (.func 61) [] [],.os (some 0) i 2 ((M.bt.take i).flatMap bg),.p (.ps M.bt.length 2 (M.bt.flatMap bg)),sI .i64 M.bt.length,sI .i64 (i:Nat)] [.tok] 0 22) (n:=M.bt.length) ?_ (fun i hi h=> ?_) M.bt.length 0 (by omega)
 · refine ah aM (uV M M.bt.length ((M.bt.take M.bt.length).flatMap bg) M.bt.length) ?_
   simp[ql,bN,aC.ok]
 · refine ah aM (uV M i ((M.bt.take i).flatMap bg) i) ?_
   have vo:M.bt[i]? = some M.bt[i]:=bm hi
   rw[ae7 hi,aeY,aeS,afa,H4] at h
   have hI:=IH _ (dE hi)
   have c:=bq (z:=2) (enc:=bg) (fun _=>rfl) vo
   have c0:=c 0 (by decide)
   have c1:=c 1 (by decide)
   generalize M.bt[i]=x at *
   simp only[bg,ae8,ae9,ph] at c0 c1
   have hw:rn.wrap ((i:Int)+1)=((i+1:Nat):Int):=by rw[aO (by omega) (by omega)];rfl
   have mC:(i:Int)<(M.bt.length:Int):=by omega
   simp only[ql,bN,aC.ok,fg,ab2,c0,c1,pL,aD,bh,au,bB,isInt,isBool,az,bu,aep,bp,hw]
   refine⟨fun _=>⟨by simp[mC],by simp,hI,by simp;omega,?_⟩,fun q=>absurd mC (by simpa using q)⟩
   simpa[bg,pL] using h
theorem lE {α:Type} {l:List α} {f:α→List PV} (q:l.length=0):l.flatMap f=[]:=by rw[na.1 q];rfl
def Mo.small (M:Mo):Prop:=(∀x∈M.fns,iy x.l≤1000000)∧(∀x∈M.gls,iy x.l≤1000000)∧(∀x∈M.els,iy x.l≤1000000∧x.fs.length≤1000000)∧(∀x∈M.bt,iy x.l≤1000000∧x.bs.length≤1000000)
theorem G1 (M:Mo) (hM:M.fit) (hc:Mo.small M):an ab5 bn 20 [.agg (M.aJ.map .p)] [] (.agg (M.aJ.map .p)) []:=by
 have hL:ef=70368744177664:=rfl
 obtain⟨h1,h2,h3,h4⟩:=hc
 have:=hM.tys;have:=hM.aZ;have:=hM.cj;have:=hM.cM;have:=hM.exs
 refine af aM (EO M) ⟨TP _ _ (by omega) lE,TQ _ _ (by omega) lE,I3 _ _ (by omega) lE,I3 _ _ (by omega) lE,TR _ _ (by omega) lE,
  ES M hM.fns fun x hx=> ?_,ET M hM.gls fun x hx=> ?_,EU M hM.els fun x hx=> ?_,EV M hM.bt fun x hx=> ?_,rfl⟩
 · exact af aM (EE x) ⟨iK _ (h1 x hx),rfl⟩
 · exact af aM (EF x) ⟨iK _ (h2 x hx),rfl⟩
 · have:=(h3 x hx).2
   exact af aM (EG x) ⟨iK _ (h3 x hx).1,I4 _ _ (by omega) (fun q=>by rw[na.1 q];rfl),rfl⟩
 · have:=(h4 x hx).2
   exact af aM (EH x) ⟨iK _ (h4 x hx).1,TS _ _ (by omega) (fun q=>by rw[na.1 q];rfl),rfl⟩
def wlC (M:Mo) (b:Bool) (i:Int) (f:FuncId) (a:List AV) (m:Mem):Option (AV×Mem):=cond (ae f 17) (some (sB b,m)) none
def YK:bD:=aQ aI av [(17,0)] [] []
def acU:Sc:= .fin
def TT (M:Mo):aC:=
 (.at (ak ab5 bn 17 0 [AV.p (PV.sc (ae6 false)),AV.mp 0 0,AV.p (PV.sc (sd rn 0))] ([aU.pc [PV.ps M.tys.length 2 (aeR bW M.tys),PV.ps M.aZ.length 3 (aeR bQ M.aZ),PV.ps M.fns.length 3 (aeR aV M.fns),PV.ps M.cj.length 3 (aeR aN M.cj),PV.ps M.cM.length 3 (aeR aN M.cM),PV.ps M.gls.length 2 (aeR aY M.gls),PV.ps M.exs.length 3 (aeR aW M.exs),PV.sc (ae6 M.st),PV.sc (sd abb M.sn),PV.ps M.els.length 2 (aeR aX M.els),PV.ps M.bt.length 2 (aeR bg M.bt)]]) 0 35))
theorem PA (M:Mo):aH ab5 bn YK 1000000 17 ([AV.agg (abG AV.p M.aJ),sB false]) ([]) acU=TT M:=by kernel_rfl
def YL:bD:=aQ aI av [(17,0)] [(17,0,1),(17,6,4)] [(17,5,3),(17,5,4)]
def acV:Sc:= .fin
def vS (M:Mo) (i:Int):aC:=
 (.test (decide (i<(↑M.cM.length:Int)))
  (.must (bp i M.cM.length&&true&&true)
   (.must (isInt abb (aB (aeR aN M.cM) (i.toNat*3))&&(isInt abb (aB (aeR aN M.cM) (i.toNat*3+1))&&(isBool (aB (aeR aN M.cM) (i.toNat*3+1+1))&&true))&&true)
    (.test (decide (az (aB (aeR aN M.cM) (i.toNat*3))>64))
     (.out (Out.ret (AV.p (PV.sc (ae6 true))) []))
     (.at (ak ab5 bn 17 0 [AV.p (PV.sc (ae6 false)),AV.mp 0 0,AV.p (PV.sc (sd rn (rn.wrap (i+1))))] ([aU.pc [PV.ps M.tys.length 2 (aeR bW M.tys),PV.ps M.aZ.length 3 (aeR bQ M.aZ),PV.ps M.fns.length 3 (aeR aV M.fns),PV.ps M.cj.length 3 (aeR aN M.cj),PV.ps M.cM.length 3 (aeR aN M.cM),PV.ps M.gls.length 2 (aeR aY M.gls),PV.ps M.exs.length 3 (aeR aW M.exs),PV.sc (ae6 M.st),PV.sc (sd abb M.sn),PV.ps M.els.length 2 (aeR aX M.els),PV.ps M.bt.length 2 (aeR bg M.bt)]]) 0 35)))))
  (.out (Out.ret (AV.p (PV.sc (ae6 false))) [])))
theorem yM (M:Mo) (i:Int):grow ab5 bn YL 1000000 true (ak ab5 bn 17 0 ([sB false,AV.mp 0 0,sI rn i]) ([aU.pc M.aJ]) 0 35) acV atEnd=vS M i:=by kernel_rfl
def YM:bD:=aQ aI av [(6,0)] [] []
def acW:Sc:= .fin
def TU (M:Mo):aC:=
 (.at (ak ab5 bn 6 0 [AV.mp 0 0,AV.p (PV.sc (sd rn 0))] ([aU.pc [PV.ps M.tys.length 2 (aeR bW M.tys),PV.ps M.aZ.length 3 (aeR bQ M.aZ),PV.ps M.fns.length 3 (aeR aV M.fns),PV.ps M.cj.length 3 (aeR aN M.cj),PV.ps M.cM.length 3 (aeR aN M.cM),PV.ps M.gls.length 2 (aeR aY M.gls),PV.ps M.exs.length 3 (aeR aW M.exs),PV.sc (ae6 M.st),PV.sc (sd abb M.sn),PV.ps M.els.length 2 (aeR aX M.els),PV.ps M.bt.length 2 (aeR bg M.bt)]]) 0 24))
theorem PB (M:Mo):aH ab5 bn YM 1000000 6 ([AV.agg (abG AV.p M.aJ)]) ([]) acW=TU M:=by kernel_rfl
def YN (M:Mo) (b:Bool) (i:Int):bD:=aQ (wlC M b i) av [(6,0)] [(6,3,6),(6,0,1),(6,0,2)] [(6,5,3),(6,5,5)]
def acX:Sc:=(.fork .fin (.lit .fin))
def jA (M:Mo) (b:Bool):aC:=
 (.call ⟨17,[AV.agg [AV.p (PV.ps M.tys.length 2 (aeR bW M.tys)),AV.p (PV.ps M.aZ.length 3 (aeR bQ M.aZ)),AV.p (PV.ps M.fns.length 3 (aeR aV M.fns)),AV.p (PV.ps M.cj.length 3 (aeR aN M.cj)),AV.p (PV.ps M.cM.length 3 (aeR aN M.cM)),AV.p (PV.ps M.gls.length 2 (aeR aY M.gls)),AV.p (PV.ps M.exs.length 3 (aeR aW M.exs)),AV.p (PV.sc (ae6 M.st)),AV.p (PV.sc (sd abb M.sn)),AV.p (PV.ps M.els.length 2 (aeR aX M.els)),AV.p (PV.ps M.bt.length 2 (aeR bg M.bt))],AV.p (PV.sc (ae6 false))],[],AV.p (PV.sc (ae6 b)),[]⟩ (.out (Out.ret (AV.p (PV.sc (ae6 b))) [])))
def rK (M:Mo) (b:Bool) (i:Int):aC:=
 (.test (decide (i<(↑M.cj.length:Int)))
  (.test (decide (i<2))
   (.must (bp i M.cj.length&&true&&true)
    (.must (isInt abb (aB (aeR aN M.cj) (i.toNat*3+0))&&true)
     (.test (decide (az (aB (aeR aN M.cj) (i.toNat*3+0))>2000))
      (.out (Out.ret (AV.p (PV.sc (ae6 true))) []))
      (.at (ak ab5 bn 6 0 [AV.mp 0 0,AV.p (PV.sc (sd rn (rn.wrap (i+1))))] ([aU.pc [PV.ps M.tys.length 2 (aeR bW M.tys),PV.ps M.aZ.length 3 (aeR bQ M.aZ),PV.ps M.fns.length 3 (aeR aV M.fns),PV.ps M.cj.length 3 (aeR aN M.cj),PV.ps M.cM.length 3 (aeR aN M.cM),PV.ps M.gls.length 2 (aeR aY M.gls),PV.ps M.exs.length 3 (aeR aW M.exs),PV.sc (ae6 M.st),PV.sc (sd abb M.sn),PV.ps M.els.length 2 (aeR aX M.els),PV.ps M.bt.length 2 (aeR bg M.bt)]]) 0 24)))))
   (jA M b))
  (jA M b))
theorem rL (M:Mo) (b:Bool) (i:Int):grow ab5 bn (YN M b i) 1000000 true (ak ab5 bn 6 0 ([AV.mp 0 0,sI rn i]) ([aU.pc M.aJ]) 0 24) acX atEnd=rK M b i:=by kernel_rfl
theorem Lm (M:Mo) (hM:M.fit) : ∀(r i:Nat),i+r=M.cM.length → ∃b:Bool,bR ab5 bn (ak ab5 bn 17 0 [sB false,.mp 0 0,sI .i64 i] [.pc M.aJ] 0 35) (.ret (sB b) []) ∧
  (b=false → ∀(j:Nat) (x:Li),i≤j→M.cM[j]? = some x→x.mn≤64):=by
 intro r
 induction r with
 |zero=>
  intro i hi
  refine⟨false,ah aM (yM M i) ?_,fun _ j x hj hx=> ?_⟩
  · have h1 : ¬((i:Int)<(M.cM.length:Int)):=by omega
    simp[vS,bN,aC.ok,h1]
  · have:=(di.1 hx).1
    omega
 |succ r ih=>
  intro i hi
  have hl:=hM.cM
  have ud:i<M.cM.length:=by omega
  have vo:M.cM[i]? = some M.cM[i]:=bm ud
  have c:=bq (z:=3) (enc:=aN) (fun _=>rfl) vo
  have c0:=c 0 (by decide)
  have c1:=c 1 (by decide)
  have c2:=c 2 (by decide)
  generalize M.cM[i]=y at *
  simp only[aN,ae8,ae9,ph] at c0 c1 c2
  have hw:rn.wrap ((i:Int)+1)=((i+1:Nat):Int):=by rw[aO (by omega) (by omega)];rfl
  have mC:(i:Int)<(M.cM.length:Int):=by omega
  obtain⟨b,hb,hq⟩:=ih (i+1) (by omega)
  by_cases hy:y.mn>64
  · refine⟨true,ah aM (yM M i) ?_,fun q=>by cases q⟩
    simp only[vS,bN,aC.ok,fg,ab2,c0,c1,c2,isInt,isBool,az,bu,aep,bp,hw]
    exact⟨fun _=>⟨by simp[mC],by simp,fun _=>trivial,fun q=>absurd hy (by simpa using q)⟩,fun q=>absurd mC (by simpa using q)⟩
  · refine⟨b,ah aM (yM M i) ?_,fun q j x hj hx=> ?_⟩
    · simp only[vS,bN,aC.ok,fg,ab2,c0,c1,c2,isInt,isBool,az,bu,aep,bp,hw]
      exact⟨fun _=>⟨by simp[mC],by simp,fun q=>absurd (by simpa using q) hy,fun _=>hb⟩,fun q=>absurd mC (by simpa using q)⟩
    · rcases ae5 hj with e | e
      · subst e
        rw[vo] at hx
        obtain rfl:=Option.some.inj hx
        omega
      · exact hq q j x e hx
theorem G2 (M:Mo) (hM:M.fit) : ∃b:Bool,an ab5 bn 17 [.agg (M.aJ.map .p),sB false] [] (sB b) []∧(b=false → ∀x∈M.cM,x.mn≤64):=by
 obtain⟨b,h1,h2⟩:=Lm M hM M.cM.length 0 (by omega)
 refine⟨b,af aM (PA M) h1,fun q x hx=> ?_⟩
 obtain⟨j,hj,rfl⟩:=List.getElem_of_mem hx
 exact h2 q j _ (by omega) (bm hj)
theorem Ln (M:Mo) (hM:M.fit) (b:Bool) (hB:an ab5 bn 17 [.agg (M.aJ.map .p),sB false] [] (sB b) []) : ∀(r i:Nat),i+r=M.cj.length → ∃w:Bool,bR ab5 bn (ak ab5 bn 6 0 [.mp 0 0,sI .i64 i] [.pc M.aJ] 0 24) (.ret (sB w) []) ∧
  (w=false→b=false ∧ ∀(j:Nat) (x:Li),i≤j→j<2→M.cj[j]? = some x→x.mn≤2000):=by
 intro r
 induction r with
 |zero=>
  intro i hi
  refine⟨b,ah aM (rL M b i) ?_,fun q=>⟨q,fun j x hj _ hx=> ?_⟩⟩
  · have h1 : ¬((i:Int)<(M.cj.length:Int)):=by omega
    simp only[rK,jA,bN,aC.ok]
    exact⟨fun q=>absurd (by simpa using q) h1,fun _=>⟨hB,trivial⟩⟩
  · have:=(di.1 hx).1
    omega
 |succ r ih=>
  intro i hi
  have hl:=hM.cj
  have ud:i<M.cj.length:=by omega
  have vo:M.cj[i]? = some M.cj[i]:=bm ud
  have c:=bq (z:=3) (enc:=aN) (fun _=>rfl) vo
  have c0:=c 0 (by decide)
  generalize M.cj[i]=y at *
  simp only[aN,ae8,ae9,ph] at c0
  have hw:rn.wrap ((i:Int)+1)=((i+1:Nat):Int):=by rw[aO (by omega) (by omega)];rfl
  have mC:(i:Int)<(M.cj.length:Int):=by omega
  obtain⟨w,hb,hq⟩:=ih (i+1) (by omega)
  by_cases h2:i<2
  · have h2I:(i:Int)<2:=by omega
    by_cases hy:y.mn>2000
    · refine⟨true,ah aM (rL M b i) ?_,fun q=>by cases q⟩
      simp only[rK,jA,bN,aC.ok,ph,fg,ab2,c0,isInt,az,aep,bp,hw]
      exact⟨fun _=>⟨fun _=>⟨by simp[mC],by simp,fun _=>trivial,fun q=>absurd hy (by simpa using q)⟩,fun q=>absurd h2I (by simpa using q)⟩,fun q=>absurd mC (by simpa using q)⟩
    · refine⟨w,ah aM (rL M b i) ?_,fun q=>⟨(hq q).1,fun j x hj hj2 hx=> ?_⟩⟩
      · simp only[rK,jA,bN,aC.ok,ph,fg,ab2,c0,isInt,az,aep,bp,hw]
        exact⟨fun _=>⟨fun _=>⟨by simp[mC],by simp,fun q=>absurd (by simpa using q) hy,fun _=>hb⟩,fun q=>absurd h2I (by simpa using q)⟩,fun q=>absurd mC (by simpa using q)⟩
      · rcases ae5 hj with e | e
        · subst e
          rw[vo] at hx
          obtain rfl:=Option.some.inj hx
          omega
        · exact(hq q).2 j x e hj2 hx
  · have h2I : ¬((i:Int)<2):=by omega
    refine⟨b,ah aM (rL M b i) ?_,fun q=>⟨q,fun j x hj hj2 hx=>by omega⟩⟩
    simp only[rK,jA,bN,aC.ok]
    exact⟨fun _=>⟨fun q=>absurd (by simpa using q) h2I,fun _=>⟨hB,trivial⟩⟩,fun q=>absurd mC (by simpa using q)⟩
theorem Lo (M:Mo) (hM:M.fit) : ∃w:Bool,an ab5 bn 6 [.agg (M.aJ.map .p)] [] (sB w) []∧(w=false→(∀x∈M.cM,x.mn≤64) ∧ ∀(j:Nat) (x:Li),j<2→M.cj[j]? = some x→x.mn≤2000):=by
 obtain⟨b,h1,h2⟩:=G2 M hM
 obtain⟨w,h3,h4⟩:=Ln M hM b h1 M.cj.length 0 (by omega)
 exact⟨w,af aM (PB M) h3,fun q=>⟨h2 (h4 q).1,fun j x hj hx=>(h4 q).2 j x (by omega) hj hx⟩⟩
end Go.Proofs.YtjfgfhaoeicpdaaGreatDoor.N
end
