import Derived.Test.YtjfgfhaoeicpdaaGreatDoorMU
import Derived.Test.YtjfgfhaoeicpdaaGreatDoorMH
import Derived.Test.YtjfgfhaoeicpdaaGreatDoorMF
open List renaming flatMap→aeR
open Go.Value renaming int→sd,bool→ae6,pointer→ah6
open Go.IntKind renaming i64→rn,u32→abb
open Go.Proofs.Tryz renaming prog→ab5
noncomputable section
section
set_option linter.unusedSimpArgs false
set_option linter.unusedVariables false
namespace Go.Am
open Go.RowKit
section
variable {P:Program} {E:Env}
theorem an.memory {f:FuncId} {args:List AV} {m m' m'':Mem} {v:AV} (h:an P E f args m v m') (hlen:m'.length≤m''.length) (hm : ∀(g:Gh) (w:World),Rel g m' w→Rel g m'' w∧dc g m' w g m'' w):an P E f args m v m'':=by
 refine⟨h.1,fun g w cJ cs hr ha hg=> ?_⟩
 obtain⟨w',g',cv,fr,h1,h2,h3,h4,h5,h6,h7,h8⟩:=h.2 g w cJ cs hr ha hg
 obtain⟨k1,k2⟩:=hm g' w' h5
 exact⟨w',g',cv,fr,h1,h2,h3,h4,k1,h6.trans k2,h7,Nat.le_trans h8 hlen⟩
theorem an.vZ {f:FuncId} {args:List AV} {m m':Mem} {v:AV} {i:Nat} {l l':List AV} (h:an P E f args m v m') (hb:m'[i]? = some (.ac l)) (hl : ∀(g:Gh) (w:World) vs,cA g w l vs→cA g w l' vs):an P E f args m v (m'.set i (.ac l')):=
 h.memory (by simp) fun g w hr=>hr.I5 hb (hl g w)
theorem bR.VB {c:cm} {o:Out} {i:Nat} {l l':List AV} (hc:CE c=true) (hb:c.st.mem[i]? = some (.ac l)) (hl : ∀(g:Gh) (w:World) vs,cA g w l vs→cA g w l' vs)
  (h:bR P E {c with st:={c.st with mem:=c.st.mem.set i (.ac l')++[.tok]}} o):bR P E c o:=by
 refine bR.bz (fun g fr w hr cs=> ?_) h
 obtain⟨f,todo,st⟩:=c
 obtain⟨tm,nt,mem,fix,cw,b9⟩:=st
 dsimp only at hb h ⊢
 match todo,hc with
 |.code j x::k,_=>
  obtain⟨b,a,q1,q2,q3,q4,q5,q6⟩:=hr
  have Gp:Rel g mem w:=q5.rel
  obtain⟨r1,r2⟩:=Gp.I5 hb (hl g w)
  obtain⟨f1,f2⟩:=r1.cV 1
  have hn:(mem.set i (.ac l')++cV 1)[mem.length]? = some .free:=by
   rw[List.getElem?_append_right (by simp)];simp[cV]
  obtain⟨z1,z2⟩:=f1.vK hn
  have hmem:(mem.set i (.ac l')++cV 1).set mem.length .tok=mem.set i (.ac l')++[.tok]:=by
   rw[show mem.length=(mem.set i (.ac l')).length by simp];simp[cV]
  rw[hmem] at z1 z2
  refine⟨g,fr,w,Steps.refl _ _,⟨b,a,q1,q2,q3,q4,⟨q5.tm,q5.nt,z1,?_,q5.cQ⟩,q6⟩,(r2.trans f2).trans z2,bM.refl _ _,rfl,rfl,rfl⟩
  have:=q5.fix
  dsimp only at this ⊢
  simp only[List.length_append,List.length_set]
  omega
theorem zo : ∀{l l':List AV} {g:Gh} {w:World} {vs:List Value},bH (fun a b=> ∀(g:Gh) (w:World) (v:Value),VA g w a v→VA g w b v) l l'→cA g w l vs→cA g w l' vs
 |[],[],_,_,[],_,_=>trivial
 |a::l,b::l',g,w,x::vs,h,hv=>⟨h.1 g w x hv.1,zo h.2 hv.2⟩
 |[],_::_,_,_,_,h,_=>h.elim
 |_::_,[],_,_,_,h,_=>h.elim
 |[],[],_,_,_::_,_,h=>h.elim
 |_::_,_::_,_,_,[],_,h=>h.elim
end
end Go.Am
namespace Go.Proofs.YtjfgfhaoeicpdaaGreatDoor.N
open Go Go.Am
def nwC (f:FuncId) (a:List AV) (m:Mem):Option (AV×Mem):=cond (Nat.beq f 7) (some (.agg [sI .i64 0,sI .i64 0,sI .i64 0,sI .i64 0],m)) (cond (Nat.beq f 20) (match a with | v::_=>some (v,m) | _=>none) none)
def aay:bD:=aQ nwC av [(8,2),(8,4),(8,8)] [] []
def aet:Sc:= .fin
def JP (M:Mo):aC:=
 (.call ⟨7,[AV.agg [AV.p (PV.ps (aE M).tys.length 2 (aeR bW (aE M).tys)),AV.p (PV.ps 0 3 []),AV.p (PV.ps (aE M).fns.length 3 (aeR aV (aE M).fns)),AV.p (PV.ps (aE M).cj.length 3 (aeR aN (aE M).cj)),AV.p (PV.ps (aE M).cM.length 3 (aeR aN (aE M).cM)),AV.p (PV.ps (aE M).gls.length 2 (aeR aY (aE M).gls)),AV.p (PV.ps (aE M).exs.length 3 (aeR aW (aE M).exs)),AV.p (PV.sc (ae6 (aE M).st)),AV.p (PV.sc (sd abb (aE M).sn)),AV.p (PV.ps 0 2 []),AV.p (PV.ps 0 2 [])]],[],AV.agg [AV.p (PV.sc (sd rn 0)),AV.p (PV.sc (sd rn 0)),AV.p (PV.sc (sd rn 0)),AV.p (PV.sc (sd rn 0))],[]⟩
  (.call ⟨20,[AV.agg [AV.p (PV.ps (aE M).tys.length 2 (aeR bW (aE M).tys)),AV.p (PV.ps 0 3 []),AV.p (PV.ps (aE M).fns.length 3 (aeR aV (aE M).fns)),AV.p (PV.ps (aE M).cj.length 3 (aeR aN (aE M).cj)),AV.p (PV.ps (aE M).cM.length 3 (aeR aN (aE M).cM)),AV.p (PV.ps (aE M).gls.length 2 (aeR aY (aE M).gls)),AV.p (PV.ps (aE M).exs.length 3 (aeR aW (aE M).exs)),AV.p (PV.sc (ae6 (aE M).st)),AV.p (PV.sc (sd abb (aE M).sn)),AV.p (PV.ps 0 2 []),AV.p (PV.ps 0 2 [])]],[],AV.agg [AV.p (PV.ps (aE M).tys.length 2 (aeR bW (aE M).tys)),AV.p (PV.ps 0 3 []),AV.p (PV.ps (aE M).fns.length 3 (aeR aV (aE M).fns)),AV.p (PV.ps (aE M).cj.length 3 (aeR aN (aE M).cj)),AV.p (PV.ps (aE M).cM.length 3 (aeR aN (aE M).cM)),AV.p (PV.ps (aE M).gls.length 2 (aeR aY (aE M).gls)),AV.p (PV.ps (aE M).exs.length 3 (aeR aW (aE M).exs)),AV.p (PV.sc (ae6 (aE M).st)),AV.p (PV.sc (sd abb (aE M).sn)),AV.p (PV.ps 0 2 []),AV.p (PV.ps 0 2 [])],[]⟩
   (.at (ak ab5 bn 8 4 [AV.mp 0 0,AV.mp 1 0,AV.p (PV.ps (aE M).gls.length 2 (aeR aY (aE M).gls)),AV.p (PV.sc (sd rn (↑(aE M).gls.length:Int))),AV.p (PV.sc (sd rn 0))] ([aU.pc [PV.ps (aE M).tys.length 2 (aeR bW (aE M).tys),PV.ps 0 3 [],PV.ps (aE M).fns.length 3 (aeR aV (aE M).fns),PV.ps (aE M).cj.length 3 (aeR aN (aE M).cj),PV.ps (aE M).cM.length 3 (aeR aN (aE M).cM),PV.ps (aE M).gls.length 2 (aeR aY (aE M).gls),PV.ps (aE M).exs.length 3 (aeR aW (aE M).exs),PV.sc (ae6 (aE M).st),PV.sc (sd abb (aE M).sn),PV.ps 0 2 [],PV.ps 0 2 []],aU.ac [AV.p (PV.ps (aE M).tys.length 2 (aeR bW (aE M).tys)),AV.p (PV.ps 0 3 []),AV.p (PV.ps (aE M).fns.length 3 (aeR aV (aE M).fns)),AV.p (PV.ps (aE M).cj.length 3 (aeR aN (aE M).cj)),AV.p (PV.ps (aE M).cM.length 3 (aeR aN (aE M).cM)),AV.p (PV.ps (aE M).gls.length 2 (aeR aY (aE M).gls)),AV.p (PV.ps (aE M).exs.length 3 (aeR aW (aE M).exs)),AV.p (PV.sc (ae6 (aE M).st)),AV.p (PV.sc (sd abb (aE M).sn)),AV.p (PV.ps 0 2 []),AV.p (PV.ps 0 2 []),AV.p (PV.sc (ah6 Option.none)),mq,mq,mq,AV.p (PV.sc (ae6 true))]]) 0 119))))
theorem Ru (M:Mo):aH ab5 bn aay 1000000 8 ([AV.agg (List.map AV.p (aE M).aJ)]) ([]) aet=JP M:=by kernel_rfl
theorem wg (M:Mo) {mp tb gl:AV} {g:Gh} {w:World} {vs:List Value} (h:cA g w ((aE M).aJ.map .p++[mp,tb,gl,.os none 0 0 [],sB true]) vs):cA g w ((aE M).aJ.map .p++[mp,tb,.aj,.aj,sB true]) vs:=
 zo (l:=[.p _,.p _,.p _,.p _,.p _,.p _,.p _,.p _,.p _,.p _,.p _,mp,tb,gl,.os none 0 0 [],sB true]) (l':=[.p _,.p _,.p _,.p _,.p _,.p _,.p _,.p _,.p _,.p _,.p _,mp,tb,.aj,.aj,sB true])
  ⟨fun _ _ _ h=>h,fun _ _ _ h=>h,fun _ _ _ h=>h,fun _ _ _ h=>h,fun _ _ _ h=>h,fun _ _ _ h=>h,fun _ _ _ h=>h,fun _ _ _ h=>h,fun _ _ _ h=>h,fun _ _ _ h=>h,fun _ _ _ h=>h,fun _ _ _ h=>h,fun _ _ _ h=>h,fun _ _ v _=> .aj v,fun _ _ v _=> .aj v,fun _ _ _ h=>h,trivial⟩ h
def Wd (M:Mo) (mp tb:AV):aU:= .ac ((aE M).aJ.map .p++[mp,tb,.aj,.aj,sB true])
def tbV (b:Nat) (x:Li):AV:= .ms b 0 x.mn.toNat 1 (some x.mn.toNat)
def tbC (x:Li):aU:= .pc (List.replicate x.mn.toNat (mO (eH (ah6 none))))
def meB (b:Nat) (x:Li):aU:= .ac [.vm b,sI .u32 x.mn,sI .u32 (if x.cap=true then x.mx else 65536)]
def kK (M:Mo):Mem:=match M.cM,M.cj with
 |x::_,y::_=>[Wd M (.mp 1 0) (tbV 2 y),meB 4 x,tbC y,.dead,.ob (.map [] [] 0) []]
 |x::_,[]=>[Wd M (.mp 1 0) (.os none 0 0 []),meB 3 x,.dead,.ob (.map [] [] 0) []]
 |[],y::_=>[Wd M (.p kQ) (tbV 1 y),tbC y,.dead]
 |[],[]=>[Wd M (.p kQ) (.os none 0 0 []),.dead]
def sj:AV:= .aA [.mp 0 0,sI .i64 0]
theorem VC (M:Mo) (g:Gh) (w:World) (vs:List Value) (h:cA g w (glI M (.p kQ) (.os none 0 0 [])) vs):cA g w (glI M (.p kQ) (.os (some 2) 0 1 [])) vs:=
 zo (l:=[.p _,.p _,.p _,.p _,.p _,.p _,.p _,.p _,.p _,.p _,.p _,.p kQ,.os none 0 0 [],.os none 0 0 [],.os none 0 0 [],sB true]) (l':=[.p _,.p _,.p _,.p _,.p _,.p _,.p _,.p _,.p _,.p _,.p _,.p kQ,.os none 0 0 [],.os (some 2) 0 1 [],.os none 0 0 [],sB true])
  ⟨fun _ _ _ h=>h,fun _ _ _ h=>h,fun _ _ _ h=>h,fun _ _ _ h=>h,fun _ _ _ h=>h,fun _ _ _ h=>h,fun _ _ _ h=>h,fun _ _ _ h=>h,fun _ _ _ h=>h,fun _ _ _ h=>h,fun _ _ _ h=>h,fun _ _ _ h=>h,fun _ _ _ h=>h,fun _ _ _ h=>VA.mD (Nat.le_refl 1) h,fun _ _ _ h=>h,fun _ _ _ h=>h,trivial⟩ h
theorem L0 (M:Mo) {o:Out} (h:bR ab5 bn (nlH M 0 []) o):bR ab5 bn (ak ab5 bn 8 4 [.mp 0 0,.mp 1 0,.p (.ps M.gls.length 2 (M.gls.flatMap aY)),sI .i64 M.gls.length,sI .i64 0] [.pc (aE M).aJ,.ac (glI M (.p kQ) (.os none 0 0 []))] 0 119) o:=
 bR.VB (i:=1) (by kernel_rfl) (by kernel_rfl) (VC M) (bR.YJ (by kernel_rfl) h)
set_option maxRecDepth 20000 in
theorem aeu (M:Mo) (hM:M.fit) (h7:an ab5 bn 7 [.agg ((aE M).aJ.map .p)] [] (.agg [sI .i64 0,sI .i64 0,sI .i64 0,sI .i64 0]) []) (h20:an ab5 bn 20 [.agg ((aE M).aJ.map .p)] [] (.agg ((aE M).aJ.map .p)) [])
  (hk : ∀x∈M.gls,∃u,an ab5 bn 22 [aL x.l] [] (.aA [sI .u32 u,sI .i64 0]) []) :
  ∃cs:List PV,∀v m,bR ab5 bn (nlH M M.gls.length cs) (.ret v m)→an ab5 bn 8 [.agg ((aE M).aJ.map .p)] [] v m:=by
 obtain⟨cs,hcs⟩:=Vz M hM hk M.gls.length 0 [] (by omega)
 refine⟨cs,fun v m hg=>af aM (Ru M) ?_⟩
 have h0:=L0 M (hcs _ hg)
 unfold JP
 simp only[aC.ok]
 exact⟨h7,h20,bR.YJ (by kernel_rfl) h0⟩
theorem L2 (M:Mo) (hM:M.fit) (aev:M.cM.length≤1) (aew:M.cj.length≤1) (hme : ∀x∈M.cM,TL 65536 x=0) (hta : ∀x∈M.cj,0≤x.mn∧x.mn≤4294967295)
  (h7:an ab5 bn 7 [.agg ((aE M).aJ.map .p)] [] (.agg [sI .i64 0,sI .i64 0,sI .i64 0,sI .i64 0]) []) (h20:an ab5 bn 20 [.agg ((aE M).aJ.map .p)] [] (.agg ((aE M).aJ.map .p)) [])
  (hk : ∀x∈M.gls,∃u,an ab5 bn 22 [aL x.l] [] (.aA [sI .u32 u,sI .i64 0]) []) :
  an ab5 bn 8 [.agg ((aE M).aJ.map .p)] [] sj (kK M):=by
 obtain⟨cs,hw⟩:=aeu M hM h7 h20 hk
 have hL:ef=70368744177664:=rfl
 have z : ∀(u mn mx:Int) {o:Out},(Dg M M.gls.length cs u mn mx M.gls.length).ok ab5 bn o→bR ab5 bn (nlH M M.gls.length cs) o:=fun u mn mx o h=>ah aM (FH M M.gls.length cs u mn mx M.gls.length) h
 have tb : ∀n:Int,0≤n∧n≤4294967295→(decide (0≤n)&&decide (n≤n)&&n.toNat.ble ef&&(8*n.toNat).ble ef&&true)=true:=fun n ⟨a,b⟩=>by
  simp only[Bool.and_true,Bool.and_eq_true,decide_eq_true_eq,Nat.ble_eq]
  omega
 clear h7 h20 hk
 obtain⟨tys,aZ,fns,cj,cM,gls,exs,st,sn,els,bt⟩:=M
 have hg : ¬((gls.length:Int)<(gls.length:Int)):=by omega
 dsimp only at aev aew hme hta
 rcases cM with _ | ⟨x,_ | ⟨x2,cM⟩⟩<;>rcases cj with _ | ⟨y,_ | ⟨y2,cj⟩⟩<;>first | (exfalso;simp at aev;done) | (exfalso;simp at aew;done) | skip
 · exact an.kill ((hw _ _ (z 0 0 0 (o:= .ret sj [.ac (((aE ⟨tys,aZ,fns,[],[],gls,exs,st,sn,els,bt⟩).aJ.map AV.p)++[.p kQ,.os none 0 0 [],.os (some 1) gls.length 1 cs,.os none 0 0 [],sB true]),.tok])
    ⟨fun q=>absurd (of_decide_eq_true q) hg,fun _=>⟨fun q=>absurd q (show ¬decide (((0:Nat):Int)>0)=true by decide),fun _=>⟨fun q=>absurd q (show ¬decide (((0:Nat):Int)>0)=true by decide),fun _=>rfl⟩⟩⟩)).vZ (i:=0) rfl fun g w vs h=>wg _ h) 1
 · exact an.kill ((hw _ _ (z 0 0 0 (o:= .ret sj [.ac (((aE ⟨tys,aZ,fns,[y],[],gls,exs,st,sn,els,bt⟩).aJ.map AV.p)++[.p kQ,tbV 1 y,.os (some 2) gls.length 1 cs,.os none 0 0 [],sB true]),tbC y,.tok])
    ⟨fun q=>absurd (of_decide_eq_true q) hg,fun _=>⟨fun q=>absurd q (show ¬decide (((0:Nat):Int)>0)=true by decide),fun _=>⟨fun _=>⟨rfl,rfl,tb _ (hta y (.head _)),rfl⟩,fun q=>absurd q (show ¬decide (((1:Nat):Int)>0)=false by decide)⟩⟩⟩)).vZ (i:=0) rfl fun g w vs h=>wg _ h) 2
 · exact an.kill ((hw _ _ (z 0 x.mn (if x.cap=true then x.mx else 65536) (o:= .ret sj [.ac (((aE ⟨tys,aZ,fns,[],[x],gls,exs,st,sn,els,bt⟩).aJ.map AV.p)++[.mp 1 0,.os none 0 0 [],.os (some 2) gls.length 1 cs,.os none 0 0 [],sB true]),meB 3 x,.tok,.ob (.map [] [] 0) []])
    ⟨fun q=>absurd (of_decide_eq_true q) hg,fun _=>⟨fun _=>⟨rfl,rfl,Be x (hme x (.head _)),fun q=>absurd q (show ¬decide (((0:Nat):Int)>0)=true by decide),fun _=>rfl⟩,fun q=>absurd q (show ¬decide (((1:Nat):Int)>0)=false by decide)⟩⟩)).vZ (i:=0) rfl fun g w vs h=>wg _ h) 2
 · exact an.kill ((hw _ _ (z 0 x.mn (if x.cap=true then x.mx else 65536) (o:= .ret sj [.ac (((aE ⟨tys,aZ,fns,[y],[x],gls,exs,st,sn,els,bt⟩).aJ.map AV.p)++[.mp 1 0,tbV 2 y,.os (some 3) gls.length 1 cs,.os none 0 0 [],sB true]),meB 4 x,tbC y,.tok,.ob (.map [] [] 0) []])
    ⟨fun q=>absurd (of_decide_eq_true q) hg,fun _=>⟨fun _=>⟨rfl,rfl,Be x (hme x (.head _)),fun _=>⟨rfl,rfl,tb _ (hta y (.head _)),rfl⟩,fun q=>absurd q (show ¬decide (((1:Nat):Int)>0)=false by decide)⟩,fun q=>absurd q (show ¬decide (((1:Nat):Int)>0)=false by decide)⟩⟩)).vZ (i:=0) rfl fun g w vs h=>wg _ h) 3
end Go.Proofs.YtjfgfhaoeicpdaaGreatDoor.N
end
section
namespace Go.Proofs.YtjfgfhaoeicpdaaGreatDoor.N
open Go Go.Am
def eY:Env where
 cQ:=pF tabs
 wr:=wrs
 keep _ _:=none
def L3:bE:=⟨140,[.p (.sc (.string ⟨#[101,113,122,32,101,113,32,110,101,32,108,116,95,115,32,108,116,95,117,32,103,116,95,115,32,103,116,95,117,32,108,101,95,115,32,108,101,95,117,32,103,101,95,115,32,103,101,95,117]⟩))],[],.p (.ps 11 1 [.sc (.string ⟨#[101,113,122]⟩),.sc (.string ⟨#[101,113]⟩),.sc (.string ⟨#[110,101]⟩),.sc (.string ⟨#[108,116,95,115]⟩),.sc (.string ⟨#[108,116,95,117]⟩),.sc (.string ⟨#[103,116,95,115]⟩),.sc (.string ⟨#[103,116,95,117]⟩),.sc (.string ⟨#[108,101,95,115]⟩),.sc (.string ⟨#[108,101,95,117]⟩),.sc (.string ⟨#[103,101,95,115]⟩),.sc (.string ⟨#[103,101,95,117]⟩)]),[]⟩
theorem ahK:an ab5 eY L3.g L3.args L3.m L3.v L3.m':=bG aM (K:=[]) eZ (n:=10000000) (by kernel_rfl)
def aaz:List bE:=L3::[]
theorem Rx:cR ab5 eY aaz:=bP ahK eZ
def L4:bE:=⟨140,[.p (.sc (.string ⟨#[99,108,122,32,99,116,122,32,112,111,112,99,110,116,32,97,100,100,32,115,117,98,32,109,117,108,32,100,105,118,95,115,32,100,105,118,95,117,32,114,101,109,95,115,32,114,101,109,95,117,32,97,110,100,32,111,114,32,120,111,114,32,115,104,108,32,115,104,114,95,115,32,115,104,114,95,117,32,114,111,116,108,32,114,111,116,114]⟩))],[],.p (.ps 18 1 [.sc (.string ⟨#[99,108,122]⟩),.sc (.string ⟨#[99,116,122]⟩),.sc (.string ⟨#[112,111,112,99,110,116]⟩),.sc (.string ⟨#[97,100,100]⟩),.sc (.string ⟨#[115,117,98]⟩),.sc (.string ⟨#[109,117,108]⟩),.sc (.string ⟨#[100,105,118,95,115]⟩),.sc (.string ⟨#[100,105,118,95,117]⟩),.sc (.string ⟨#[114,101,109,95,115]⟩),.sc (.string ⟨#[114,101,109,95,117]⟩),.sc (.string ⟨#[97,110,100]⟩),.sc (.string ⟨#[111,114]⟩),.sc (.string ⟨#[120,111,114]⟩),.sc (.string ⟨#[115,104,108]⟩),.sc (.string ⟨#[115,104,114,95,115]⟩),.sc (.string ⟨#[115,104,114,95,117]⟩),.sc (.string ⟨#[114,111,116,108]⟩),.sc (.string ⟨#[114,111,116,114]⟩)]),[]⟩
theorem ahL:an ab5 eY L4.g L4.args L4.m L4.v L4.m':=bG aM (K:=aaz) Rx (n:=10000000) (by kernel_rfl)
def aaA:List bE:=L4::aaz
theorem Ry:cR ab5 eY aaA:=bP ahL Rx
def L5:bE:=⟨128,[],[],.agg [.p (.sc (.string ⟨#[117,110,114,101,97,99,104,97,98,108,101]⟩)),.p (.sc (.string ⟨#[110,111,112]⟩)),.p (.sc (.string ⟨#[98,108,111,99,107]⟩)),.p (.sc (.string ⟨#[108,111,111,112]⟩)),.p (.sc (.string ⟨#[105,102]⟩)),.p (.sc (.string ⟨#[]⟩)),.p (.sc (.string ⟨#[]⟩)),.p (.sc (.string ⟨#[]⟩)),.p (.sc (.string ⟨#[]⟩)),.p (.sc (.string ⟨#[]⟩)),.p (.sc (.string ⟨#[]⟩)),.p (.sc (.string ⟨#[]⟩)),.p (.sc (.string ⟨#[98,114]⟩)),.p (.sc (.string ⟨#[98,114,95,105,102]⟩)),.p (.sc (.string ⟨#[98,114,95,116,97,98,108,101]⟩)),.p (.sc (.string ⟨#[114,101,116,117,114,110]⟩)),.p (.sc (.string ⟨#[99,97,108,108]⟩)),.p (.sc (.string ⟨#[99,97,108,108,95,105,110,100,105,114,101,99,116]⟩)),.p (.sc (.string ⟨#[]⟩)),.p (.sc (.string ⟨#[]⟩)),.p (.sc (.string ⟨#[]⟩)),.p (.sc (.string ⟨#[]⟩)),.p (.sc (.string ⟨#[]⟩)),.p (.sc (.string ⟨#[]⟩)),.p (.sc (.string ⟨#[]⟩)),.p (.sc (.string ⟨#[]⟩)),.p (.sc (.string ⟨#[100,114,111,112]⟩)),.p (.sc (.string ⟨#[115,101,108,101,99,116]⟩)),.p (.sc (.string ⟨#[]⟩)),.p (.sc (.string ⟨#[]⟩)),.p (.sc (.string ⟨#[]⟩)),.p (.sc (.string ⟨#[]⟩)),.p (.sc (.string ⟨#[108,111,99,97,108,46,103,101,116]⟩)),.p (.sc (.string ⟨#[108,111,99,97,108,46,115,101,116]⟩)),.p (.sc (.string ⟨#[108,111,99,97,108,46,116,101,101]⟩)),.p (.sc (.string ⟨#[103,108,111,98,97,108,46,103,101,116]⟩)),.p (.sc (.string ⟨#[103,108,111,98,97,108,46,115,101,116]⟩)),.p (.sc (.string ⟨#[]⟩)),.p (.sc (.string ⟨#[]⟩)),.p (.sc (.string ⟨#[]⟩)),.p (.sc (.string ⟨#[105,51,50,46,108,111,97,100]⟩)),.p (.sc (.string ⟨#[]⟩)),.p (.sc (.string ⟨#[]⟩)),.p (.sc (.string ⟨#[]⟩)),.p (.sc (.string ⟨#[105,51,50,46,108,111,97,100,56,95,115]⟩)),.p (.sc (.string ⟨#[105,51,50,46,108,111,97,100,56,95,117]⟩)),.p (.sc (.string ⟨#[105,51,50,46,108,111,97,100,49,54,95,115]⟩)),.p (.sc (.string ⟨#[105,51,50,46,108,111,97,100,49,54,95,117]⟩)),.p (.sc (.string ⟨#[]⟩)),.p (.sc (.string ⟨#[]⟩)),.p (.sc (.string ⟨#[]⟩)),.p (.sc (.string ⟨#[]⟩)),.p (.sc (.string ⟨#[]⟩)),.p (.sc (.string ⟨#[]⟩)),.p (.sc (.string ⟨#[105,51,50,46,115,116,111,114,101]⟩)),.p (.sc (.string ⟨#[]⟩)),.p (.sc (.string ⟨#[]⟩)),.p (.sc (.string ⟨#[]⟩)),.p (.sc (.string ⟨#[105,51,50,46,115,116,111,114,101,56]⟩)),.p (.sc (.string ⟨#[105,51,50,46,115,116,111,114,101,49,54]⟩)),.p (.sc (.string ⟨#[]⟩)),.p (.sc (.string ⟨#[]⟩)),.p (.sc (.string ⟨#[]⟩)),.p (.sc (.string ⟨#[109,101,109,111,114,121,46,115,105,122,101]⟩)),.p (.sc (.string ⟨#[109,101,109,111,114,121,46,103,114,111,119]⟩)),.p (.sc (.string ⟨#[105,51,50,46,99,111,110,115,116]⟩)),.p (.sc (.string ⟨#[]⟩)),.p (.sc (.string ⟨#[]⟩)),.p (.sc (.string ⟨#[]⟩)),.p (.sc (.string ⟨#[105,51,50,46,101,113,122]⟩)),.p (.sc (.string ⟨#[105,51,50,46,101,113]⟩)),.p (.sc (.string ⟨#[105,51,50,46,110,101]⟩)),.p (.sc (.string ⟨#[105,51,50,46,108,116,95,115]⟩)),.p (.sc (.string ⟨#[105,51,50,46,108,116,95,117]⟩)),.p (.sc (.string ⟨#[105,51,50,46,103,116,95,115]⟩)),.p (.sc (.string ⟨#[105,51,50,46,103,116,95,117]⟩)),.p (.sc (.string ⟨#[105,51,50,46,108,101,95,115]⟩)),.p (.sc (.string ⟨#[105,51,50,46,108,101,95,117]⟩)),.p (.sc (.string ⟨#[105,51,50,46,103,101,95,115]⟩)),.p (.sc (.string ⟨#[105,51,50,46,103,101,95,117]⟩)),.p (.sc (.string ⟨#[]⟩)),.p (.sc (.string ⟨#[]⟩)),.p (.sc (.string ⟨#[]⟩)),.p (.sc (.string ⟨#[]⟩)),.p (.sc (.string ⟨#[]⟩)),.p (.sc (.string ⟨#[]⟩)),.p (.sc (.string ⟨#[]⟩)),.p (.sc (.string ⟨#[]⟩)),.p (.sc (.string ⟨#[]⟩)),.p (.sc (.string ⟨#[]⟩)),.p (.sc (.string ⟨#[]⟩)),.p (.sc (.string ⟨#[]⟩)),.p (.sc (.string ⟨#[]⟩)),.p (.sc (.string ⟨#[]⟩)),.p (.sc (.string ⟨#[]⟩)),.p (.sc (.string ⟨#[]⟩)),.p (.sc (.string ⟨#[]⟩)),.p (.sc (.string ⟨#[]⟩)),.p (.sc (.string ⟨#[]⟩)),.p (.sc (.string ⟨#[]⟩)),.p (.sc (.string ⟨#[]⟩)),.p (.sc (.string ⟨#[]⟩)),.p (.sc (.string ⟨#[]⟩)),.p (.sc (.string ⟨#[105,51,50,46,99,108,122]⟩)),.p (.sc (.string ⟨#[105,51,50,46,99,116,122]⟩)),.p (.sc (.string ⟨#[105,51,50,46,112,111,112,99,110,116]⟩)),.p (.sc (.string ⟨#[105,51,50,46,97,100,100]⟩)),.p (.sc (.string ⟨#[105,51,50,46,115,117,98]⟩)),.p (.sc (.string ⟨#[105,51,50,46,109,117,108]⟩)),.p (.sc (.string ⟨#[105,51,50,46,100,105,118,95,115]⟩)),.p (.sc (.string ⟨#[105,51,50,46,100,105,118,95,117]⟩)),.p (.sc (.string ⟨#[105,51,50,46,114,101,109,95,115]⟩)),.p (.sc (.string ⟨#[105,51,50,46,114,101,109,95,117]⟩)),.p (.sc (.string ⟨#[105,51,50,46,97,110,100]⟩)),.p (.sc (.string ⟨#[105,51,50,46,111,114]⟩)),.p (.sc (.string ⟨#[105,51,50,46,120,111,114]⟩)),.p (.sc (.string ⟨#[105,51,50,46,115,104,108]⟩)),.p (.sc (.string ⟨#[105,51,50,46,115,104,114,95,115]⟩)),.p (.sc (.string ⟨#[105,51,50,46,115,104,114,95,117]⟩)),.p (.sc (.string ⟨#[105,51,50,46,114,111,116,108]⟩)),.p (.sc (.string ⟨#[105,51,50,46,114,111,116,114]⟩)),.p (.sc (.string ⟨#[]⟩)),.p (.sc (.string ⟨#[]⟩)),.p (.sc (.string ⟨#[]⟩)),.p (.sc (.string ⟨#[]⟩)),.p (.sc (.string ⟨#[]⟩)),.p (.sc (.string ⟨#[]⟩)),.p (.sc (.string ⟨#[]⟩)),.p (.sc (.string ⟨#[]⟩)),.p (.sc (.string ⟨#[]⟩)),.p (.sc (.string ⟨#[]⟩)),.p (.sc (.string ⟨#[]⟩)),.p (.sc (.string ⟨#[]⟩)),.p (.sc (.string ⟨#[]⟩)),.p (.sc (.string ⟨#[]⟩)),.p (.sc (.string ⟨#[]⟩)),.p (.sc (.string ⟨#[]⟩)),.p (.sc (.string ⟨#[]⟩)),.p (.sc (.string ⟨#[]⟩)),.p (.sc (.string ⟨#[]⟩)),.p (.sc (.string ⟨#[]⟩)),.p (.sc (.string ⟨#[]⟩)),.p (.sc (.string ⟨#[]⟩)),.p (.sc (.string ⟨#[]⟩)),.p (.sc (.string ⟨#[]⟩)),.p (.sc (.string ⟨#[]⟩)),.p (.sc (.string ⟨#[]⟩)),.p (.sc (.string ⟨#[]⟩)),.p (.sc (.string ⟨#[]⟩)),.p (.sc (.string ⟨#[]⟩)),.p (.sc (.string ⟨#[]⟩)),.p (.sc (.string ⟨#[]⟩)),.p (.sc (.string ⟨#[]⟩)),.p (.sc (.string ⟨#[]⟩)),.p (.sc (.string ⟨#[]⟩)),.p (.sc (.string ⟨#[]⟩)),.p (.sc (.string ⟨#[]⟩)),.p (.sc (.string ⟨#[]⟩)),.p (.sc (.string ⟨#[]⟩)),.p (.sc (.string ⟨#[]⟩)),.p (.sc (.string ⟨#[]⟩)),.p (.sc (.string ⟨#[]⟩)),.p (.sc (.string ⟨#[]⟩)),.p (.sc (.string ⟨#[]⟩)),.p (.sc (.string ⟨#[]⟩)),.p (.sc (.string ⟨#[]⟩)),.p (.sc (.string ⟨#[]⟩)),.p (.sc (.string ⟨#[]⟩)),.p (.sc (.string ⟨#[]⟩)),.p (.sc (.string ⟨#[]⟩)),.p (.sc (.string ⟨#[]⟩)),.p (.sc (.string ⟨#[]⟩)),.p (.sc (.string ⟨#[]⟩)),.p (.sc (.string ⟨#[]⟩)),.p (.sc (.string ⟨#[]⟩)),.p (.sc (.string ⟨#[]⟩)),.p (.sc (.string ⟨#[]⟩)),.p (.sc (.string ⟨#[]⟩)),.p (.sc (.string ⟨#[]⟩)),.p (.sc (.string ⟨#[]⟩)),.p (.sc (.string ⟨#[]⟩)),.p (.sc (.string ⟨#[]⟩)),.p (.sc (.string ⟨#[]⟩)),.p (.sc (.string ⟨#[]⟩)),.p (.sc (.string ⟨#[]⟩)),.p (.sc (.string ⟨#[]⟩)),.p (.sc (.string ⟨#[]⟩)),.p (.sc (.string ⟨#[]⟩)),.p (.sc (.string ⟨#[]⟩)),.p (.sc (.string ⟨#[]⟩)),.p (.sc (.string ⟨#[]⟩)),.p (.sc (.string ⟨#[]⟩)),.p (.sc (.string ⟨#[]⟩)),.p (.sc (.string ⟨#[]⟩)),.p (.sc (.string ⟨#[]⟩)),.p (.sc (.string ⟨#[]⟩)),.p (.sc (.string ⟨#[]⟩)),.p (.sc (.string ⟨#[]⟩)),.p (.sc (.string ⟨#[]⟩)),.p (.sc (.string ⟨#[]⟩)),.p (.sc (.string ⟨#[]⟩)),.p (.sc (.string ⟨#[]⟩)),.p (.sc (.string ⟨#[]⟩)),.p (.sc (.string ⟨#[]⟩)),.p (.sc (.string ⟨#[]⟩)),.p (.sc (.string ⟨#[]⟩)),.p (.sc (.string ⟨#[]⟩)),.p (.sc (.string ⟨#[]⟩)),.p (.sc (.string ⟨#[]⟩)),.p (.sc (.string ⟨#[]⟩)),.p (.sc (.string ⟨#[]⟩)),.p (.sc (.string ⟨#[]⟩)),.p (.sc (.string ⟨#[]⟩)),.p (.sc (.string ⟨#[]⟩)),.p (.sc (.string ⟨#[]⟩)),.p (.sc (.string ⟨#[]⟩)),.p (.sc (.string ⟨#[]⟩)),.p (.sc (.string ⟨#[]⟩)),.p (.sc (.string ⟨#[]⟩)),.p (.sc (.string ⟨#[]⟩)),.p (.sc (.string ⟨#[]⟩)),.p (.sc (.string ⟨#[]⟩)),.p (.sc (.string ⟨#[]⟩)),.p (.sc (.string ⟨#[]⟩)),.p (.sc (.string ⟨#[]⟩)),.p (.sc (.string ⟨#[]⟩)),.p (.sc (.string ⟨#[]⟩)),.p (.sc (.string ⟨#[]⟩)),.p (.sc (.string ⟨#[]⟩)),.p (.sc (.string ⟨#[]⟩)),.p (.sc (.string ⟨#[]⟩)),.p (.sc (.string ⟨#[]⟩)),.p (.sc (.string ⟨#[]⟩)),.p (.sc (.string ⟨#[]⟩)),.p (.sc (.string ⟨#[]⟩)),.p (.sc (.string ⟨#[]⟩)),.p (.sc (.string ⟨#[]⟩)),.p (.sc (.string ⟨#[]⟩)),.p (.sc (.string ⟨#[]⟩)),.p (.sc (.string ⟨#[]⟩)),.p (.sc (.string ⟨#[]⟩)),.p (.sc (.string ⟨#[]⟩)),.p (.sc (.string ⟨#[]⟩)),.p (.sc (.string ⟨#[]⟩)),.p (.sc (.string ⟨#[]⟩)),.p (.sc (.string ⟨#[]⟩)),.p (.sc (.string ⟨#[]⟩)),.p (.sc (.string ⟨#[]⟩)),.p (.sc (.string ⟨#[]⟩)),.p (.sc (.string ⟨#[]⟩)),.p (.sc (.string ⟨#[]⟩)),.p (.sc (.string ⟨#[]⟩)),.p (.sc (.string ⟨#[]⟩)),.p (.sc (.string ⟨#[]⟩)),.p (.sc (.string ⟨#[]⟩)),.p (.sc (.string ⟨#[]⟩))],[]⟩
theorem ahM:an ab5 eY L5.g L5.args L5.m L5.v L5.m':=bG aM (K:=aaA) Ry (n:=10000000) (by kernel_rfl)
def aaB:List bE:=L5::aaA
theorem Rz:cR ab5 eY aaB:=bP ahM Ry
def L6:bE:=⟨69,[.agg [.os none 1 2 [.sc (.int .i64 0),.sc (.int .i64 0)],.os none 0 0 [],.os none 1 3 [.sc (.int .i64 0),.sc (.int .i64 0),.ps 0 0 []],.os none 1 3 [.sc (.int .u32 3),.sc (.int .u32 0),.sc (.bool false)],.os none 0 0 [],.os none 0 0 [],.os none 0 0 [],.p (.sc (.bool false)),.p (.sc (.int .u32 0)),.os none 1 2 [.ps 1 8 [.sc (.int .i64 65),.sc (.int .i64 0),.sc (.int .u32 0),.sc (.int .u32 0),.sc (.int .i32 1),.ps 0 0 [],.ps 0 0 [],.ps 0 0 []],.ps 2 1 [.sc (.int .u32 0),.sc (.int .u32 0)]],.os none 0 0 []],.p (.sc (.int .i64 141))],[],.p (.sc (.int .i64 0)),[]⟩
theorem ahN:an ab5 eY L6.g L6.args L6.m L6.v L6.m':=bG aM (K:=aaB) Rz (n:=10000000) (by kernel_rfl)
def aaC:List bE:=L6::aaB
theorem RA:cR ab5 eY aaC:=bP ahN Rz
def L7:bE:=⟨69,[.agg [.os none 1 2 [.sc (.int .i64 0),.sc (.int .i64 0)],.os none 0 0 [],.os none 1 3 [.sc (.int .i64 0),.sc (.int .i64 0),.ps 0 0 []],.os none 1 3 [.sc (.int .u32 3),.sc (.int .u32 0),.sc (.bool false)],.os none 0 0 [],.os none 0 0 [],.os none 0 0 [],.p (.sc (.bool false)),.p (.sc (.int .u32 0)),.os none 1 2 [.ps 1 8 [.sc (.int .i64 65),.sc (.int .i64 0),.sc (.int .u32 0),.sc (.int .u32 0),.sc (.int .i32 1),.ps 0 0 [],.ps 0 0 [],.ps 0 0 []],.ps 2 1 [.sc (.int .u32 0),.sc (.int .u32 0)]],.os none 0 0 []],.p (.sc (.int .i64 2))],[],.p (.sc (.int .i64 0)),[]⟩
theorem ahO:an ab5 eY L7.g L7.args L7.m L7.v L7.m':=bG aM (K:=aaC) RA (n:=10000000) (by kernel_rfl)
def aaD:List bE:=L7::aaC
theorem RB:cR ab5 eY aaD:=bP ahO RA
def L8:bE:=⟨18,[.agg [.os none 1 2 [.sc (.int .i64 0),.sc (.int .i64 0)],.os none 0 0 [],.os none 1 3 [.sc (.int .i64 0),.sc (.int .i64 0),.ps 0 0 []],.os none 1 3 [.sc (.int .u32 3),.sc (.int .u32 0),.sc (.bool false)],.os none 0 0 [],.os none 0 0 [],.os none 0 0 [],.p (.sc (.bool false)),.p (.sc (.int .u32 0)),.os none 1 2 [.ps 1 8 [.sc (.int .i64 65),.sc (.int .i64 0),.sc (.int .u32 0),.sc (.int .u32 0),.sc (.int .i32 1),.ps 0 0 [],.ps 0 0 [],.ps 0 0 []],.ps 2 1 [.sc (.int .u32 0),.sc (.int .u32 0)]],.os none 0 0 []]],[],.p (.sc (.int .i64 0)),[]⟩
theorem ahP:an ab5 eY L8.g L8.args L8.m L8.v L8.m':=bG aM (K:=aaD) RB (n:=10000000) (by kernel_rfl)
def aaE:List bE:=L8::aaD
theorem RC:cR ab5 eY aaE:=bP ahP RB
def L9:bE:=⟨44,[.agg [.os none 1 2 [.sc (.int .i64 0),.sc (.int .i64 0)],.os none 0 0 [],.os none 1 3 [.sc (.int .i64 0),.sc (.int .i64 0),.ps 0 0 []],.os none 1 3 [.sc (.int .u32 3),.sc (.int .u32 0),.sc (.bool false)],.os none 0 0 [],.os none 0 0 [],.os none 0 0 [],.p (.sc (.bool false)),.p (.sc (.int .u32 0)),.os none 1 2 [.ps 1 8 [.sc (.int .i64 65),.sc (.int .i64 0),.sc (.int .u32 0),.sc (.int .u32 0),.sc (.int .i32 1),.ps 0 0 [],.ps 0 0 [],.ps 0 0 []],.ps 2 1 [.sc (.int .u32 0),.sc (.int .u32 0)]],.os none 0 0 []],.agg [.p (.ps 1 8 [.sc (.int .i64 65),.sc (.int .i64 0),.sc (.int .u32 0),.sc (.int .u32 0),.sc (.int .i32 1),.ps 0 0 [],.ps 0 0 [],.ps 0 0 []]),.p (.ps 2 1 [.sc (.int .u32 0),.sc (.int .u32 0)])],.fn (.func 34) [] []],[],.aA [.p (.sc (.int .i64 0)),.p (.sc (.int .i64 0))],[]⟩
theorem ahQ:an ab5 eY L9.g L9.args L9.m L9.v L9.m':=bG aM (K:=aaE) RC (n:=10000000) (by kernel_rfl)
def aaF:List bE:=L9::aaE
theorem RD:cR ab5 eY aaF:=bP ahQ RC
def Ma:bE:=⟨35,[.p (.sc (.int .i64 10)),.p (.sc (.int .i64 1)),.fn (.func 45) [] [.mp 0 0]],[.ac [.os none 1 2 [.sc (.int .i64 0),.sc (.int .i64 0)],.os none 0 0 [],.os none 1 3 [.sc (.int .i64 0),.sc (.int .i64 0),.ps 0 0 []],.os none 1 3 [.sc (.int .u32 3),.sc (.int .u32 0),.sc (.bool false)],.os none 0 0 [],.os none 0 0 [],.os none 0 0 [],.p (.sc (.bool false)),.p (.sc (.int .u32 0)),.os none 1 2 [.ps 1 8 [.sc (.int .i64 65),.sc (.int .i64 0),.sc (.int .u32 0),.sc (.int .u32 0),.sc (.int .i32 1),.ps 0 0 [],.ps 0 0 [],.ps 0 0 []],.ps 2 1 [.sc (.int .u32 0),.sc (.int .u32 0)]],.os none 0 0 []]],.agg [.p (.sc (.int .i64 0)),.p (.sc (.int .i64 0)),.p (.sc (.int .i64 0)),.p (.sc (.int .i64 0))],[.ac [.os none 1 2 [.sc (.int .i64 0),.sc (.int .i64 0)],.os none 0 0 [],.os none 1 3 [.sc (.int .i64 0),.sc (.int .i64 0),.ps 0 0 []],.os none 1 3 [.sc (.int .u32 3),.sc (.int .u32 0),.sc (.bool false)],.os none 0 0 [],.os none 0 0 [],.os none 0 0 [],.p (.sc (.bool false)),.p (.sc (.int .u32 0)),.os none 1 2 [.ps 1 8 [.sc (.int .i64 65),.sc (.int .i64 0),.sc (.int .u32 0),.sc (.int .u32 0),.sc (.int .i32 1),.ps 0 0 [],.ps 0 0 [],.ps 0 0 []],.ps 2 1 [.sc (.int .u32 0),.sc (.int .u32 0)]],.os none 0 0 []]]⟩
theorem ahR:an ab5 eY Ma.g Ma.args Ma.m Ma.v Ma.m':=bG aM (K:=aaF) RD (n:=10000000) (by kernel_rfl)
def aaG:List bE:=Ma::aaF
theorem RE:cR ab5 eY aaG:=bP ahR RD
def Mb:bE:=⟨7,[.agg [.os none 1 2 [.sc (.int .i64 0),.sc (.int .i64 0)],.os none 0 0 [],.os none 1 3 [.sc (.int .i64 0),.sc (.int .i64 0),.ps 0 0 []],.os none 1 3 [.sc (.int .u32 3),.sc (.int .u32 0),.sc (.bool false)],.os none 0 0 [],.os none 0 0 [],.os none 0 0 [],.p (.sc (.bool false)),.p (.sc (.int .u32 0)),.os none 1 2 [.ps 1 8 [.sc (.int .i64 65),.sc (.int .i64 0),.sc (.int .u32 0),.sc (.int .u32 0),.sc (.int .i32 1),.ps 0 0 [],.ps 0 0 [],.ps 0 0 []],.ps 2 1 [.sc (.int .u32 0),.sc (.int .u32 0)]],.os none 0 0 []]],[],.agg [.p (.sc (.int .i64 0)),.p (.sc (.int .i64 0)),.p (.sc (.int .i64 0)),.p (.sc (.int .i64 0))],[]⟩
theorem ahS:an ab5 eY Mb.g Mb.args Mb.m Mb.v Mb.m':=bG aM (K:=aaG) RE (n:=10000000) (by kernel_rfl)
def aaH:List bE:=Mb::aaG
theorem RF:cR ab5 eY aaH:=bP ahS RE
def Mc:bE:=⟨24,[.mp 0 0],[.ac [.os (some 1) 1 2 [.sc (.int .i64 0),.sc (.int .i64 0)],.os none 0 0 [],.os (some 2) 1 3 [.sc (.int .i64 0),.sc (.int .i64 0),.ps 0 0 []],.os (some 3) 1 3 [.sc (.int .u32 3),.sc (.int .u32 0),.sc (.bool false)],.os none 0 0 [],.os none 0 0 [],.os none 0 0 [],.p (.sc (.bool false)),.p (.sc (.int .u32 0)),.os (some 4) 1 2 [.ps 1 8 [.sc (.int .i64 65),.sc (.int .i64 0),.sc (.int .u32 0),.sc (.int .u32 0),.sc (.int .i32 1),.ps 0 0 [],.ps 0 0 [],.ps 0 0 []],.ps 2 1 [.sc (.int .u32 0),.sc (.int .u32 0)]],.os none 0 0 [],.p (.sc (.pointer none)),.ms 5 0 3 1 (some 3),.os none 0 0 [],.os none 0 0 [],.p (.sc (.bool true))],.tok,.tok,.tok,.tok,.pc [.sc (.pointer none),.sc (.pointer none),.sc (.pointer none)]],.aA [.mp 0 0,.p (.sc (.int .i64 0))],[.ac [.os (some 1) 1 2 [.sc (.int .i64 0),.sc (.int .i64 0)],.os none 0 0 [],.os (some 2) 1 3 [.sc (.int .i64 0),.sc (.int .i64 0),.ps 0 0 []],.os (some 3) 1 3 [.sc (.int .u32 3),.sc (.int .u32 0),.sc (.bool false)],.os none 0 0 [],.os none 0 0 [],.os none 0 0 [],.p (.sc (.bool false)),.p (.sc (.int .u32 0)),.os (some 4) 1 2 [.ps 1 8 [.sc (.int .i64 65),.sc (.int .i64 0),.sc (.int .u32 0),.sc (.int .u32 0),.sc (.int .i32 1),.ps 0 0 [],.ps 0 0 [],.ps 0 0 []],.ps 2 1 [.sc (.int .u32 0),.sc (.int .u32 0)]],.os none 0 0 [],.p (.sc (.pointer none)),.ms 5 0 3 1 (some 3),.os none 0 0 [],.os none 0 0 [],.p (.sc (.bool true))],.tok,.tok,.tok,.tok,.ac [.p (.sc (.pointer none)),.mp 6 0,.mp 7 0],.pc [.sc (.int .u32 0)],.pc [.sc (.int .u32 0)]]⟩
theorem ahT:an ab5 eY Mc.g Mc.args Mc.m Mc.v Mc.m':=bG aM (K:=aaH) RF (n:=10000000) (by kernel_rfl)
def RG:List bE:=Mc::aaH
theorem JQ:cR ab5 eY RG:=bP ahT RF
def BJ:bE:=⟨8,[.agg [.os none 1 2 [.sc (.int .i64 0),.sc (.int .i64 0)],.os none 0 0 [],.os none 1 3 [.sc (.int .i64 0),.sc (.int .i64 0),.ps 0 0 []],.os none 1 3 [.sc (.int .u32 3),.sc (.int .u32 0),.sc (.bool false)],.os none 0 0 [],.os none 0 0 [],.os none 0 0 [],.p (.sc (.bool false)),.p (.sc (.int .u32 0)),.os none 1 2 [.ps 1 8 [.sc (.int .i64 65),.sc (.int .i64 0),.sc (.int .u32 0),.sc (.int .u32 0),.sc (.int .i32 1),.ps 0 0 [],.ps 0 0 [],.ps 0 0 []],.ps 2 1 [.sc (.int .u32 0),.sc (.int .u32 0)]],.os none 0 0 []]],[],.aA [.mp 0 0,.p (.sc (.int .i64 0))],[.ac [.os (some 1) 1 2 [.sc (.int .i64 0),.sc (.int .i64 0)],.os none 0 0 [],.os (some 2) 1 3 [.sc (.int .i64 0),.sc (.int .i64 0),.ps 0 0 []],.os (some 3) 1 3 [.sc (.int .u32 3),.sc (.int .u32 0),.sc (.bool false)],.os none 0 0 [],.os none 0 0 [],.os none 0 0 [],.p (.sc (.bool false)),.p (.sc (.int .u32 0)),.os (some 4) 1 2 [.ps 1 8 [.sc (.int .i64 65),.sc (.int .i64 0),.sc (.int .u32 0),.sc (.int .u32 0),.sc (.int .i32 1),.ps 0 0 [],.ps 0 0 [],.ps 0 0 []],.ps 2 1 [.sc (.int .u32 0),.sc (.int .u32 0)]],.os none 0 0 [],.p (.sc (.pointer none)),.ms 5 0 3 1 (some 3),.os none 0 0 [],.os none 0 0 [],.p (.sc (.bool true))],.tok,.tok,.tok,.tok,.ac [.p (.sc (.pointer none)),.mp 6 0,.mp 7 0],.pc [.sc (.int .u32 0)],.pc [.sc (.int .u32 0)]]⟩
theorem aex:an ab5 eY BJ.g BJ.args BJ.m BJ.v BJ.m':=bG aM (K:=RG) JQ (n:=10000000) (by kernel_rfl)
def RH:List bE:=BJ::RG
theorem JR:cR ab5 eY RH:=bP aex JQ
def BK:bE:=⟨69,[.agg [.os none 1 2 [.sc (.int .i64 0),.sc (.int .i64 0)],.os none 0 0 [],.os none 1 3 [.sc (.int .i64 0),.sc (.int .i64 0),.ps 0 0 []],.os none 1 3 [.sc (.int .u32 3),.sc (.int .u32 0),.sc (.bool false)],.os none 0 0 [],.os none 0 0 [],.os none 0 0 [],.p (.sc (.bool false)),.p (.sc (.int .u32 0)),.os none 1 2 [.ps 1 8 [.sc (.int .i64 65),.sc (.int .i64 0),.sc (.int .u32 0),.sc (.int .u32 0),.sc (.int .i32 2),.ps 0 0 [],.ps 0 0 [],.ps 0 0 []],.ps 2 1 [.sc (.int .u32 0),.sc (.int .u32 0)]],.os none 0 0 []],.p (.sc (.int .i64 141))],[],.p (.sc (.int .i64 0)),[]⟩
theorem aey:an ab5 eY BK.g BK.args BK.m BK.v BK.m':=bG aM (K:=RH) JR (n:=10000000) (by kernel_rfl)
def RI:List bE:=BK::RH
theorem JS:cR ab5 eY RI:=bP aey JR
def BL:bE:=⟨69,[.agg [.os none 1 2 [.sc (.int .i64 0),.sc (.int .i64 0)],.os none 0 0 [],.os none 1 3 [.sc (.int .i64 0),.sc (.int .i64 0),.ps 0 0 []],.os none 1 3 [.sc (.int .u32 3),.sc (.int .u32 0),.sc (.bool false)],.os none 0 0 [],.os none 0 0 [],.os none 0 0 [],.p (.sc (.bool false)),.p (.sc (.int .u32 0)),.os none 1 2 [.ps 1 8 [.sc (.int .i64 65),.sc (.int .i64 0),.sc (.int .u32 0),.sc (.int .u32 0),.sc (.int .i32 2),.ps 0 0 [],.ps 0 0 [],.ps 0 0 []],.ps 2 1 [.sc (.int .u32 0),.sc (.int .u32 0)]],.os none 0 0 []],.p (.sc (.int .i64 2))],[],.p (.sc (.int .i64 0)),[]⟩
theorem aez:an ab5 eY BL.g BL.args BL.m BL.v BL.m':=bG aM (K:=RI) JS (n:=10000000) (by kernel_rfl)
def RJ:List bE:=BL::RI
theorem JT:cR ab5 eY RJ:=bP aez JS
def BM:bE:=⟨18,[.agg [.os none 1 2 [.sc (.int .i64 0),.sc (.int .i64 0)],.os none 0 0 [],.os none 1 3 [.sc (.int .i64 0),.sc (.int .i64 0),.ps 0 0 []],.os none 1 3 [.sc (.int .u32 3),.sc (.int .u32 0),.sc (.bool false)],.os none 0 0 [],.os none 0 0 [],.os none 0 0 [],.p (.sc (.bool false)),.p (.sc (.int .u32 0)),.os none 1 2 [.ps 1 8 [.sc (.int .i64 65),.sc (.int .i64 0),.sc (.int .u32 0),.sc (.int .u32 0),.sc (.int .i32 2),.ps 0 0 [],.ps 0 0 [],.ps 0 0 []],.ps 2 1 [.sc (.int .u32 0),.sc (.int .u32 0)]],.os none 0 0 []]],[],.p (.sc (.int .i64 0)),[]⟩
theorem aeA:an ab5 eY BM.g BM.args BM.m BM.v BM.m':=bG aM (K:=RJ) JT (n:=10000000) (by kernel_rfl)
def RK:List bE:=BM::RJ
theorem JU:cR ab5 eY RK:=bP aeA JT
def BN:bE:=⟨44,[.agg [.os none 1 2 [.sc (.int .i64 0),.sc (.int .i64 0)],.os none 0 0 [],.os none 1 3 [.sc (.int .i64 0),.sc (.int .i64 0),.ps 0 0 []],.os none 1 3 [.sc (.int .u32 3),.sc (.int .u32 0),.sc (.bool false)],.os none 0 0 [],.os none 0 0 [],.os none 0 0 [],.p (.sc (.bool false)),.p (.sc (.int .u32 0)),.os none 1 2 [.ps 1 8 [.sc (.int .i64 65),.sc (.int .i64 0),.sc (.int .u32 0),.sc (.int .u32 0),.sc (.int .i32 2),.ps 0 0 [],.ps 0 0 [],.ps 0 0 []],.ps 2 1 [.sc (.int .u32 0),.sc (.int .u32 0)]],.os none 0 0 []],.agg [.p (.ps 1 8 [.sc (.int .i64 65),.sc (.int .i64 0),.sc (.int .u32 0),.sc (.int .u32 0),.sc (.int .i32 2),.ps 0 0 [],.ps 0 0 [],.ps 0 0 []]),.p (.ps 2 1 [.sc (.int .u32 0),.sc (.int .u32 0)])],.fn (.func 34) [] []],[],.aA [.p (.sc (.int .i64 0)),.p (.sc (.int .i64 0))],[]⟩
theorem aeB:an ab5 eY BN.g BN.args BN.m BN.v BN.m':=bG aM (K:=RK) JU (n:=10000000) (by kernel_rfl)
def RL:List bE:=BN::RK
theorem JV:cR ab5 eY RL:=bP aeB JU
def BO:bE:=⟨35,[.p (.sc (.int .i64 10)),.p (.sc (.int .i64 1)),.fn (.func 45) [] [.mp 0 0]],[.ac [.os none 1 2 [.sc (.int .i64 0),.sc (.int .i64 0)],.os none 0 0 [],.os none 1 3 [.sc (.int .i64 0),.sc (.int .i64 0),.ps 0 0 []],.os none 1 3 [.sc (.int .u32 3),.sc (.int .u32 0),.sc (.bool false)],.os none 0 0 [],.os none 0 0 [],.os none 0 0 [],.p (.sc (.bool false)),.p (.sc (.int .u32 0)),.os none 1 2 [.ps 1 8 [.sc (.int .i64 65),.sc (.int .i64 0),.sc (.int .u32 0),.sc (.int .u32 0),.sc (.int .i32 2),.ps 0 0 [],.ps 0 0 [],.ps 0 0 []],.ps 2 1 [.sc (.int .u32 0),.sc (.int .u32 0)]],.os none 0 0 []]],.agg [.p (.sc (.int .i64 0)),.p (.sc (.int .i64 0)),.p (.sc (.int .i64 0)),.p (.sc (.int .i64 0))],[.ac [.os none 1 2 [.sc (.int .i64 0),.sc (.int .i64 0)],.os none 0 0 [],.os none 1 3 [.sc (.int .i64 0),.sc (.int .i64 0),.ps 0 0 []],.os none 1 3 [.sc (.int .u32 3),.sc (.int .u32 0),.sc (.bool false)],.os none 0 0 [],.os none 0 0 [],.os none 0 0 [],.p (.sc (.bool false)),.p (.sc (.int .u32 0)),.os none 1 2 [.ps 1 8 [.sc (.int .i64 65),.sc (.int .i64 0),.sc (.int .u32 0),.sc (.int .u32 0),.sc (.int .i32 2),.ps 0 0 [],.ps 0 0 [],.ps 0 0 []],.ps 2 1 [.sc (.int .u32 0),.sc (.int .u32 0)]],.os none 0 0 []]]⟩
theorem aeC:an ab5 eY BO.g BO.args BO.m BO.v BO.m':=bG aM (K:=RL) JV (n:=10000000) (by kernel_rfl)
def RM:List bE:=BO::RL
theorem JW:cR ab5 eY RM:=bP aeC JV
def BP:bE:=⟨7,[.agg [.os none 1 2 [.sc (.int .i64 0),.sc (.int .i64 0)],.os none 0 0 [],.os none 1 3 [.sc (.int .i64 0),.sc (.int .i64 0),.ps 0 0 []],.os none 1 3 [.sc (.int .u32 3),.sc (.int .u32 0),.sc (.bool false)],.os none 0 0 [],.os none 0 0 [],.os none 0 0 [],.p (.sc (.bool false)),.p (.sc (.int .u32 0)),.os none 1 2 [.ps 1 8 [.sc (.int .i64 65),.sc (.int .i64 0),.sc (.int .u32 0),.sc (.int .u32 0),.sc (.int .i32 2),.ps 0 0 [],.ps 0 0 [],.ps 0 0 []],.ps 2 1 [.sc (.int .u32 0),.sc (.int .u32 0)]],.os none 0 0 []]],[],.agg [.p (.sc (.int .i64 0)),.p (.sc (.int .i64 0)),.p (.sc (.int .i64 0)),.p (.sc (.int .i64 0))],[]⟩
theorem aeD:an ab5 eY BP.g BP.args BP.m BP.v BP.m':=bG aM (K:=RM) JW (n:=10000000) (by kernel_rfl)
def RN:List bE:=BP::RM
theorem JX:cR ab5 eY RN:=bP aeD JW
def BQ:bE:=⟨8,[.agg [.os none 1 2 [.sc (.int .i64 0),.sc (.int .i64 0)],.os none 0 0 [],.os none 1 3 [.sc (.int .i64 0),.sc (.int .i64 0),.ps 0 0 []],.os none 1 3 [.sc (.int .u32 3),.sc (.int .u32 0),.sc (.bool false)],.os none 0 0 [],.os none 0 0 [],.os none 0 0 [],.p (.sc (.bool false)),.p (.sc (.int .u32 0)),.os none 1 2 [.ps 1 8 [.sc (.int .i64 65),.sc (.int .i64 0),.sc (.int .u32 0),.sc (.int .u32 0),.sc (.int .i32 2),.ps 0 0 [],.ps 0 0 [],.ps 0 0 []],.ps 2 1 [.sc (.int .u32 0),.sc (.int .u32 0)]],.os none 0 0 []]],[],.aA [.p (.sc (.pointer none)),.p (.sc (.int .i64 220))],[]⟩
theorem aeE:an ab5 eY BQ.g BQ.args BQ.m BQ.v BQ.m':=bG aM (K:=RN) JX (n:=10000000) (by kernel_rfl)
def We:List bE:=BQ::RN
theorem VD:cR ab5 eY We:=bP aeE JX
theorem aaI:an ab5 eY 4 [] [] (.p (.sc (.bool true))) []:=bG aM (K:=We) VD (n:=10000000) (by kernel_rfl)
end Go.Proofs.YtjfgfhaoeicpdaaGreatDoor.N
end
