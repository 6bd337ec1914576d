/-
instr.Count: the going through of instructions, by its trees (printed by a program of mine): the outer loop, its end, the inner loop.
-/
import Derived.Test.YtdmmllcjgjmbbaaGreatDoorMH
section
namespace Go.Proofs.YtdmmllcjgjmbbaaGreatDoor.N
open Go Go.Am
noncomputable def Mf (l:List Ins) (st:LoopState) (pd:Option Code):bg:= .ob (dJ Tryz.prog 35 0 st pd) [aL l,.an,.p (.sc (.int .i64 0)),.mp 2 0,aL l,.fn (.func 115) [] [.mp 1 0],.an,.an,.an,.an,.an]
noncomputable def HE (l:List Ins) (n:Int) (cells:List AV):Mem:=[Mf l .ready none,.pc [.ps l.length 8 (ak l)],.pc [sP n],.ob (.gr 157 true) cells]
def Yy (_l:List Ins) (_n:Int) (_cells:List AV) (k:Nat) (x:List Ins) (d:Int):FuncId→Nat→Nat→Option (AV→AV):=dw [(115,3,3,sI .i64 k),(115,3,5,.agg [aL x,sI .i64 d]),(115,4,3,sI .i64 k)]
def Yz (_l:List Ins) (n:Int) (_cells:List AV) (_k:Nat) (_xs:List Ins) (d:Int) (i:Nat) (op r a b nn:Int) (tg:List Int) (ll le:List Ins) (_ok:Bool):FuncId→Nat→Nat→Option (AV→AV):=dw [(115,7,1,rD op r a b nn tg ll le),(115,13,0,sI .i64 ((i+1:Nat):Int)),(115,10,5,sI .i64 (d+1)),(115,12,5,sI .i64 (d+1)),(35,4,1,sI .i64 (n+1))]
def YA (_l:List Ins) (_n:Int) (_cells:List AV) (_k:Nat) (_xs:List Ins) (_d:Int) (_i:Nat) (_op _r _a _b _nn:Int) (_tg:List Int) (_ll _le:List Ins) (ok:Bool) (f:FuncId) (_:List AV) (m:Mem):Option (AV×Mem):=cond (Nat.beq f 26) (some (sB ok,m)) none
def Py (l:List Ins) (n:Int) (cells:List AV) (k:Nat) (x:List Ins) (d:Int):bu:=kM av az [(115,0),(115,2)] [(115,0,1)] [(115,3,4),(115,3,5),(115,4,4)] (Yy l n cells k x d)
def UK:Sc:= .fin
noncomputable def Cp (l:List Ins) (n:Int) (cells:List AV) (k:Nat) (x:List Ins) (d:Int):Tree:=
 (.test (decide ((↑(k+1):Int)>0))
 (.need (sI .i64 (IntKind.i64.wrap ((↑(k+1):Int)-1))=sI IntKind.i64 (↑k:Int))
 (.must (aG (↑k:Int) (k+1)&&true&&true)
 (.must ((0+(↑k:Int).toNat*2+2).ble cells.length&&((gw (some (TypeInfo.mk (TypeDesc.slice 50) "[]api.Instr" 1 24 true 8 8 (some (Value.slice none 0 0)) false #[]).desc) (cells.getD (0+(↑k:Int).toNat*2) .an)).snd&&((gw (some (TypeInfo.mk (TypeDesc.int IntKind.i64) "int" 1 8 false 8 8 (some (.int .i64 0)) true #[]).desc) (cells.getD (0+(↑k:Int).toNat*2+1) .an)).snd&&true))&&true)
 (.need (AV.agg [(gw (Option.some (TypeInfo.mk (TypeDesc.slice 50) "[]api.Instr" 1 24 true 8 8 (Option.some (Value.slice Option.none 0 0)) false #[]).desc) (cells.getD (0+(↑k:Int).toNat*2) AV.an)).fst,(gw (Option.some (TypeInfo.mk (TypeDesc.int IntKind.i64) "int" 1 8 false 8 8 (Option.some (Value.int IntKind.i64 0)) true #[]).desc) (cells.getD (0+(↑k:Int).toNat*2+1) AV.an)).fst]=AV.agg [aL x,sI IntKind.i64 d])
 (.need (sI .i64 (IntKind.i64.wrap ((↑(k+1):Int)-1))=sI IntKind.i64 (↑k:Int))
 (.must ((↑k:Int).toNat.ble (k+1)&&true&&true&&true)
 (.at (af Tryz.prog env 115 2 [.vy 0,.ms 3 0 ((↑k:Int).toNat-0) 2 none,.mp 4 0,.p (.ps x.length 8 (ak x)),sI .i64 (↑x.length:Int),sI .i64 0] ([.ob (dJ Tryz.prog 35 0 LoopState.ready none) [.p (.ps l.length 8 (ak l)),.an,sI .i64 0,.mp 2 0,.p (.ps l.length 8 (ak l)),.fn (Fn.func 115) [] [.mp 1 0],.an,.an,.an,.an,.an],.pc [.ps l.length 8 (ak l)],.pc [sP n],.ob (jQ.gr 157 true) (List.map dL cells),.ac [.p (.ps x.length 8 (ak x)),sI .i64 d]]) 3 64))))))))
 (.out (.ret (.aS []) [.ob (dJ Tryz.prog 35 0 LoopState.ready none) [.p (.ps l.length 8 (ak l)),.an,sI .i64 0,.mp 2 0,.p (.ps l.length 8 (ak l)),.fn (Fn.func 115) [] [.mp 1 0],.an,.an,.an,.an,.an],.pc [.ps l.length 8 (ak l)],.pc [sP n]])))
theorem HF (l:List Ins) (n:Int) (cells:List AV) (k:Nat) (x:List Ins) (d:Int):grow Tryz.prog env (Py l n cells k x d) 1000000 true (af Tryz.prog env 115 0 ([AV.vy 0,AV.ms 3 0 (k+1) 2 Option.none]) (HE l n cells) 3 64) UK atEnd=Cp l n cells k x d:=by kernel_rfl
def Pz:bu:=aK av az [(115,0),(115,2)] [] []
def UL:Sc:= .fin
noncomputable def Mg (l:List Ins) (n:Int) (_cells:List AV):Tree:=
 (.out (.ret (.aS []) [.ob (dJ Tryz.prog 35 0 LoopState.ready none) [.p (.ps l.length 8 (ak l)),.an,sI .i64 0,.mp 2 0,.p (.ps l.length 8 (ak l)),.fn (Fn.func 115) [] [.mp 1 0],.an,.an,.an,.an,.an],.pc [.ps l.length 8 (ak l)],.pc [sP n]]))
theorem HG (l:List Ins) (n:Int) (cells:List AV):grow Tryz.prog env Pz 1000000 true (af Tryz.prog env 115 0 ([AV.vy 0,AV.ms 3 0 0 2 Option.none]) ([Mf l LoopState.ready Option.none,bg.pc [PV.ps l.length 8 (ak l)],bg.pc [sP n],bg.ob (jQ.gr 157 true) cells]) 3 64) UL atEnd=Mg l n cells:=by kernel_rfl
def PA (l:List Ins) (n:Int) (cells:List AV) (k:Nat) (xs:List Ins) (d:Int) (i:Nat) (op r a b nn:Int) (tg:List Int) (ll:List Ins) (le:List Ins) (ok:Bool):bu:=kM (YA l n cells k xs d i op r a b nn tg ll le ok) az [(115,0),(115,2)] [(115,0,3),(115,0,5),(115,0,6)] [(115,7,0),(115,7,1),(115,10,8),(115,12,8)] (Yz l n cells k xs d i op r a b nn tg ll le ok)
def UM:Sc:= .fin
noncomputable def jP (l:List Ins) (n:Int) (cells:List AV) (k:Nat) (xs:List Ins) (d:Int) (i:Nat) (op r a b nn:Int) (tg:List Int) (ll:List Ins) (le:List Ins) (_ok:Bool):Tree:=
 (.test (decide ((↑i:Int)<(↑xs.length:Int)))
 (.must (aG (↑i:Int) xs.length&&true&&true)
 (.must (isInt IntKind.i64 ((ak xs).getD ((↑i:Int).toNat*8) PV.bad)&&(isInt IntKind.i64 ((ak xs).getD ((↑i:Int).toNat*8+1) PV.bad)&&(isInt IntKind.u32 ((ak xs).getD ((↑i:Int).toNat*8+1+1) PV.bad)&&(isInt IntKind.u32 ((ak xs).getD ((↑i:Int).toNat*8+1+1+1) PV.bad)&&(isInt IntKind.i32 ((ak xs).getD ((↑i:Int).toNat*8+1+1+1+1) PV.bad)&&(aH ((ak xs).getD ((↑i:Int).toNat*8+1+1+1+1+1) PV.bad)&&(aH ((ak xs).getD ((↑i:Int).toNat*8+1+1+1+1+1+1) PV.bad)&&(aH ((ak xs).getD ((↑i:Int).toNat*8+1+1+1+1+1+1+1) PV.bad)&&true)))))))&&true)
 (.need (AV.agg [sI .i64 (au ((ak xs).getD ((↑i:Int).toNat*8) PV.bad)),sI .i64 (au ((ak xs).getD ((↑i:Int).toNat*8+1) PV.bad)),sI .u32 (au ((ak xs).getD ((↑i:Int).toNat*8+1+1) PV.bad)),sI .u32 (au ((ak xs).getD ((↑i:Int).toNat*8+1+1+1) PV.bad)),sI .i32 (au ((ak xs).getD ((↑i:Int).toNat*8+1+1+1+1) PV.bad)),AV.p (PV.ps (aq ((ak xs).getD ((↑i:Int).toNat*8+1+1+1+1+1) PV.bad)) (aA ((ak xs).getD ((↑i:Int).toNat*8+1+1+1+1+1) PV.bad)) (aj ((ak xs).getD ((↑i:Int).toNat*8+1+1+1+1+1) PV.bad))),AV.p (PV.ps (aq ((ak xs).getD ((↑i:Int).toNat*8+1+1+1+1+1+1) PV.bad)) (aA ((ak xs).getD ((↑i:Int).toNat*8+1+1+1+1+1+1) PV.bad)) (aj ((ak xs).getD ((↑i:Int).toNat*8+1+1+1+1+1+1) PV.bad))),AV.p (PV.ps (aq ((ak xs).getD ((↑i:Int).toNat*8+1+1+1+1+1+1+1) PV.bad)) (aA ((ak xs).getD ((↑i:Int).toNat*8+1+1+1+1+1+1+1) PV.bad)) (aj ((ak xs).getD ((↑i:Int).toNat*8+1+1+1+1+1+1+1) PV.bad)))]=rD op r a b nn tg ll le)
 (.need (sI .i64 (IntKind.i64.wrap (n+1))=sI IntKind.i64 (n+1))
 (.test (decide ((↑ll.length:Int)>0))
 (.need (sI .i64 (IntKind.i64.wrap (d+1))=sI IntKind.i64 (d+1))
 (.must (((k+1)*32).ble dh&&(k+1).ble dh&&((k*2).ble cells.length&&true)&&true)
 (.test (decide ((↑le.length:Int)>0))
 (.need (sI .i64 (IntKind.i64.wrap (d+1))=sI IntKind.i64 (d+1))
 (.must (((k+1+1)*32).ble dh&&(k+1+1).ble dh&&(((k+1)*2).ble (List.take (k*2) cells++[.p (.ps ll.length 8 (ak ll)),sI .i64 (d+1)]).length&&true)&&true)
 (.need (sI .i64 (IntKind.i64.wrap ((↑i:Int)+1))=sI IntKind.i64 (↑(i+1):Int))
 (.at (af Tryz.prog env 115 2 [.vy 0,.ms 3 0 (k+1+1) 2 none,.mp 4 0,.p (.ps xs.length 8 (ak xs)),sI .i64 (↑xs.length:Int),sI .i64 (↑(i+1):Int)] ([.ob (dJ Tryz.prog 35 0 (cZ none) none) [.p (.ps l.length 8 (ak l)),.an,sI .i64 0,.mp 2 0,.p (.ps l.length 8 (ak l)),.fn (Fn.func 115) [] [.mp 1 0],.an,.an,.an,.an,.an],.pc [.ps l.length 8 (ak l)],.pc [sP (n+1)],.ob (jQ.gr 157 true) (List.map dL (List.take ((k+1)*2) (List.take (k*2) cells++[.p (.ps ll.length 8 (ak ll)),sI .i64 (d+1)])++[.p (.ps le.length 8 (ak le)),sI .i64 (d+1)])),.ac [.p (.ps xs.length 8 (ak xs)),sI .i64 d]]) 3 64)))))
 (.need (sI .i64 (IntKind.i64.wrap ((↑i:Int)+1))=sI IntKind.i64 (↑(i+1):Int))
 (.at (af Tryz.prog env 115 2 [.vy 0,.ms 3 0 (k+1) 2 none,.mp 4 0,.p (.ps xs.length 8 (ak xs)),sI .i64 (↑xs.length:Int),sI .i64 (↑(i+1):Int)] ([.ob (dJ Tryz.prog 35 0 (cZ none) none) [.p (.ps l.length 8 (ak l)),.an,sI .i64 0,.mp 2 0,.p (.ps l.length 8 (ak l)),.fn (Fn.func 115) [] [.mp 1 0],.an,.an,.an,.an,.an],.pc [.ps l.length 8 (ak l)],.pc [sP (n+1)],.ob (jQ.gr 157 true) (List.map dL (List.take (k*2) cells++[.p (.ps ll.length 8 (ak ll)),sI .i64 (d+1)])),.ac [.p (.ps xs.length 8 (ak xs)),sI .i64 d]]) 3 64))))))
 (.test (decide ((↑le.length:Int)>0))
 (.need (sI .i64 (IntKind.i64.wrap (d+1))=sI IntKind.i64 (d+1))
 (.must (((k+1)*32).ble dh&&(k+1).ble dh&&((k*2).ble cells.length&&true)&&true)
 (.need (sI .i64 (IntKind.i64.wrap ((↑i:Int)+1))=sI IntKind.i64 (↑(i+1):Int))
 (.at (af Tryz.prog env 115 2 [.vy 0,.ms 3 0 (k+1) 2 none,.mp 4 0,.p (.ps xs.length 8 (ak xs)),sI .i64 (↑xs.length:Int),sI .i64 (↑(i+1):Int)] ([.ob (dJ Tryz.prog 35 0 (cZ none) none) [.p (.ps l.length 8 (ak l)),.an,sI .i64 0,.mp 2 0,.p (.ps l.length 8 (ak l)),.fn (Fn.func 115) [] [.mp 1 0],.an,.an,.an,.an,.an],.pc [.ps l.length 8 (ak l)],.pc [sP (n+1)],.ob (jQ.gr 157 true) (List.map dL (List.take (k*2) cells++[.p (.ps le.length 8 (ak le)),sI .i64 (d+1)])),.ac [.p (.ps xs.length 8 (ak xs)),sI .i64 d]]) 3 64)))))
 (.need (sI .i64 (IntKind.i64.wrap ((↑i:Int)+1))=sI IntKind.i64 (↑(i+1):Int))
 (.at (af Tryz.prog env 115 2 [.vy 0,.ms 3 0 k 2 none,.mp 4 0,.p (.ps xs.length 8 (ak xs)),sI .i64 (↑xs.length:Int),sI .i64 (↑(i+1):Int)] ([.ob (dJ Tryz.prog 35 0 (cZ none) none) [.p (.ps l.length 8 (ak l)),.an,sI .i64 0,.mp 2 0,.p (.ps l.length 8 (ak l)),.fn (Fn.func 115) [] [.mp 1 0],.an,.an,.an,.an,.an],.pc [.ps l.length 8 (ak l)],.pc [sP (n+1)],.ob (jQ.gr 157 true) (List.map dL cells),.ac [.p (.ps xs.length 8 (ak xs)),sI .i64 d]]) 3 64)))))))))
 (.at (af Tryz.prog env 115 0 [.vy 0,.ms 3 0 k 2 none] ([.ob (dJ Tryz.prog 35 0 LoopState.ready none) [.p (.ps l.length 8 (ak l)),.an,sI .i64 0,.mp 2 0,.p (.ps l.length 8 (ak l)),.fn (Fn.func 115) [] [.mp 1 0],.an,.an,.an,.an,.an],.pc [.ps l.length 8 (ak l)],.pc [sP n],.ob (jQ.gr 157 true) (List.map dL cells)]) 3 64)))
theorem yO (l:List Ins) (n:Int) (cells:List AV) (k:Nat) (xs:List Ins) (d:Int) (i:Nat) (op r a b nn:Int) (tg:List Int) (ll:List Ins) (le:List Ins) (ok:Bool):grow Tryz.prog env (PA l n cells k xs d i op r a b nn tg ll le ok) 1000000 true (af Tryz.prog env 115 2 ([AV.vy 0,AV.ms 3 0 k 2 Option.none,AV.mp 4 0,aL xs,sI IntKind.i64 (↑xs.length:Int),sI IntKind.i64 (↑i:Int)]) (HE l n cells++[bg.ac [aL xs,sI IntKind.i64 d]]) 3 64) UM atEnd=jP l n cells k xs d i op r a b nn tg ll le ok:=by kernel_rfl
noncomputable def PB (l:List Ins) (n:Int):Out:= .ret (.aS []) [Mf l .ready none,.pc [.ps l.length 8 (ak l)],.pc [sP n]]
section
variable (l:List Ins)
theorem PC (N:Nat) (ih : ∀(st:fA) (cells:List AV) (n:Nat),wS st<N→dX st cells→n+fB st≤dK→wS st≤dK→(∀e∈st,e.2+aU e.1≤dK) →
   Am.Good Tryz.prog env (af Tryz.prog env 115 0 [.vy 0,.ms 3 0 st.length 2 none] (HE l n cells) 3 64) (PB l (n+fB st:Nat))) (xs:List Ins) (hxs:xs.length≤dK) (d:Nat) :
  ∀(r i:Nat) (st:fA) (cells:List AV) (n:Nat),i+r=xs.length→wS st+2*aU (xs.drop i)<N→dX st cells→n+fB st+aU (xs.drop i)≤dK→wS st+2*aU (xs.drop i)≤dK→(∀e∈st,e.2+aU e.1≤dK)→d+aU (xs.drop i)≤dK →
   Am.Good Tryz.prog env (af Tryz.prog env 115 2 [.vy 0,.ms 3 0 st.length 2 none,.mp 4 0,aL xs,sI .i64 xs.length,sI .i64 i] (HE l n cells++[.ac [aL xs,sI .i64 d]]) 3 64) (PB l (n+fB (st++[(xs.drop i,d)]):Nat)):=by
 intro r
 induction r with
 |zero=>
  intro i st cells n hi hN ht hn hw he hd
  have h1:xs.drop i=[]:=List.drop_eq_nil_of_le (by omega)
  rw[h1] at hN hn hw ⊢
  simp only[aU] at hN hn hw
  have ho:=ih st (cells.map dL) n (by omega) ht.keep (by omega) (by omega) he
  refine aa names (yO l n cells st.length xs d i 0 0 0 0 0 [] [] [] true) ?_
  have h2 : ¬((i:Int)<xs.length):=by omega
  simp only[jP,Tree.ok]
  refine⟨fun h=>absurd (by simpa using h) h2,fun _=> ?_⟩
  rw[show n+fB (st++[([],d)])=n+fB st from by simp[dN,aU]]
  exact ho
 |succ r ihr=>
  intro i st cells n hi hN ht hn hw he hd
  have kK:i<xs.length:=by omega
  have DD:xs[i]? = some xs[i]:=List.getElem?_eq_getElem kK
  have hdr:xs.drop i=xs[i]::xs.drop (i+1):=List.drop_eq_getElem_cons kK
  rw[hdr] at hN hn hw hd ⊢
  generalize xs[i]=x at *
  generalize hys:xs.drop (i+1)=ys at *
  obtain⟨op,rs,a,b,nn,tg,ll,le⟩:=x
  obtain⟨c0,c1,c2,c3,c4,c5,c6,c7⟩:=fP DD
  have rq:dK=1000000000000:=rfl
  have RV:dh=70368744177664:=rfl
  simp only[aU,kN] at hN hn hw hd
  have Nc:=jK st
  have QB:=ht.len
  have w1:IntKind.i64.wrap ((i:Int)+1)=((i+1:Nat):Int):=by rw[aD (by omega) (by omega)];rfl
  have w2:IntKind.i64.wrap ((d:Int)+1)=((d+1:Nat):Int):=by rw[aD (by omega) (by omega)];rfl
  have w3:IntKind.i64.wrap ((n:Int)+1)=((n+1:Nat):Int):=by rw[aD (by omega) (by omega)];rfl
  have Ak:(i:Int)<(xs.length:Int):=by omega
  have next : ∀(s:fA) (cs:List AV),dX (st++s) cs→wS s≤2*(aU ll+aU le)+2→fB s=aU ll+aU le→oL s=max (cq (d+1) ll) (cq (d+1) le)→(∀e∈s,e.2+aU e.1≤dK) →
    Am.Good Tryz.prog env (af Tryz.prog env 115 2 [.vy 0,.ms 3 0 (st++s).length 2 none,.mp 4 0,aL xs,sI .i64 xs.length,sI .i64 (i+1:Nat)] (HE l (n+1:Nat) cs++[.ac [aL xs,sI .i64 d]]) 3 64) (PB l (n+fB (st++[(.mk op rs a b nn tg ll le::ys,d)]):Nat)):=by
   intro s cs hts hws hns hds hes
   have ho:=ihr (i+1) (st++s) cs (n+1) (by omega) (by rw[ia,hys];omega) hts (by rw[dN,hys];omega) (by rw[ia,hys];omega)
    (fun e hm=>(List.mem_append.1 hm).elim (he e) (hes e)) (by rw[hys];omega)
   rw[hys] at ho
   have e:n+1+fB (st++s++[(ys,d)])=n+fB (st++[(.mk op rs a b nn tg ll le::ys,d)]):=by
    simp only[dN,jJ,hns,aU,kN];omega
   exact e▸ho
  have tree:=yO l n cells st.length xs d i op rs a b nn tg ll le true
  have nl : ∀z:List Ins,z≠[]→0<(z.length:Int):=fun z hz=>by have:=List.length_pos_iff.2 hz;omega
  by_cases IP:ll=[]
  · by_cases hle:le=[]
    · subst IP;subst hle
      have ho:=next [] (cells.map dL) (by rw[List.append_nil];exact ht.keep) (by simp[wS,aU]) (by simp[fB,aU]) (by simp[oL,cq]) (fun _ h=>by cases h)
      refine aa names tree ?_
      simp only[jP,Tree.ok,Int.toNat_natCast,Nat.add_assoc,Nat.reduceAdd,c0,c1,c2,c3,c4,c5,c6,c7,isInt,aH,au,aq,aA,aj,aG,w1,w2,w3]
      rw[List.append_nil] at ho
      exact⟨fun _=>⟨by simp[Ak],by simp,rfl,⟨rfl,fun h=>(by simp at h),fun _=>⟨fun h=>(by simp at h),fun _=>⟨(by trivial),ho⟩⟩⟩⟩,fun h=>absurd Ak (by simpa using h)⟩
    · subst IP
      have RW:=nl le hle
      have ho:=next [(le,d+1)] _ (ht.push le (d+1)).keep (by simp[aU]) (by simp[aU]) (by simp[cq]) (fun e h=>by simp only[List.mem_singleton] at h;subst h;simp only;omega)
      refine aa names tree ?_
      simp only[jP,Tree.ok,Int.toNat_natCast,Nat.add_assoc,Nat.reduceAdd,c0,c1,c2,c3,c4,c5,c6,c7,isInt,aH,au,aq,aA,aj,aG,w1,w2,w3]
      rw[List.length_append] at ho
      exact⟨fun _=>⟨by simp[Ak],by simp,rfl,⟨rfl,fun h=>(by simp at h),fun _=>⟨fun _=>⟨rfl,(by simp;omega),(by trivial),ho⟩,fun h=>absurd RW (by simpa using h)⟩⟩⟩,fun h=>absurd Ak (by simpa using h)⟩
  · have W8:=nl ll IP
    by_cases hle:le=[]
    · subst hle
      have ho:=next [(ll,d+1)] _ (ht.push ll (d+1)).keep (by simp[aU]) (by simp[aU]) (by simp[cq]) (fun e h=>by simp only[List.mem_singleton] at h;subst h;simp only;omega)
      refine aa names tree ?_
      simp only[jP,Tree.ok,Int.toNat_natCast,Nat.add_assoc,Nat.reduceAdd,c0,c1,c2,c3,c4,c5,c6,c7,isInt,aH,au,aq,aA,aj,aG,w1,w2,w3]
      rw[List.length_append] at ho
      exact⟨fun _=>⟨by simp[Ak],by simp,rfl,⟨rfl,fun _=>⟨rfl,(by simp;omega),fun h=>(by simp at h),fun _=>⟨(by trivial),ho⟩⟩,fun h=>absurd W8 (by simpa using h)⟩⟩,fun h=>absurd Ak (by simpa using h)⟩
    · have RW:=nl le hle
      have ER:=(ht.push ll (d+1)).push le (d+1)
      rw[List.append_assoc] at ER
      have ho:=next [(ll,d+1),(le,d+1)] _ ER.keep (by simp[wS];omega) (by simp[fB]) (by simp[oL]) (fun e h=>by simp only[List.mem_cons,List.not_mem_nil,or_false] at h;rcases h with rfl | rfl<;>simp only<;>omega)
      refine aa names tree ?_
      simp only[jP,Tree.ok,Int.toNat_natCast,Nat.add_assoc,Nat.reduceAdd,c0,c1,c2,c3,c4,c5,c6,c7,isInt,aH,au,aq,aA,aj,aG,w1,w2,w3]
      simp only[List.length_append,List.length_cons,List.length_nil,Nat.reduceAdd] at ho
      exact⟨fun _=>⟨by simp[Ak],by simp,rfl,⟨rfl,fun _=>⟨rfl,(by simp;omega),fun _=>⟨rfl,(by simp;omega),(by trivial),ho⟩,fun h=>absurd RW (by simpa using h)⟩,fun h=>absurd W8 (by simpa using h)⟩⟩,fun h=>absurd Ak (by simpa using h)⟩
theorem FU : ∀(N:Nat) (st:fA) (cells:List AV) (n:Nat),wS st<N→dX st cells→n+fB st≤dK→wS st≤dK→(∀e∈st,e.2+aU e.1≤dK) →
   Am.Good Tryz.prog env (af Tryz.prog env 115 0 [.vy 0,.ms 3 0 st.length 2 none] (HE l n cells) 3 64) (PB l (n+fB st:Nat))
 |0,_,_,_,h,_,_,_,_=>by omega
 |N+1,st,cells,n,hN,ht,hn,hw,he=>by
  rcases List.eq_nil_or_concat st with rfl | ⟨s,⟨x,d⟩,rfl⟩
  · refine aa names (HG l n cells) ?_
    have e:n+fB ([]:fA)=n:=by simp[fB]
    rw[e];rfl
  · rw[List.concat_eq_append] at *
    have hx:=he (x,d) (by simp)
    rw[ia,JJ] at hN hw
    rw[dN,jJ] at hn
    obtain⟨t0,t1⟩:=ht.top
    have QB:=ht.len
    have Nc:=jK s
    have rq:dK=1000000000000:=rfl
    have Ii:=dM x
    simp only[List.length_append,List.length_cons,List.length_nil] at QB hx
    have ho:=PC l N (fun st cells n=>FU N st cells n) x (by omega) d x.length 0 s (cells.map dL) n (by omega) (by rw[List.drop_zero];omega) ht.pop.keep (by rw[List.drop_zero];omega) (by rw[List.drop_zero];omega)
     (fun e hm=>he e (List.mem_append_left _ hm)) (by rw[List.drop_zero];omega)
    rw[List.drop_zero] at ho
    have w1:IntKind.i64.wrap (((s.length+1:Nat):Int)-1)=(s.length:Int):=by rw[aD (by omega) (by omega)];omega
    rw[List.length_append,List.length_singleton]
    refine aa names (HF l n cells s.length x d) ?_
    simp only[Cp,Tree.ok,Int.toNat_natCast,Nat.zero_add,t0,t1,gw,rZ,w1,isInt,aH,au,aq,aA,aj,aG,Nat.sub_zero]
    exact⟨fun _=>⟨(by trivial),(by simp;omega),(by simp;omega),(by trivial),(by trivial),(by simp),ho⟩,fun h=>absurd h (by simp)⟩
end
noncomputable def aa3 (l:List Ins) (n:Int) (f:FuncId) (_:List AV) (_:Mem):Option (AV×Mem):=cond (Nat.beq f 115) (some (.aS [],[Mf l .ready none,.pc [.ps l.length 8 (ak l)],.pc [sP n]])) none
noncomputable def UN:bu:=aK av az [(115,0)] [] []
def YB:Sc:= .fin
noncomputable def PD (l:List Ins):Tree:=
 (.at (af Tryz.prog env 115 0 [.vy 0,.ms 3 0 1 2 none] ([.ob (dJ Tryz.prog 35 0 LoopState.ready none) [.p (.ps l.length 8 (ak l)),.an,sI .i64 0,.mp 2 0,.p (.ps l.length 8 (ak l)),.fn (Fn.func 115) [] [.mp 1 0],.an,.an,.an,.an,.an],.pc [.ps l.length 8 (ak l)],.pc [sP 0],.ob (jQ.gr 157 true) [.p (.ps l.length 8 (ak l)),sI .i64 1]]) 3 64))
theorem Mh (l:List Ins):aR Tryz.prog env UN 1000000 115 ([AV.vy 0,AV.mp 1 0]) ([Mf l LoopState.ready Option.none,bg.pc [PV.ps l.length 8 (ak l)],bg.pc [sP 0]]) YB=PD l:=by kernel_rfl
noncomputable def PE (l:List Ins) (n:Int):bu:=aK (aa3 l n) az [] [] []
def UO:Sc:= .fin
noncomputable def Mi (l:List Ins) (n:Int):Tree:=
 (.call ⟨115,[.vy 0,.mp 1 0],[.ob (dJ Tryz.prog 35 0 LoopState.ready none) [.p (.ps l.length 8 (ak l)),.an,sI .i64 0,.mp 2 0,.p (.ps l.length 8 (ak l)),.fn (Fn.func 115) [] [.mp 1 0],.an,.an,.an,.an,.an],.pc [.ps l.length 8 (ak l)],.pc [sP 0]],.aS [],[.ob (dJ Tryz.prog 35 0 LoopState.ready none) [.p (.ps l.length 8 (ak l)),.an,sI .i64 0,.mp 2 0,.p (.ps l.length 8 (ak l)),.fn (Fn.func 115) [] [.mp 1 0],.an,.an,.an,.an,.an],.pc [.ps l.length 8 (ak l)],.pc [sP n]]⟩
 (.out (.ret (sI .i64 n) [])))
theorem HH (l:List Ins) (n:Int):aR Tryz.prog env (PE l n) 1000000 35 ([aL l]) ([]) UO=Mi l n:=by kernel_rfl
theorem Ed (l:List Ins) (h:aU l≤100000000000):aC Tryz.prog env 35 [aL l] [] (sI .i64 (aU l)) []:=by
 have rq:dK=1000000000000:=rfl
 have ho:=FU l (2*aU l+2) [(l,1)] _ 0 (by simp) (E5 l) (by simp;omega) (by simp;omega) (fun e he=>by simp only[List.mem_singleton] at he;subst he;simp only;omega)
 simp only[jJ,Nat.zero_add] at ho
 have hd:aC Tryz.prog env 115 [.vy 0,.mp 1 0] _ (.aS []) _:=ah names (Mh l) ho
 exact ah names (HH l _) ⟨hd,rfl⟩
end Go.Proofs.YtdmmllcjgjmbbaaGreatDoor.N
end
