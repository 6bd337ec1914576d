import Derived.Test.YtjfgfhaoeicpdaaGreatDoorMK
import Derived.Test.YtjfgfhaoeicpdaaGreatDoorMN
import Derived.Test.YtjfgfhaoeicpdaaGreatDoorMM
import Derived.Test.YtjfgfhaoeicpdaaGreatDoorMH
open Nat renaming le_refl→bj,beq→ae
open Go.IntKind renaming i64→rn,u32→abb,u64→afo
open Go.Proofs.Tryz renaming prog→ab5
open List renaming flatMap→aeR,getElem?_eq_getElem→bm,getElem?_eq_some_iff→di,mem_of_getElem?→mc,getElem?_eq_none→dp,drop_eq_getElem_cons→aeZ,map→abG,drop_length→ae0,mem_append→mi,mem_cons→oi,mem_map→ed
open Bool renaming and_true→aeU,and_eq_true→ch,true_and→ae2,false_eq_true→oE,true_eq_false→afn,true_or→afr,or_true→afs,or_false→afu
open Int renaming toNat_natCast→aep,add_assoc→afw
open True renaming intro→afb
noncomputable section
section
set_option linter.unusedSimpArgs false
set_option linter.unusedVariables false
namespace Go.Proofs.YtjfgfhaoeicpdaaGreatDoor.N
open Go Go.Am
def lrC (M:Mo) (most n:Int) (i:Nat) (r:Int) (_:Nat) (f:FuncId) (_:List AV) (m:Mem):Option (AV×Mem):=cond (ae f 16) (some (sI .i64 r,m)) none
def Zj:bD:=aQ aI av [(5,1)] [(5,0,0)] []
def adA:Sc:= .fin
def Jj (M:Mo) (most:Int):aC:=
 (.test (decide (rn.wrap (rn.wrap (rn.wrap (rn.wrap (rn.wrap (rn.wrap (rn.wrap (rn.wrap ((↑M.tys.length:Int)+(↑M.aZ.length:Int))+(↑M.fns.length:Int))+(↑M.cj.length:Int))+(↑M.cM.length:Int))+(↑M.gls.length:Int))+(↑M.exs.length:Int))+(↑M.els.length:Int))+(↑M.bt.length:Int))>most))
 oO
 (.at (ak ab5 env 5 1 [sI .i64 most,.mp 0 0,sI .i64 (rn.wrap (rn.wrap (rn.wrap (rn.wrap (rn.wrap (rn.wrap (rn.wrap (rn.wrap ((↑M.tys.length:Int)+(↑M.aZ.length:Int))+(↑M.fns.length:Int))+(↑M.cj.length:Int))+(↑M.cM.length:Int))+(↑M.gls.length:Int))+(↑M.exs.length:Int))+(↑M.els.length:Int))+(↑M.bt.length:Int))),sI .i64 0] ([.pc M.aJ]) 0 188)))
theorem Qe (M:Mo) (most:Int):aH ab5 env Zj 1000000 5 ([AV.agg (abG AV.p M.aJ),sI rn most]) ([]) adA=Jj M most:=by kernel_rfl
def Uq:bD:=aQ aI av [(5,1),(5,3)] [(5,0,2)] [(5,8,4),(5,8,7)]
def Zk (M:Mo) (most n:Int) (i:Nat) (r:Int):Sc:=(.fork (.ans 16 (sI .i64 r) ([]) .fin) .fin)
def yQ (M:Mo) (most n:Int) (i:Nat) (r:Int):aC:=
 (.test (decide ((↑i:Int)<(↑M.fns.length:Int)))
 (.must (bp (↑i:Int) M.fns.length&&true&&true)
 (.must (bB (aB (aeR aV M.fns) (aK i*3+1+1))&&true)
 (.call ⟨16,[.p (.ps (aD (aB (aeR aV M.fns) (aK i*3+1+1))) (bh (aB (aeR aV M.fns) (aK i*3+1+1))) (au (aB (aeR aV M.fns) (aK i*3+1+1)))),sI .i64 most],[],sI .i64 r,[]⟩
 (.at (ak ab5 env 5 1 [sI .i64 most,.mp 0 0,sI .i64 (rn.wrap (n+r)),sI .i64 (rn.wrap ((↑i:Int)+1))] ([.pc M.aJ]) 0 188)))))
 (.at (ak ab5 env 5 3 [sI .i64 most,.mp 0 0,sI .i64 n,sI .i64 0] ([.pc M.aJ]) 0 188)))
theorem Bg (M:Mo) (most n:Int) (i:Nat) (r:Int):grow ab5 env Uq 1000000 true (ak ab5 env 5 1 ([sI rn most,AV.mp 0 0,sI rn n,sI rn (↑i:Int)]) ([aU.pc M.aJ]) 0 188) (Zk M most n i r) atEnd=yQ M most n i r:=by kernel_rfl
def Ur:bD:=aQ aI av [(5,3),(5,5)] [(5,0,4)] [(5,12,4),(5,12,6)]
def Zl (M:Mo) (most n:Int) (i:Nat) (r:Int):Sc:=(.fork (.ans 16 (sI .i64 r) ([]) .fin) .fin)
def yR (M:Mo) (most n:Int) (i:Nat) (r:Int):aC:=
 (.test (decide ((↑i:Int)<(↑M.gls.length:Int)))
 (.must (bp (↑i:Int) M.gls.length&&true&&true)
 (.must (bB (aB (aeR aY M.gls) (aK i*2+1))&&true)
 (.call ⟨16,[.p (.ps (aD (aB (aeR aY M.gls) (aK i*2+1))) (bh (aB (aeR aY M.gls) (aK i*2+1))) (au (aB (aeR aY M.gls) (aK i*2+1)))),sI .i64 most],[],sI .i64 r,[]⟩
 (.at (ak ab5 env 5 3 [sI .i64 most,.mp 0 0,sI .i64 (rn.wrap (n+r)),sI .i64 (rn.wrap ((↑i:Int)+1))] ([.pc M.aJ]) 0 188)))))
 (.at (ak ab5 env 5 5 [sI .i64 most,.mp 0 0,sI .i64 n,sI .i64 0] ([.pc M.aJ]) 0 188)))
theorem Bh (M:Mo) (most n:Int) (i:Nat) (r:Int):grow ab5 env Ur 1000000 true (ak ab5 env 5 3 ([sI rn most,AV.mp 0 0,sI rn n,sI rn (↑i:Int)]) ([aU.pc M.aJ]) 0 188) (Zl M most n i r) atEnd=yR M most n i r:=by kernel_rfl
def Us:bD:=aQ aI av [(5,5),(5,7)] [(5,0,6)] [(5,0,7)]
def Zm (M:Mo) (most n:Int) (i:Nat) (r:Int):Sc:=(.fork (.vP 5 15 (lrC M most n i r 0) .fin) .fin)
def yS (M:Mo) (most n:Int) (i:Nat) (r:Int):aC:=
 (.test (decide ((↑i:Int)<(↑M.els.length:Int)))
 (.call ⟨16,[.p (.ps (aD (aB (aeR aX M.els) (aK i*2+0))) (bh (aB (aeR aX M.els) (aK i*2+0))) (au (aB (aeR aX M.els) (aK i*2+0)))),sI .i64 most],[],sI .i64 r,[]⟩
 (.must (bp (↑i:Int) M.els.length&&true&&true&&(bB (aB (aeR aX M.els) (aK i*2+0))&&true&&(bp (↑i:Int) M.els.length&&true&&true&&(bB (aB (aeR aX M.els) (aK i*2+1))&&true&&true)))&&true)
 (.at (ak ab5 env 5 5 [sI .i64 most,.mp 0 0,sI .i64 (rn.wrap (rn.wrap (n+r)+bif true then Min.min (↑(aD (aB (aeR aX M.els) (aK i*2+1))):Int) most else Max.max (↑(aD (aB (aeR aX M.els) (aK i*2+1))):Int) most)),sI .i64 (rn.wrap ((↑i:Int)+1))] ([.pc M.aJ]) 0 188))))
 (.at (ak ab5 env 5 7 [sI .i64 most,.mp 0 0,sI .i64 n,sI .i64 0] ([.pc M.aJ]) 0 188)))
theorem Bi (M:Mo) (most n:Int) (i:Nat) (r:Int):grow ab5 env Us 1000000 true (ak ab5 env 5 5 ([sI rn most,AV.mp 0 0,sI rn n,sI rn (↑i:Int)]) ([aU.pc M.aJ]) 0 188) (Zm M most n i r) atEnd=yS M most n i r:=by kernel_rfl
def Ut:bD:=aQ aI av [(5,7),(5,9)] [(5,0,8)] [(5,0,9)]
def Zn (M:Mo) (most n:Int) (i:Nat) (r:Int):Sc:=(.fork (.vP 5 19 (lrC M most n i r 0) .fin) .fin)
def yT (M:Mo) (most n:Int) (i:Nat) (r:Int):aC:=
 (.test (decide ((↑i:Int)<(↑M.bt.length:Int)))
 (.call ⟨16,[.p (.ps (aD (aB (aeR bg M.bt) (aK i*2+0))) (bh (aB (aeR bg M.bt) (aK i*2+0))) (au (aB (aeR bg M.bt) (aK i*2+0)))),sI .i64 most],[],sI .i64 r,[]⟩
 (.must (bp (↑i:Int) M.bt.length&&true&&true&&(bB (aB (aeR bg M.bt) (aK i*2+0))&&true&&(bp (↑i:Int) M.bt.length&&true&&true&&(bB (aB (aeR bg M.bt) (aK i*2+1))&&true&&true)))&&true)
 (.at (ak ab5 env 5 7 [sI .i64 most,.mp 0 0,sI .i64 (rn.wrap (rn.wrap (n+r)+bif true then Min.min (↑(aD (aB (aeR bg M.bt) (aK i*2+1))):Int) most else Max.max (↑(aD (aB (aeR bg M.bt) (aK i*2+1))):Int) most)),sI .i64 (rn.wrap ((↑i:Int)+1))] ([.pc M.aJ]) 0 188))))
 (.at (ak ab5 env 5 9 [sI .i64 most,.mp 0 0,sI .i64 n,sI .i64 0] ([.pc M.aJ]) 0 188)))
theorem Bj (M:Mo) (most n:Int) (i:Nat) (r:Int):grow ab5 env Ut 1000000 true (ak ab5 env 5 7 ([sI rn most,AV.mp 0 0,sI rn n,sI rn (↑i:Int)]) ([aU.pc M.aJ]) 0 188) (Zn M most n i r) atEnd=yT M most n i r:=by kernel_rfl
def Uu:bD:=aQ aI av [(5,9),(5,11)] [(5,0,10)] [(5,0,11)]
def Zo (M:Mo) (most n:Int) (i:Nat) (r:Int):Sc:= .fin
def yU (M:Mo) (most n:Int) (i:Nat) (r:Int):aC:=
 (.test (decide ((↑i:Int)<(↑M.aZ.length:Int)))
 (.must (bp (↑i:Int) M.aZ.length&&true&&(isStr (aB (aeR bQ M.aZ) (aK i*3+0))&&(bp (↑i:Int) M.aZ.length&&true&&(isStr (aB (aeR bQ M.aZ) (aK i*3+1))&&true)))&&true)
 (.at (ak ab5 env 5 9 [sI .i64 most,.mp 0 0,sI .i64 (rn.wrap (rn.wrap (n+bif true then Min.min (↑(bI (aB (aeR bQ M.aZ) (aK i*3+0))).data.toList.length:Int) most else Max.max (↑(bI (aB (aeR bQ M.aZ) (aK i*3+0))).data.toList.length:Int) most)+bif true then Min.min (↑(bI (aB (aeR bQ M.aZ) (aK i*3+1))).data.toList.length:Int) most else Max.max (↑(bI (aB (aeR bQ M.aZ) (aK i*3+1))).data.toList.length:Int) most)),sI .i64 (rn.wrap ((↑i:Int)+1))] ([.pc M.aJ]) 0 188)))
 (.at (ak ab5 env 5 11 [sI .i64 most,.mp 0 0,sI .i64 n,sI .i64 0] ([.pc M.aJ]) 0 188)))
theorem Bk (M:Mo) (most n:Int) (i:Nat) (r:Int):grow ab5 env Uu 1000000 true (ak ab5 env 5 9 ([sI rn most,AV.mp 0 0,sI rn n,sI rn (↑i:Int)]) ([aU.pc M.aJ]) 0 188) (Zo M most n i r) atEnd=yU M most n i r:=by kernel_rfl
def Uv:bD:=aQ aI av [(5,11)] [(5,0,12)] [(5,28,4),(5,28,6)]
def Zp (M:Mo) (most n:Int) (i:Nat) (r:Int):Sc:= .fin
def yV (M:Mo) (most n:Int) (i:Nat) (r:Int):aC:=
 (.test (decide ((↑i:Int)<(↑M.exs.length:Int)))
 (.must (bp (↑i:Int) M.exs.length&&true&&true)
 (.must (isStr (aB (aeR aW M.exs) (aK i*3+0))&&true)
 (.at (ak ab5 env 5 11 [sI .i64 most,.mp 0 0,sI .i64 (rn.wrap (n+bif true then Min.min (↑(bI (aB (aeR aW M.exs) (aK i*3+0))).data.toList.length:Int) most else Max.max (↑(bI (aB (aeR aW M.exs) (aK i*3+0))).data.toList.length:Int) most)),sI .i64 (rn.wrap ((↑i:Int)+1))] ([.pc M.aJ]) 0 188))))
 (.out (.ret (.p (.sc (.bool (decide (n>most))))) [])))
theorem Bl (M:Mo) (most n:Int) (i:Nat) (r:Int):grow ab5 env Uv 1000000 true (ak ab5 env 5 11 ([sI rn most,AV.mp 0 0,sI rn n,sI rn (↑i:Int)]) ([aU.pc M.aJ]) 0 188) (Zp M most n i r) atEnd=yV M most n i r:=by kernel_rfl
theorem Qf (s:ByteArray) (hs:s.size≤maxLen):an ab5 env 81 [.p (.sc (.string s))] [] (sB (decide (Ui s≥0))) []:=
 af aM (Ox s (Ui s)) ⟨an.abU (m:=[.tok]) (args:=[.os (some 0) s.data.toList.length 1 (s.data.toList.map lR)]) (Ls s hs) ⟨Iv.os (.refl _),trivial⟩,rfl⟩
def Qg (s:ByteArray):Bool:=decide (Ui s≥0)
def rR (M:Mo):Bool:=M.tys.any GR||M.aZ.any GS||M.fns.any EA||(Di M).any Qg||M.cj.any (tC 1048576)||M.cM.any (tC 65536)||M.exs.any EB||(!M.st&&M.sn != 0)
def E1 (M:Mo):Int:=if rR M=true then 2 else if tD M 2=true then 2 else 0
theorem Zq {M:Mo} (hM:M.wf) : ∀s∈Di M,s.size≤maxLen:=by
 intro s hs
 rcases mi.1 hs with h | h
 · obtain⟨x,hx,h⟩:=List.mem_flatMap.1 h
   have q:=hM.aZ.2 x hx
   simp only[oi,List.not_mem_nil,or_false] at h
   rcases h with rfl | rfl
   · exact q.1
   · exact q.2.1
 · obtain⟨x,hx,rfl⟩:=ed.1 h
   exact(hM.exs.2 x hx).1
theorem Lt (M:Mo) (hM:M.fit) (hw:M.wf) (hs:M.CT):an ab5 env 32 [.agg (M.aJ.map .p)] [] (sI .i64 (E1 M)) []:=by
 have f1:=OP M.tys (by have:=hM.tys;omega) GR (fun x _=>O4 x)
 have f2:=OR M.aZ (by have:=hM.aZ;omega) GS (fun x _=>O7 x)
 have f3:=OT M.fns (by have:=hM.fns;omega) EA (fun x _=>O9 x)
 have f4:=ON (Di M) (Pa hM) Qg (fun x hx=>Qf x (Zq hw x hx))
 have f5:=OV M.cj (by have:=hM.cj;omega) (tC 1048576) (fun x _=>O5 x)
 have f6:=OX M.cM (by have:=hM.cM;omega) (tC 65536) (fun x _=>O6 x)
 have f7:=OZ M.exs (by have:=hM.exs;omega) EB (fun x _=>O8 x)
 have f8:=uR M hM hs 2
 have nd:=Pb M hM
 have hF:E1 M=if rR M=true then 2 else if tD M 2=true then 2 else 0:=rfl
 have hB:rR M=(M.tys.any GR||M.aZ.any GS||M.fns.any EA||(Di M).any Qg||M.cj.any (tC 1048576)||M.cM.any (tC 65536)||M.exs.any EB||(!M.st&&M.sn != 0)):=rfl
 refine af aM (OH M (M.tys.any GR) (M.aZ.any GS) (M.fns.any EA) ((Di M).any Qg) (M.cj.any (tC 1048576)) (M.cM.any (tC 65536)) (M.exs.any EB) (Di M).length ((Di M).flatMap fA) (if tD M 2=true then 2 else 0)) ?_
 generalize (if tD M 2=true then(2:Int) else 0)=v at f8 hF ⊢
 rw[hF,hB]
 generalize M.tys.any GR=b1 at *
 generalize M.aZ.any GS=b2 at *
 generalize M.fns.any EA=b3 at *
 generalize (Di M).any Qg=b4 at *
 generalize M.cj.any (tC 1048576)=b5 at *
 generalize M.cM.any (tC 65536)=b6 at *
 generalize M.exs.any EB=b7 at *
 simp only[IV,fM,aC.ok]
 refine⟨f1,fun q1=> ?_,fun q1=>⟨f2,fun q2=> ?_,fun q2=>⟨f3,fun q3=> ?_,fun q3=>⟨nd,f4,fun q4=> ?_,fun q4=>⟨f5,fun q5=> ?_,fun q5=>⟨f6,fun q6=> ?_,fun q6=>⟨f7,fun q7=> ?_,fun q7=>⟨fun q9=>⟨fun q8=> ?_,fun q8=>⟨f8,?_⟩⟩,fun q9=>⟨f8,?_⟩⟩⟩⟩⟩⟩⟩⟩⟩
 · rw[if_pos (by simp only[q1,afr])]
 · rw[if_pos (by simp only[q2,afr,afs])]
 · rw[if_pos (by simp only[q3,afr,afs])]
 · rw[if_pos (by simp only[q4,afr,afs])]
 · rw[if_pos (by simp only[q5,afr,afs])]
 · rw[if_pos (by simp only[q6,afr,afs])]
 · rw[if_pos (by simp only[q7,afr,afs])]
 · rw[if_pos (by simp only[q8,q9,aeU,afs])]
 · rw[if_neg (by simp only[q1,q2,q3,q4,q5,q6,q7,q8,Bool.and_false,afu,oE,not_false_eq_true])]
 · rw[if_neg (by simp only[q1,q2,q3,q4,q5,q6,q7,q9,Bool.false_and,afu,oE,not_false_eq_true])]
def mN (M:Mo):Int:=if Bd M≠0 then Bd M else if EC M≠0 then EC M else E1 M
theorem E2 (M:Mo) (hM:M.fit) (hw:M.wf) (hs:M.CT):an ab5 env 18 [.agg (M.aJ.map .p)] [] (sI .i64 (mN M)) []:=by
 refine af aM (K0 M (Bd M) (EC M) (E1 M)) ?_
 simp only[Ew,aC.ok,mN,bne_iff_ne,ne_eq,bne_eq_false_iff_eq]
 refine⟨K2 M hM hs,fun q=> ?_,fun q=>⟨K1 M hM,fun r=> ?_,fun r=>⟨Lt M hM hw hs,fun t=> ?_,fun t=> ?_⟩⟩⟩
 · rw[if_pos q]
 · rw[if_neg (by simpa using q),if_pos r]
 · rw[if_neg (by simpa using q),if_neg (by simpa using r)]
 · rw[if_neg (by simpa using q),if_neg (by simpa using r),t]
def pJ (x:Fu):Int:=dm x.l 5000 0
def uY (x:Gl):Int:=dm x.l 5000 0
def Bm (x:El):Int:=dm x.l 5000 0+min (x.fs.length:Int) 5000
def He (x:Da):Int:=dm x.l 5000 0+min (x.bs.length:Int) 5000
def Sm (x:Im):Int:=min (x.mo.data.toList.length:Int) 5000+min (x.nm.data.toList.length:Int) 5000
def Zr (x:Ex):Int:=min (x.nm.data.toList.length:Int) 5000
def b8 {α:Type} (w:α→Int):Int→List α→Int
 |n,[]=>n
 |n,x::r=>b8 w (n+w x) r
def fI (M:Mo) (t:Nat) (n:Int) (i:Nat):cm:=ak ab5 env 5 t [sI .i64 5000,.mp 0 0,sI .i64 n,sI .i64 i] [.pc M.aJ] 0 188
theorem oF {α:Type} {l:List α} {w:α→Int} {D:Int→Nat→cm} {K:Int→Prop} {o:Out} (hw : ∀x:α,0≤w x∧w x≤20000)
  (step : ∀(n:Int) (i:Nat) (x:α),l[i]? = some x→0≤n→n+w x≤1000000000000000→bR ab5 env (D (n+w x) (i+1)) o→bR ab5 env (D n i) o)
  (fin : ∀n,K n→bR ab5 env (D n l.length) o) :
  ∀(r i:Nat) (n:Int),i+r=l.length→0≤n→n+r*20000≤1000000000000000→K (b8 w n (l.drop i))→bR ab5 env (D n i) o:=by
 intro r
 induction r with
 |zero=>
  intro i n hi h0 hn h
  obtain rfl:i=l.length:=by omega
  rw[ae0] at h
  exact fin n h
 |succ r ih=>
  intro i n hi h0 hn h
  have hl:i<l.length:=by omega
  rw[aeZ hl] at h
  have hx:=hw l[i]
  exact step n i l[i] (bm hl) h0 (by omega) (ih (i+1) _ (by omega) (by omega) (by omega) h)
theorem cr {α:Type} {w:α→Int} (hw : ∀x:α,0≤w x∧w x≤20000) : ∀(l:List α) (n:Int),n≤b8 w n l∧b8 w n l≤n+l.length*20000
 |[],n=>by simp[b8]
 |x::r,n=>by
  have h:=cr hw r (n+w x)
  have hx:=hw x
  simp only[b8,List.length_cons]
  omega
theorem mG {α:Type} {w:α→Int} (hw : ∀x:α,0≤w x∧w x≤20000) : ∀(l:List α) (n:Int) (x:α),x∈l→n+w x≤b8 w n l
 |y::r,n,x,h=>by
  have hy:=hw y
  rcases oi.1 h with rfl | h
  · exact(cr hw r (n+w x)).1
  · have:=mG hw r (n+w y) x h
    simp only[b8]
    omega
theorem Bn (x:Fu):0≤pJ x∧pJ x≤20000:=by have h:=cu x.l 5000 0 (by decide) (by decide) (by decide);unfold pJ;omega
theorem Bo (x:Gl):0≤uY x∧uY x≤20000:=by have h:=cu x.l 5000 0 (by decide) (by decide) (by decide);unfold uY;omega
theorem E3 (x:El):0≤Bm x∧Bm x≤20000:=by have h:=cu x.l 5000 0 (by decide) (by decide) (by decide);unfold Bm;omega
theorem E4 (x:Da):0≤He x∧He x≤20000:=by have h:=cu x.l 5000 0 (by decide) (by decide) (by decide);unfold He;omega
theorem Jk (x:Im):0≤Sm x∧Sm x≤20000:=by unfold Sm;omega
theorem Qh (x:Ex):0≤Zr x∧Zr x≤20000:=by unfold Zr;omega
theorem Qi (M:Mo) (hM:M.wf) (h5:M.fns.length≤5000) (o:Out) (n:Int) (i:Nat) (x:Fu) (hx:M.fns[i]? = some x) (h0:0≤n) (hn:n+pJ x≤1000000000000000) (h:bR ab5 env (fI M 1 (n+pJ x) (i+1)) o):bR ab5 env (fI M 1 n i) o:=by
 have hi:i<M.fns.length:=(di.1 hx).1
 have c:=bq (z:=3) (enc:=aV) (fun _=>rfl) hx
 have c20:(M.fns.flatMap aV).getD (i*3+1+1) .bK=pL x.l:=c 2 (by decide)
 have c21:(M.fns.flatMap aV).getD (i*3+2) .bK=pL x.l:=c 2 (by decide)
 have w:rn.wrap ((i:Int)+1)=((i+1:Nat):Int):=by rw[aO (by omega) (by omega)];rfl
 have hd:decide ((i:Int)<(M.fns.length:Int))=true:=decide_eq_true (by omega)
 have hI:=cu x.l 5000 0 (by decide) (by decide) (by decide)
 have hq:CF x.l:=(hM.fns.2 x (mc hx)).2.2
 have hc:=gJ (iy x.l) x.l 5000 (bj _) hq.1 hq.2 (by decide) (by decide)
 unfold pJ at h hn
 have w1:rn.wrap (n+dm x.l 5000 0)=n+dm x.l 5000 0:=aO (by omega) (by omega)
 refine ah aM (Bg M 5000 n i (dm x.l 5000 0)) ?_
 simp only[yQ,bN,aC.ok,isStr,bB,bI,aD,bh,au,bp,aep,c20,c21,hd,w,cond_true,cond_false,aeU,ae2,w1]
 exact⟨fun _=>⟨(by first | rfl | (simp only[ch,decide_eq_true_eq];omega)),(by first | rfl | trivial),hc,h⟩,fun q=>(by cases q)⟩
theorem Uw (M:Mo) (o:Out) (n:Int) (h:bR ab5 env (fI M 3 n 0) o):bR ab5 env (fI M 1 n M.fns.length) o:=by
 have hd:decide ((M.fns.length:Int)<(M.fns.length:Int))=false:=decide_eq_false (by omega)
 refine ah aM (Bg M 5000 n M.fns.length 0) ?_
 simp only[yQ,bN,aC.ok,hd]
 exact⟨fun q=>(by cases q),fun _=>h⟩
theorem Qj (M:Mo) (hM:M.wf) (h5:M.gls.length≤5000) (o:Out) (n:Int) (i:Nat) (x:Gl) (hx:M.gls[i]? = some x) (h0:0≤n) (hn:n+uY x≤1000000000000000) (h:bR ab5 env (fI M 3 (n+uY x) (i+1)) o):bR ab5 env (fI M 3 n i) o:=by
 have hi:i<M.gls.length:=(di.1 hx).1
 have c:=bq (z:=2) (enc:=aY) (fun _=>rfl) hx
 have c10:(M.gls.flatMap aY).getD (i*2+1) .bK=pL x.l:=c 1 (by decide)
 have w:rn.wrap ((i:Int)+1)=((i+1:Nat):Int):=by rw[aO (by omega) (by omega)];rfl
 have hd:decide ((i:Int)<(M.gls.length:Int))=true:=decide_eq_true (by omega)
 have hI:=cu x.l 5000 0 (by decide) (by decide) (by decide)
 have hq:CF x.l:=(hM.gls.2 x (mc hx))
 have hc:=gJ (iy x.l) x.l 5000 (bj _) hq.1 hq.2 (by decide) (by decide)
 unfold uY at h hn
 have w1:rn.wrap (n+dm x.l 5000 0)=n+dm x.l 5000 0:=aO (by omega) (by omega)
 refine ah aM (Bh M 5000 n i (dm x.l 5000 0)) ?_
 simp only[yR,bN,aC.ok,isStr,bB,bI,aD,bh,au,bp,aep,c10,hd,w,cond_true,cond_false,aeU,ae2,w1]
 exact⟨fun _=>⟨(by first | rfl | (simp only[ch,decide_eq_true_eq];omega)),(by first | rfl | trivial),hc,h⟩,fun q=>(by cases q)⟩
theorem Ux (M:Mo) (o:Out) (n:Int) (h:bR ab5 env (fI M 5 n 0) o):bR ab5 env (fI M 3 n M.gls.length) o:=by
 have hd:decide ((M.gls.length:Int)<(M.gls.length:Int))=false:=decide_eq_false (by omega)
 refine ah aM (Bh M 5000 n M.gls.length 0) ?_
 simp only[yR,bN,aC.ok,hd]
 exact⟨fun q=>(by cases q),fun _=>h⟩
theorem Qk (M:Mo) (hM:M.wf) (h5:M.els.length≤5000) (o:Out) (n:Int) (i:Nat) (x:El) (hx:M.els[i]? = some x) (h0:0≤n) (hn:n+Bm x≤1000000000000000) (h:bR ab5 env (fI M 5 (n+Bm x) (i+1)) o):bR ab5 env (fI M 5 n i) o:=by
 have hi:i<M.els.length:=(di.1 hx).1
 have c:=bq (z:=2) (enc:=aX) (fun _=>rfl) hx
 have Zs:(M.els.flatMap aX).getD (i*2) .bK=pL x.l:=c 0 (by decide)
 have Zt:(M.els.flatMap aX).getD (i*2+0) .bK=pL x.l:=c 0 (by decide)
 have c12:(M.els.flatMap aX).getD (i*2+1) .bK=pT .u32 x.fs:=c 1 (by decide)
 have w:rn.wrap ((i:Int)+1)=((i+1:Nat):Int):=by rw[aO (by omega) (by omega)];rfl
 have hd:decide ((i:Int)<(M.els.length:Int))=true:=decide_eq_true (by omega)
 have hI:=cu x.l 5000 0 (by decide) (by decide) (by decide)
 have hq:CF x.l:=(hM.els.2 x (mc hx)).1
 have hc:=gJ (iy x.l) x.l 5000 (bj _) hq.1 hq.2 (by decide) (by decide)
 unfold Bm at h hn
 have w1:rn.wrap (rn.wrap (n+dm x.l 5000 0)+min (x.fs.length:Int) 5000)=n+(dm x.l 5000 0+min (x.fs.length:Int) 5000):=by rw[aO (n:=n+dm x.l 5000 0) (by omega) (by omega),afw];exact aO (by omega) (by omega)
 refine ah aM (Bi M 5000 n i (dm x.l 5000 0)) ?_
 simp only[yS,bN,aC.ok,isStr,bB,bI,aD,bh,au,bp,aep,Zs,Zt,c12,hd,w,cond_true,cond_false,aeU,ae2,w1]
 exact⟨fun _=>⟨hc,(by first | rfl | (simp only[ch,decide_eq_true_eq];omega)),h⟩,fun q=>(by cases q)⟩
theorem Uy (M:Mo) (o:Out) (n:Int) (h:bR ab5 env (fI M 7 n 0) o):bR ab5 env (fI M 5 n M.els.length) o:=by
 have hd:decide ((M.els.length:Int)<(M.els.length:Int))=false:=decide_eq_false (by omega)
 refine ah aM (Bi M 5000 n M.els.length 0) ?_
 simp only[yS,bN,aC.ok,hd]
 exact⟨fun q=>(by cases q),fun _=>h⟩
theorem Ql (M:Mo) (hM:M.wf) (h5:M.bt.length≤5000) (o:Out) (n:Int) (i:Nat) (x:Da) (hx:M.bt[i]? = some x) (h0:0≤n) (hn:n+He x≤1000000000000000) (h:bR ab5 env (fI M 7 (n+He x) (i+1)) o):bR ab5 env (fI M 7 n i) o:=by
 have hi:i<M.bt.length:=(di.1 hx).1
 have c:=bq (z:=2) (enc:=bg) (fun _=>rfl) hx
 have Zs:(M.bt.flatMap bg).getD (i*2) .bK=pL x.l:=c 0 (by decide)
 have Zt:(M.bt.flatMap bg).getD (i*2+0) .bK=pL x.l:=c 0 (by decide)
 have c12:(M.bt.flatMap bg).getD (i*2+1) .bK=pT .u8 x.bs:=c 1 (by decide)
 have w:rn.wrap ((i:Int)+1)=((i+1:Nat):Int):=by rw[aO (by omega) (by omega)];rfl
 have hd:decide ((i:Int)<(M.bt.length:Int))=true:=decide_eq_true (by omega)
 have hI:=cu x.l 5000 0 (by decide) (by decide) (by decide)
 have hq:CF x.l:=(hM.bt.2 x (mc hx)).1
 have hc:=gJ (iy x.l) x.l 5000 (bj _) hq.1 hq.2 (by decide) (by decide)
 unfold He at h hn
 have w1:rn.wrap (rn.wrap (n+dm x.l 5000 0)+min (x.bs.length:Int) 5000)=n+(dm x.l 5000 0+min (x.bs.length:Int) 5000):=by rw[aO (n:=n+dm x.l 5000 0) (by omega) (by omega),afw];exact aO (by omega) (by omega)
 refine ah aM (Bj M 5000 n i (dm x.l 5000 0)) ?_
 simp only[yT,bN,aC.ok,isStr,bB,bI,aD,bh,au,bp,aep,Zs,Zt,c12,hd,w,cond_true,cond_false,aeU,ae2,w1]
 exact⟨fun _=>⟨hc,(by first | rfl | (simp only[ch,decide_eq_true_eq];omega)),h⟩,fun q=>(by cases q)⟩
theorem Uz (M:Mo) (o:Out) (n:Int) (h:bR ab5 env (fI M 9 n 0) o):bR ab5 env (fI M 7 n M.bt.length) o:=by
 have hd:decide ((M.bt.length:Int)<(M.bt.length:Int))=false:=decide_eq_false (by omega)
 refine ah aM (Bj M 5000 n M.bt.length 0) ?_
 simp only[yT,bN,aC.ok,hd]
 exact⟨fun q=>(by cases q),fun _=>h⟩
theorem Qm (M:Mo) (hM:M.wf) (h5:M.aZ.length≤5000) (o:Out) (n:Int) (i:Nat) (x:Im) (hx:M.aZ[i]? = some x) (h0:0≤n) (hn:n+Sm x≤1000000000000000) (h:bR ab5 env (fI M 9 (n+Sm x) (i+1)) o):bR ab5 env (fI M 9 n i) o:=by
 have hi:i<M.aZ.length:=(di.1 hx).1
 have c:=bq (z:=3) (enc:=bQ) (fun _=>rfl) hx
 have Zs:(M.aZ.flatMap bQ).getD (i*3) .bK = .sc (.string x.mo):=c 0 (by decide)
 have Zt:(M.aZ.flatMap bQ).getD (i*3+0) .bK = .sc (.string x.mo):=c 0 (by decide)
 have c12:(M.aZ.flatMap bQ).getD (i*3+1) .bK = .sc (.string x.nm):=c 1 (by decide)
 have w:rn.wrap ((i:Int)+1)=((i+1:Nat):Int):=by rw[aO (by omega) (by omega)];rfl
 have hd:decide ((i:Int)<(M.aZ.length:Int))=true:=decide_eq_true (by omega)
 unfold Sm at h hn
 have w1:rn.wrap (rn.wrap (n+min (x.mo.data.toList.length:Int) 5000)+min (x.nm.data.toList.length:Int) 5000)=n+(min (x.mo.data.toList.length:Int) 5000+min (x.nm.data.toList.length:Int) 5000):=by rw[aO (n:=n+min (x.mo.data.toList.length:Int) 5000) (by omega) (by omega),afw];exact aO (by omega) (by omega)
 refine ah aM (Bk M 5000 n i 0) ?_
 simp only[yU,bN,aC.ok,isStr,bB,bI,aD,bh,au,bp,aep,Zs,Zt,c12,hd,w,cond_true,cond_false,aeU,ae2,w1]
 exact⟨fun _=>⟨(by first | rfl | (simp only[ch,decide_eq_true_eq];omega)),h⟩,fun q=>(by cases q)⟩
theorem UA (M:Mo) (o:Out) (n:Int) (h:bR ab5 env (fI M 11 n 0) o):bR ab5 env (fI M 9 n M.aZ.length) o:=by
 have hd:decide ((M.aZ.length:Int)<(M.aZ.length:Int))=false:=decide_eq_false (by omega)
 refine ah aM (Bk M 5000 n M.aZ.length 0) ?_
 simp only[yU,bN,aC.ok,hd]
 exact⟨fun q=>(by cases q),fun _=>h⟩
theorem Qn (M:Mo) (hM:M.wf) (h5:M.exs.length≤5000) (o:Out) (n:Int) (i:Nat) (x:Ex) (hx:M.exs[i]? = some x) (h0:0≤n) (hn:n+Zr x≤1000000000000000) (h:bR ab5 env (fI M 11 (n+Zr x) (i+1)) o):bR ab5 env (fI M 11 n i) o:=by
 have hi:i<M.exs.length:=(di.1 hx).1
 have c:=bq (z:=3) (enc:=aW) (fun _=>rfl) hx
 have Zs:(M.exs.flatMap aW).getD (i*3) .bK = .sc (.string x.nm):=c 0 (by decide)
 have Zt:(M.exs.flatMap aW).getD (i*3+0) .bK = .sc (.string x.nm):=c 0 (by decide)
 have w:rn.wrap ((i:Int)+1)=((i+1:Nat):Int):=by rw[aO (by omega) (by omega)];rfl
 have hd:decide ((i:Int)<(M.exs.length:Int))=true:=decide_eq_true (by omega)
 unfold Zr at h hn
 have w1:rn.wrap (n+min (x.nm.data.toList.length:Int) 5000)=n+min (x.nm.data.toList.length:Int) 5000:=aO (by omega) (by omega)
 refine ah aM (Bl M 5000 n i 0) ?_
 simp only[yV,bN,aC.ok,isStr,bB,bI,aD,bh,au,bp,aep,Zs,Zt,hd,w,cond_true,cond_false,aeU,ae2,w1]
 exact⟨fun _=>⟨(by first | rfl | (simp only[ch,decide_eq_true_eq];omega)),(by first | rfl | trivial),h⟩,fun q=>(by cases q)⟩
theorem UB (M:Mo) (o:Out) (n:Int) (h:Out.ret (sB (decide (n>5000))) []=o):bR ab5 env (fI M 11 n M.exs.length) o:=by
 have hd:decide ((M.exs.length:Int)<(M.exs.length:Int))=false:=decide_eq_false (by omega)
 refine ah aM (Bl M 5000 n M.exs.length 0) ?_
 simp only[yV,bN,aC.ok,hd]
 exact⟨fun q=>(by cases q),fun _=>h⟩
def lens (M:Mo):Int:=M.tys.length+M.aZ.length+M.fns.length+M.cj.length+M.cM.length+M.gls.length+M.exs.length+M.els.length+M.bt.length
def Lu (M:Mo):Int:=b8 Zr (b8 Sm (b8 He (b8 Bm (b8 uY (b8 pJ (lens M) M.fns) M.gls) M.els) M.bt) M.aZ) M.exs
def jg (M:Mo):Bool:=if lens M>5000 then true else decide (Lu M>5000)
def _root_.Go.Am.Mo.short (M:Mo):Prop:=M.tys.length≤1000000000000000∧M.aZ.length≤1000000000000000∧M.fns.length≤1000000000000000∧M.cj.length≤1000000000000000∧M.cM.length≤1000000000000000∧M.gls.length≤1000000000000000∧M.exs.length≤1000000000000000∧M.els.length≤1000000000000000∧M.bt.length≤1000000000000000
theorem Hf (M:Mo) (hw:M.wf) (hs:M.short):an ab5 env 5 [.agg (M.aJ.map .p),sI .i64 5000] [] (sB (jg M)) []:=by
 obtain⟨s1,s2,s3,s4,s5,s6,s7,s8,s9⟩:=hs
 have e:rn.wrap (rn.wrap (rn.wrap (rn.wrap (rn.wrap (rn.wrap (rn.wrap (rn.wrap ((M.tys.length:Int)+M.aZ.length)+M.fns.length)+M.cj.length)+M.cM.length)+M.gls.length)+M.exs.length)+M.els.length)+M.bt.length)=lens M:=by
  unfold lens
  rw[aO (n:=(M.tys.length:Int)+M.aZ.length) (by omega) (by omega),aO (n:=(M.tys.length:Int)+M.aZ.length+M.fns.length) (by omega) (by omega),aO (n:=(M.tys.length:Int)+M.aZ.length+M.fns.length+M.cj.length) (by omega) (by omega),
   aO (n:=(M.tys.length:Int)+M.aZ.length+M.fns.length+M.cj.length+M.cM.length) (by omega) (by omega),aO (n:=(M.tys.length:Int)+M.aZ.length+M.fns.length+M.cj.length+M.cM.length+M.gls.length) (by omega) (by omega),
   aO (n:=(M.tys.length:Int)+M.aZ.length+M.fns.length+M.cj.length+M.cM.length+M.gls.length+M.exs.length) (by omega) (by omega),aO (n:=(M.tys.length:Int)+M.aZ.length+M.fns.length+M.cj.length+M.cM.length+M.gls.length+M.exs.length+M.els.length) (by omega) (by omega),aO (by omega) (by omega)]
 refine af aM (Qe M 5000) ?_
 simp only[Jj,bN,aC.ok,e]
 refine⟨fun q=> ?_,fun q=> ?_⟩
 · have q:lens M>5000:=by simpa using q
   rw[jg,if_pos q]
 · have q : ¬lens M>5000:=by simpa using q
   have hl:0≤lens M:=by unfold lens;omega
   rw[jg,if_neg q]
   have q:lens M≤5000:=by omega
   have l1:M.fns.length≤5000:=by unfold lens at q;omega
   have l2:M.gls.length≤5000:=by unfold lens at q;omega
   have l3:M.els.length≤5000:=by unfold lens at q;omega
   have l4:M.bt.length≤5000:=by unfold lens at q;omega
   have l5:M.aZ.length≤5000:=by unfold lens at q;omega
   have l6:M.exs.length≤5000:=by unfold lens at q;omega
   have r1:=cr Bn M.fns (lens M)
   have r2:=cr Bo M.gls (b8 pJ (lens M) M.fns)
   have r3:=cr E3 M.els (b8 uY (b8 pJ (lens M) M.fns) M.gls)
   have r4:=cr E4 M.bt (b8 Bm (b8 uY (b8 pJ (lens M) M.fns) M.gls) M.els)
   have r5:=cr Jk M.aZ (b8 He (b8 Bm (b8 uY (b8 pJ (lens M) M.fns) M.gls) M.els) M.bt)
   have k6:=oF Qh (Qn M hw l6 (.ret (sB (decide (Lu M>5000))) [])) (UB M _) M.exs.length 0 (b8 Sm (b8 He (b8 Bm (b8 uY (b8 pJ (lens M) M.fns) M.gls) M.els) M.bt) M.aZ) (by omega) (by omega) (by omega) rfl
   have k5:=oF Jk (Qm M hw l5 _) (UA M _) M.aZ.length 0 (b8 He (b8 Bm (b8 uY (b8 pJ (lens M) M.fns) M.gls) M.els) M.bt) (by omega) (by omega) (by omega) k6
   have k4:=oF E4 (Ql M hw l4 _) (Uz M _) M.bt.length 0 (b8 Bm (b8 uY (b8 pJ (lens M) M.fns) M.gls) M.els) (by omega) (by omega) (by omega) k5
   have k3:=oF E3 (Qk M hw l3 _) (Uy M _) M.els.length 0 (b8 uY (b8 pJ (lens M) M.fns) M.gls) (by omega) (by omega) (by omega) k4
   have k2:=oF Bo (Qj M hw l2 _) (Ux M _) M.gls.length 0 (b8 pJ (lens M) M.fns) (by omega) (by omega) (by omega) k3
   have k1:=oF Bn (Qi M hw l1 _) (Uw M _) M.fns.length 0 (lens M) (by omega) (by omega) (by omega) k2
   exact k1
theorem Lv {M:Mo} (h:jg M=false):M.fit∧M.CT∧lens M≤5000:=by
 unfold jg at h
 split at h
 · cases h
 rename_i q
 have h : ¬Lu M>5000:=by simpa using h
 have q:lens M≤5000:=by omega
 have q':=q
 unfold lens at q'
 have r1:=cr Bn M.fns (lens M)
 have r2:=cr Bo M.gls (b8 pJ (lens M) M.fns)
 have r3:=cr E3 M.els (b8 uY (b8 pJ (lens M) M.fns) M.gls)
 have r4:=cr E4 M.bt (b8 Bm (b8 uY (b8 pJ (lens M) M.fns) M.gls) M.els)
 have r5:=cr Jk M.aZ (b8 He (b8 Bm (b8 uY (b8 pJ (lens M) M.fns) M.gls) M.els) M.bt)
 have r6:=cr Qh M.exs (b8 Sm (b8 He (b8 Bm (b8 uY (b8 pJ (lens M) M.fns) M.gls) M.els) M.bt) M.aZ)
 unfold Lu at h
 have hl:0≤lens M:=by unfold lens;omega
 have cnt : ∀l:List Ins,dm l 5000 0≤5000→cS l≤100000000000:=fun l hl=>by
  have:=nQ l 5000 0 (by decide) (by decide) hl
  have:=rE l
  omega
 refine⟨⟨by omega,by omega,by omega,by omega,by omega,by omega,by omega,by omega,by omega⟩,fun l hm=> ?_,q⟩
 simp only[uQ,mi,ed] at hm
 rcases hm with((⟨x,hx,rfl⟩ | ⟨x,hx,rfl⟩) | ⟨x,hx,rfl⟩) | ⟨x,hx,rfl⟩
 · have:=mG Bn M.fns (lens M) x hx
   exact cnt _ (by have e:pJ x=dm x.l 5000 0:=rfl;omega)
 · have:=mG Bo M.gls (b8 pJ (lens M) M.fns) x hx
   exact cnt _ (by have e:uY x=dm x.l 5000 0:=rfl;omega)
 · have:=mG E3 M.els (b8 uY (b8 pJ (lens M) M.fns) M.gls) x hx
   exact cnt _ (by have e:Bm x=dm x.l 5000 0+min (x.fs.length:Int) 5000:=rfl;omega)
 · have:=mG E4 M.bt (b8 Bm (b8 uY (b8 pJ (lens M) M.fns) M.gls) M.els) x hx
   exact cnt _ (by have e:He x=dm x.l 5000 0+min (x.bs.length:Int) 5000:=rfl;omega)
def toS (M:Mo) (a:Nat) (T P Q:Int):FuncId→Nat→Nat→Option (AV→AV):=cL [(42,5,5,sI .i64 T),(42,7,5,sI .i64 T),(42,10,4,.agg [sI .i64 P,sI .i64 Q])]
def Zu (M:Mo) (a:Nat) (T P Q:Int):bD:=fy aI av [] [(42,0,0),(42,8,3),(42,0,2),(42,0,1)] [(42,5,3),(42,5,5),(42,10,3),(42,10,4),(42,7,3),(42,7,5)] (toS M a T P Q)
def adB:Sc:=(.fork (.fork (.lit .fin) .fin) (.fork (.fork (.lit .fin) .fin) (.lit (.lit .fin))))
def fN (M:Mo) (T P Q:Int):aC:=
 (.test (decide (T<0)) (.out (.ret (.aA [.agg [sI .i64 0,sI .i64 0],sB false]) [])) (.test (decide (T≥(↑M.tys.length:Int))) (.out (.ret (.aA [.agg [sI .i64 0,sI .i64 0],sB false]) [])) (.must (bp T M.tys.length&&true&&true) (.must (isInt rn (aB (aeR bW M.tys) (T.toNat*2))&&(isInt rn (aB (aeR bW M.tys) (T.toNat*2+1))&&true)&&true) (.need (AV.agg [sI .i64 (az (aB (aeR bW M.tys) (T.toNat*2))),sI .i64 (az (aB (aeR bW M.tys) (T.toNat*2+1)))]=AV.agg [sI rn P,sI rn Q]) (.out (.ret (.aA [.agg [sI .i64 P,sI .i64 Q],sB true]) [])))))))
def kH (M:Mo) (a:Nat) (T P Q:Int):aC:=
 (.test (decide (rn.wrap (rn.wrap (↑a:Int)-(↑M.aZ.length:Int))<0))
 (.must (bp (rn.wrap (↑a:Int)) M.aZ.length&&true&&true)
 (.must (isInt rn (aB (aeR bQ M.aZ) ((rn.wrap (↑a:Int)).toNat*3+2))&&true)
 (.need (sI .i64 (az (aB (aeR bQ M.aZ) ((rn.wrap (↑a:Int)).toNat*3+2)))=sI rn T)
 (fN M T P Q))))
 (.test (decide (rn.wrap (rn.wrap (↑a:Int)-(↑M.aZ.length:Int))<(↑M.fns.length:Int)))
 (.must (bp (rn.wrap (rn.wrap (↑a:Int)-(↑M.aZ.length:Int))) M.fns.length&&true&&true)
 (.must (isInt rn (aB (aeR aV M.fns) ((rn.wrap (rn.wrap (↑a:Int)-(↑M.aZ.length:Int))).toNat*3+0))&&true)
 (.need (sI .i64 (az (aB (aeR aV M.fns) ((rn.wrap (rn.wrap (↑a:Int)-(↑M.aZ.length:Int))).toNat*3+0)))=sI rn T)
 (fN M T P Q))))
 (.out (.ret (.aA [.agg [sI .i64 0,sI .i64 0],sB false]) []))))
theorem jY (M:Mo) (a:Nat) (T P Q:Int):aH ab5 env (Zu M a T P Q) 1000000 42 ([AV.agg (abG AV.p M.aJ),sI abb (↑a:Int)]) ([]) adB=kH M a T P Q:=by kernel_rfl
def Zv (M:Mo) (a:Nat):Int:=
 match M.aZ[a]? with
 |some x=>x.ty
 |none=>match M.fns[a-M.aZ.length]? with
  |some x=>x.ty
  |none=> -1
def E5 (M:Mo) (a:Nat):Option Ty:=if 0≤Zv M a then M.tys[(Zv M a).toNat]? else none
def V9:Option Ty→AV
 |some y=> .aA [.agg [sI .i64 y.p,sI .i64 y.r],sB true]
 |none=> .aA [.agg [sI .i64 0,sI .i64 0],sB false]
theorem Qo (M:Mo) (a:Nat):(∃x,M.aZ[a]? = some x∧a<M.aZ.length∧Zv M a=x.ty)∨(∃b x,a=M.aZ.length+b∧M.fns[b]? = some x∧b<M.fns.length∧Zv M a=x.ty)∨(M.aZ.length+M.fns.length≤a∧Zv M a = -1):=by
 unfold Zv
 by_cases h:a<M.aZ.length
 · exact .inl ⟨_,bm h,h,by rw[bm h]⟩
 · have hn:M.aZ[a]? = none:=dp (by omega)
   by_cases h2:a-M.aZ.length<M.fns.length
   · refine .inr (.inl ⟨a-M.aZ.length,_,by omega,bm h2,h2,?_⟩)
     rw[hn,bm h2]
   · refine .inr (.inr ⟨by omega,?_⟩)
     rw[hn,dp (by omega:M.fns.length≤a-M.aZ.length)]
theorem E6 (M:Mo) (a:Nat) (T:Int) (hT:Zv M a=T):(T<0∧E5 M a=none)∨(0≤T∧(M.tys.length:Int)≤T∧E5 M a=none)∨(∃y,0≤T∧T<(M.tys.length:Int)∧M.tys[T.toNat]? = some y∧E5 M a=some y):=by
 unfold E5
 rw[hT]
 by_cases h:T<0
 · exact .inl ⟨h,if_neg (by omega)⟩
 · by_cases h2:(M.tys.length:Int)≤T
   · exact .inr (.inl ⟨by omega,h2,by rw[if_pos (by omega),dp (by omega)]⟩)
   · have h3:T.toNat<M.tys.length:=by omega
     exact .inr (.inr ⟨_,by omega,by omega,bm h3,by rw[if_pos (by omega),bm h3]⟩)
theorem yW (M:Mo) (hM:M.fit) (a:Nat) (ha:a<4294967296):an ab5 env 42 [.agg (M.aJ.map .p),sI .u32 a] [] (V9 (E5 M a)) []:=by
 have h1:=hM.aZ
 have h2:=hM.fns
 have h3:=hM.tys
 have w0:rn.wrap (a:Int)=(a:Int):=aO (by omega) (by omega)
 have w2:rn.wrap ((M.aZ.length:Int)+(M.fns.length:Int))=(M.aZ.length:Int)+(M.fns.length:Int):=aO (by omega) (by omega)
 rcases Qo M a with⟨x,hx,hi,hT⟩ | ⟨b,x,rfl,hx,hi,hT⟩ | ⟨hge,hT⟩
 · have c:=bq (z:=3) (enc:=bQ) (fun _=>rfl) hx
   have c2:(M.aZ.flatMap bQ).getD (a*3+2) .bK = .sc (.int .i64 x.ty):=c 2 (by decide)
   have w1:rn.wrap ((a:Int)-M.aZ.length)=(a:Int)-M.aZ.length:=aO (by omega) (by omega)
   have d1:decide ((a:Int)-(M.aZ.length:Int)<0)=true:=decide_eq_true (by omega)
   have d2:decide ((a:Int)<(M.aZ.length:Int))=true:=decide_eq_true (by omega)
   have i1:bp (a:Int) M.aZ.length=true:=by simp only[bp,ch,decide_eq_true_eq];omega
   rcases E6 M _ _ hT with⟨q,e⟩ | ⟨q,q2,e⟩ | ⟨y,q,q2,hy,e⟩<;>rw[e]
   · have d3:decide (x.ty<0)=true:=decide_eq_true q
     refine af aM (jY M _ x.ty 0 0) ?_
     simp only[kH,fN,bN,aC.ok,isStr,isInt,bB,isBool,bI,az,bu,aD,bh,au,aep,aeU,ae2,oE,afn,false_implies,true_implies,true_and,and_true,w0,w1,d1,d2,i1,c2,d3,V9]
     all_goals first | trivial | rfl | exact⟨rfl,rfl⟩ | exact⟨rfl,rfl,rfl⟩
   · have d3:decide (x.ty<0)=false:=decide_eq_false (by omega)
     have d4:decide (x.ty≥(M.tys.length:Int))=true:=decide_eq_true (by omega)
     refine af aM (jY M _ x.ty 0 0) ?_
     simp only[kH,fN,bN,aC.ok,isStr,isInt,bB,isBool,bI,az,bu,aD,bh,au,aep,aeU,ae2,oE,afn,false_implies,true_implies,true_and,and_true,w0,w1,d1,d2,i1,c2,d3,d4,V9]
     all_goals first | trivial | rfl | exact⟨rfl,rfl⟩ | exact⟨rfl,rfl,rfl⟩
   · have d3:decide (x.ty<0)=false:=decide_eq_false (by omega)
     have d4:decide (x.ty≥(M.tys.length:Int))=false:=decide_eq_false (by omega)
     have i2:bp x.ty M.tys.length=true:=by simp only[bp,ch,decide_eq_true_eq];omega
     have e':=bq (z:=2) (enc:=bW) (fun _=>rfl) hy
     have e0:(M.tys.flatMap bW).getD (x.ty.toNat*2) .bK = .sc (.int .i64 y.p):=e' 0 (by decide)
     have e1:(M.tys.flatMap bW).getD (x.ty.toNat*2+1) .bK = .sc (.int .i64 y.r):=e' 1 (by decide)
     refine af aM (jY M _ x.ty y.p y.r) ?_
     simp only[kH,fN,bN,aC.ok,isStr,isInt,bB,isBool,bI,az,bu,aD,bh,au,aep,aeU,ae2,oE,afn,false_implies,true_implies,true_and,and_true,w0,w1,d1,d2,i1,c2,d3,d4,i2,e0,e1,V9]
     all_goals first | trivial | rfl | exact⟨rfl,rfl⟩ | exact⟨rfl,rfl,rfl⟩
 · have c:=bq (z:=3) (enc:=aV) (fun _=>rfl) hx
   have c0:(M.fns.flatMap aV).getD (b*3+0) .bK = .sc (.int .i64 x.ty):=c 0 (by decide)
   have w1:rn.wrap (((M.aZ.length+b:Nat):Int)-M.aZ.length)=b:=by rw[aO (by omega) (by omega)];omega
   have d1:decide ((b:Int)<0)=false:=decide_eq_false (by omega)
   have d2:decide ((b:Int)<(M.fns.length:Int))=true:=decide_eq_true (by omega)
   have d5:decide (((M.aZ.length+b:Nat):Int)<(M.aZ.length:Int))=false:=decide_eq_false (by omega)
   have d6:decide (((M.aZ.length+b:Nat):Int)<(M.aZ.length:Int)+(M.fns.length:Int))=true:=decide_eq_true (by omega)
   have i1:bp (b:Int) M.fns.length=true:=by simp only[bp,ch,decide_eq_true_eq];omega
   rcases E6 M _ _ hT with⟨q,e⟩ | ⟨q,q2,e⟩ | ⟨y,q,q2,hy,e⟩<;>rw[e]
   · have d3:decide (x.ty<0)=true:=decide_eq_true q
     refine af aM (jY M _ x.ty 0 0) ?_
     simp only[kH,fN,bN,aC.ok,isStr,isInt,bB,isBool,bI,az,bu,aD,bh,au,aep,aeU,ae2,oE,afn,false_implies,true_implies,true_and,and_true,w0,w1,w2,d1,d2,d5,d6,i1,c0,d3,V9]
     all_goals first | trivial | rfl | exact⟨rfl,rfl⟩ | exact⟨rfl,rfl,rfl⟩
   · have d3:decide (x.ty<0)=false:=decide_eq_false (by omega)
     have d4:decide (x.ty≥(M.tys.length:Int))=true:=decide_eq_true (by omega)
     refine af aM (jY M _ x.ty 0 0) ?_
     simp only[kH,fN,bN,aC.ok,isStr,isInt,bB,isBool,bI,az,bu,aD,bh,au,aep,aeU,ae2,oE,afn,false_implies,true_implies,true_and,and_true,w0,w1,w2,d1,d2,d5,d6,i1,c0,d3,d4,V9]
     all_goals first | trivial | rfl | exact⟨rfl,rfl⟩ | exact⟨rfl,rfl,rfl⟩
   · have d3:decide (x.ty<0)=false:=decide_eq_false (by omega)
     have d4:decide (x.ty≥(M.tys.length:Int))=false:=decide_eq_false (by omega)
     have i2:bp x.ty M.tys.length=true:=by simp only[bp,ch,decide_eq_true_eq];omega
     have e':=bq (z:=2) (enc:=bW) (fun _=>rfl) hy
     have e0:(M.tys.flatMap bW).getD (x.ty.toNat*2) .bK = .sc (.int .i64 y.p):=e' 0 (by decide)
     have e1:(M.tys.flatMap bW).getD (x.ty.toNat*2+1) .bK = .sc (.int .i64 y.r):=e' 1 (by decide)
     refine af aM (jY M _ x.ty y.p y.r) ?_
     simp only[kH,fN,bN,aC.ok,isStr,isInt,bB,isBool,bI,az,bu,aD,bh,au,aep,aeU,ae2,oE,afn,false_implies,true_implies,true_and,and_true,w0,w1,w2,d1,d2,d5,d6,i1,c0,d3,d4,i2,e0,e1,V9]
     all_goals first | trivial | rfl | exact⟨rfl,rfl⟩ | exact⟨rfl,rfl,rfl⟩
 · have e:E5 M a=none:=by unfold E5;rw[hT];exact if_neg (by decide)
   have w1:rn.wrap ((a:Int)-M.aZ.length)=(a:Int)-M.aZ.length:=aO (by omega) (by omega)
   have d1:decide ((a:Int)-(M.aZ.length:Int)<0)=false:=decide_eq_false (by omega)
   have d2:decide ((a:Int)-(M.aZ.length:Int)<(M.fns.length:Int))=false:=decide_eq_false (by omega)
   have d5:decide ((a:Int)<(M.aZ.length:Int))=false:=decide_eq_false (by omega)
   have d6:decide ((a:Int)<(M.aZ.length:Int)+(M.fns.length:Int))=false:=decide_eq_false (by omega)
   rw[e]
   refine af aM (jY M a 0 0 0) ?_
   simp only[kH,fN,bN,aC.ok,isStr,isInt,bB,isBool,bI,az,bu,aD,bh,au,aep,aeU,ae2,oE,afn,false_implies,true_implies,true_and,and_true,w0,w1,w2,d1,d2,d5,d6,V9]
   all_goals first | trivial | rfl | exact⟨rfl,rfl⟩ | exact⟨rfl,rfl,rfl⟩
def adC:bD:=aQ aI av [(44,2)] [(44,0,3),(44,0,4)] [(44,8,0),(44,8,1)]
def ag9:Sc:= .fin
def Hg (M:Mo) (fs:List Int) (i:Nat):aC:=
 (.test (decide ((↑i:Int)<(↑fs.length:Int)))
 (.must (bp (↑i:Int) fs.length&&true&&true)
 (.must (isInt abb (aB (dw abb fs) (aK i*1))&&true)
 (.test (decide (afo.wrap (az (aB (dw abb fs) (aK i*1)))≥afo.wrap (rn.wrap ((↑M.aZ.length:Int)+(↑M.fns.length:Int)))))
 (.out (.ret (.aA [sI .i64 6,sI .i64 0]) []))
 (.at (ak ab5 env 44 2 [.mp 0 0,.p (.ps fs.length 1 (dw abb fs)),sI .i64 (↑fs.length:Int),sI .i64 (rn.wrap ((↑i:Int)+1))] ([.pc M.aJ]) 0 40)))))
 (.out (.ret (.aA [sI .i64 0,sI .i64 0]) [])))
theorem Jl (M:Mo) (fs:List Int) (i:Nat):grow ab5 env adC 1000000 true (ak ab5 env 44 2 ([AV.mp 0 0,AV.p (PV.ps fs.length 1 (dw abb fs)),sI rn (↑fs.length:Int),sI rn (↑i:Int)]) ([aU.pc M.aJ]) 0 40) ag9 atEnd=Hg M fs i:=by kernel_rfl
def UC (c t:Int):Bool:=decide (afo.wrap t≥afo.wrap c)
def Hh (M:Mo):Int:=rn.wrap ((M.aZ.length:Int)+(M.fns.length:Int))
def Zw (M:Mo) (x:El):Int:=if M.cj.length=0 then 6 else if(mT x.l==0)=true then(if x.fs.any (UC (Hh M))=true then 6 else 0) else 210
theorem Zx (M:Mo) (fs:List Int) (hl:fs.length≤1000000000) : ∀r i:Nat,i+r=fs.length→bR ab5 env (ak ab5 env 44 2 [.mp 0 0,.p (.ps fs.length 1 (dw .u32 fs)),sI .i64 fs.length,sI .i64 i] [.pc M.aJ] 0 40) (.ret (.aA [sI .i64 (if(fs.drop i).any (UC (Hh M))=true then 6 else 0),sI .i64 0]) []):=by
 intro r
 induction r with
 |zero=>
  intro i hi
  obtain rfl:i=fs.length:=by omega
  have hd:decide ((fs.length:Int)<(fs.length:Int))=false:=decide_eq_false (by omega)
  refine ah aM (Jl M fs fs.length) ?_
  simp only[Hg,bN,aC.ok,hd,ae0,List.any_nil]
  exact⟨fun q=>(by cases q),fun _=>(by first | exact afb | rfl)⟩
 |succ r ih=>
  intro i hi
  have ud:i<fs.length:=by omega
  have hd:decide ((i:Int)<(fs.length:Int))=true:=decide_eq_true (by omega)
  have hin:bp (i:Int) fs.length=true:=by simp only[bp,ch,decide_eq_true_eq];omega
  have w:rn.wrap ((i:Int)+1)=((i+1:Nat):Int):=by rw[aO (by omega) (by omega)];rfl
  have c0:(dw .u32 fs).getD (i*1) .bK = .sc (.int .u32 fs[i]):=by rw[Nat.mul_one,tq .u32 fs i ud,List.getD_eq_getElem?_getD,bm ud];rfl
  have k:=ih (i+1) (by omega)
  rw[aeZ ud,List.any_cons]
  refine ah aM (Jl M fs i) ?_
  simp only[Hg,bN,aC.ok,isInt,az,aep,c0,hd,hin,w,aeU]
  refine⟨fun _=>⟨(by first | rfl | trivial),(by first | rfl | trivial),fun q=> ?_,fun q=> ?_⟩,fun q=>(by cases q)⟩
  · have e:UC (Hh M) fs[i]=true:=q
    rw[e];rfl
  · have e:UC (Hh M) fs[i]=false:=q
    rw[e,Bool.false_or];exact k
theorem Lw (M:Mo) (x:El) (hl:x.fs.length≤1000000000) (h:cS x.l≤100000000000):an ab5 env 44 [.agg (M.aJ.map .p),.agg [aL x.l,.p (.ps x.fs.length 1 (dw .u32 x.fs))],.fn (.func 34) [] []] [] (.aA [sI .i64 (Zw M x),sI .i64 0]) []:=by
 refine af aM (Ud M x.l x.fs (mT x.l==0)) ?_
 simp only[PM,aC.ok]
 unfold Zw
 by_cases z:M.cj.length=0
 · rw[if_pos z]
   exact⟨fun _=>(by first | exact afb | rfl),fun q=>absurd z (by intro e;simp[e] at q)⟩
 · rw[if_neg z]
   refine⟨fun q=>absurd (by simpa using q) z,fun _=>⟨mE _ h,fun q=> ?_,fun q=> ?_⟩⟩
   · rw[if_neg (by simpa using q)]
   · rw[if_pos (by simpa using q)]
     exact Zx M x.fs hl x.fs.length 0 (by omega)
theorem UD (M:Mo) {i:Nat} (hi:i<M.els.length) (hl:M.els[i].fs.length≤1000000000) (h:cS M.els[i].l≤100000000000):an ab5 env 43 [sI .i64 i,.mp 0 0,.mp 1 0] (Aa M) (.aA [sI .i64 (Zw M M.els[i]),sI .i64 0]) (Aa M):=by
 have hx:M.els[i]? = some M.els[i]:=bm hi
 have c:=bq (z:=2) (enc:=aX) (fun _=>rfl) hx
 have c0:(M.els.flatMap aX).getD (i*2) .bK = .ps M.els[i].l.length 8 (aq M.els[i].l):=c 0 (by decide)
 have c1:(M.els.flatMap aX).getD (i*2+1) .bK = .ps M.els[i].fs.length 1 (dw .u32 M.els[i].fs):=c 1 (by decide)
 have hin:bp (i:Int) M.els.length=true:=by simp only[bp,ch,decide_eq_true_eq];omega
 refine af aM (Ub M i false (Zw M M.els[i])) ?_
 simp only[PL,bN,aC.ok,bB,aD,bh,au,aep,c0,c1,hin,aeU,ae2]
 exact⟨Lw M _ hl h,(by first | rfl | trivial),(by first | rfl | trivial),(by first | rfl | trivial)⟩
def Sn (M:Mo):Int:=match E5 M M.sn.toNat with
 |none=>6
 |some y=>if(y.p==0&&(y.r==0&&true))=true then 0 else 213
theorem UE (M:Mo) (hM:M.fit) (hs:0≤M.sn∧M.sn<4294967296) (i:Nat):an ab5 env 41 [sI .i64 i,.mp 0 0] (EX M) (.aA [sI .i64 (Sn M),sI .i64 0]) (EX M):=by
 have t:=yW M hM M.sn.toNat (by omega)
 rw[Int.toNat_of_nonneg hs.1] at t
 unfold Sn
 cases e:E5 M M.sn.toNat with
 |none=>
  rw[e] at t
  refine af aM (Jd M i 0 0 0 0 false) ?_
  simp only[G7,aC.ok]
  exact⟨t,fun _=>(by first | exact afb | rfl),fun q=>(by cases q)⟩
 |some y=>
  rw[e] at t
  refine af aM (Jd M i y.p y.r (if(y.p==0&&(y.r==0&&true))=true then 0 else 213) 0 true) ?_
  simp only[G7,aC.ok]
  exact⟨t,fun q=>(by cases q),fun _=>⟨eE _ 213,(by first | exact afb | rfl)⟩⟩
def vpC (M:Mo) (c:Int) (f:FuncId) (args:List AV) (m:Mem):Option (AV×Mem):=cond (ae f 18) (some (sI .i64 c,m)) none
def vsC (M:Mo) (d:Nat) (e n i a:Int) (f:FuncId) (args:List AV) (m:Mem):Option (AV×Mem):=cond (ae f 19) (some (.agg [sI .i64 e,sI .i64 n,sI .i64 i,sI .i64 a],m)) none
def adD (M:Mo) (c:Int):bD:=aQ (vpC M c) av [(7,1)] [(7,0,0)] []
def aha:Sc:= .fin
def Qp (M:Mo) (c:Int):aC:=
 (.call ⟨18,[.agg (abG AV.p M.aJ)],[],sI .i64 c,[]⟩
 (.test (c != 0)
 (.out (.ret (.agg [sI .i64 c,sI .i64 0,sI .i64 0,sI .i64 0]) []))
 (.at (ak ab5 env 7 1 [.mp 0 0,.mp 1 0,sI .i64 2] ([.pc M.aJ,.pc [sP 0,sP 0,sP 0,sP 0]]) 0 24))))
theorem UF (M:Mo) (c:Int):aH ab5 env (adD M c) 1000000 7 ([AV.agg (abG AV.p M.aJ)]) ([]) aha=Qp M c:=by kernel_rfl
def adE (M:Mo) (d:Nat) (e n i a:Int):bD:=aQ (vsC M d e n i a) av [(7,1)] [(7,0,2),(7,0,3)] []
def ahb:Sc:= .fin
def Hi (M:Mo) (d:Nat) (e n i a:Int):aC:=
 (.test (decide ((↑d:Int)≤11))
 (.call ⟨19,[.agg (abG AV.p M.aJ),sI .i64 (↑d:Int)],[],.agg [sI .i64 e,sI .i64 n,sI .i64 i,sI .i64 a],[]⟩
 (.test (e != 0)
 (.out (.ret (.agg [sI .i64 e,sI .i64 n,sI .i64 i,sI .i64 a]) []))
 (.at (ak ab5 env 7 1 [.mp 0 0,.mp 1 0,sI .i64 (rn.wrap ((↑d:Int)+1))] ([.pc M.aJ,.pc [sP 0,sP 0,sP 0,sP 0]]) 0 24))))
 (.out (.ret (.agg [sI .i64 0,sI .i64 0,sI .i64 0,sI .i64 0]) [])))
theorem Jm (M:Mo) (d:Nat) (e n i a:Int):grow ab5 env (adE M d e n i a) 1000000 true (ak ab5 env 7 1 ([AV.mp 0 0,AV.mp 1 0,sI rn (↑d:Int)]) ([aU.pc M.aJ,aU.pc [sP 0,sP 0,sP 0,sP 0]]) 0 24) ahb atEnd=Hi M d e n i a:=by kernel_rfl
abbrev Wr:=Int×Int×Int×Int
def wV (w:Wr):AV:= .agg [sI .i64 w.1,sI .i64 w.2.1,sI .i64 w.2.2.1,sI .i64 w.2.2.2]
def Hj (F:Nat→Wr):Nat→Nat→Wr
 |0,_=>(0,0,0,0)
 |r+1,d=>if(F d).1≠0 then F d else Hj F r (d+1)
def kI (M:Mo) (F:Nat→Wr):Wr:=if mN M≠0 then(mN M,0,0,0) else Hj F 10 2
theorem Ly (M:Mo) (hc:an ab5 env 18 [.agg (M.aJ.map .p)] [] (sI .i64 (mN M)) []) (F:Nat→Wr) (h:mN M=0 → ∀d:Nat,2≤d→d≤11→an ab5 env 19 [.agg (M.aJ.map .p),sI .i64 d] [] (wV (F d)) []) :
  an ab5 env 7 [.agg (M.aJ.map .p)] [] (wV (kI M F)) []:=by
 have loop:mN M=0 → ∀r d:Nat,d+r=12→2≤d→bR ab5 env (ak ab5 env 7 1 [.mp 0 0,.mp 1 0,sI .i64 d] [.pc M.aJ,.pc [sP 0,sP 0,sP 0,sP 0]] 0 24) (.ret (wV (Hj F r d)) []):=by
  intro z0 r
  induction r with
  |zero=>
   intro d hd h2
   have e:decide ((d:Int)≤11)=false:=decide_eq_false (by omega)
   refine ah aM (Jm M d 0 0 0 0) ?_
   simp only[Hi,aC.ok,e]
   exact⟨fun q=>(by cases q),fun _=>(by first | exact afb | rfl)⟩
  |succ r ih=>
   intro d hd h2
   have e:decide ((d:Int)≤11)=true:=decide_eq_true (by omega)
   have w:rn.wrap ((d:Int)+1)=((d+1:Nat):Int):=by rw[aO (by omega) (by omega)];rfl
   have k:=ih (d+1) (by omega) (by omega)
   refine ah aM (Jm M d (F d).1 (F d).2.1 (F d).2.2.1 (F d).2.2.2) ?_
   simp only[Hi,aC.ok,e,w]
   refine⟨fun _=>⟨h z0 d h2 (by omega),fun q=> ?_,fun q=> ?_⟩,fun q=>(by cases q)⟩
   · rw[Hj,if_pos (by simpa using q)];rfl
   · rw[Hj,if_neg (by simpa using q)];exact k
 refine af aM (UF M (mN M)) ?_
 simp only[Qp,aC.ok]
 refine⟨hc,fun q=> ?_,fun q=> ?_⟩
 · rw[kI,if_pos (by simpa using q)];rfl
 · rw[kI,if_neg (by simpa using q)]
   exact loop (by simpa using q) 10 2 (by decide) (by decide)
structure _root_.Go.Am.Mo.le (A M:Mo):Prop where
 tys:A.tys.Sublist M.tys
 aZ:A.aZ.Sublist M.aZ
 fns:A.fns.Sublist M.fns
 cj:A.cj.Sublist M.cj
 cM:A.cM.Sublist M.cM
 gls:A.gls.Sublist M.gls
 exs:A.exs.Sublist M.exs
 els:A.els.Sublist M.els
 bt:A.bt.Sublist M.bt
 st:(A.st=M.st∧A.sn=M.sn)∨A.sn=0
structure _root_.Go.Am.Mo.UG (M:Mo):Prop where
 many:pI M=false
 Zy:tD M 141=false
 left : ¬yE 1048576 M.bt<0
 long:rI M=false
 rest:rR M=false
 adF:tD M 2=false
theorem CY (M:Mo):mN M=0↔M.UG:=by
 unfold mN Bd EC E1
 constructor
 · intro h
   cases h1:pI M with
   |true=>simp[h1] at h
   |false=>
    cases h2:tD M 141 with
    |true=>simp[h1,h2] at h
    |false=>
     by_cases h3:yE 1048576 M.bt<0
     · simp[h1,h2,h3] at h
     · cases h4:rI M with
       |true=>simp[h1,h2,h3,h4] at h
       |false=>
        cases h5:rR M with
        |true=>simp[h1,h2,h3,h4,h5] at h
        |false=>
         cases h6:tD M 2 with
         |true=>simp[h1,h2,h3,h4,h5,h6] at h
         |false=>exact⟨h1,h2,h3,h4,h5,h6⟩
 · intro⟨h1,h2,h3,h4,h5,h6⟩
   simp[h1,h2,h3,h4,h5,h6]
theorem le_refl (M:Mo):M.le M:=⟨.refl _,.refl _,.refl _,.refl _,.refl _,.refl _,.refl _,.refl _,.refl _,.inl ⟨rfl,rfl⟩⟩
end Go.Proofs.YtjfgfhaoeicpdaaGreatDoor.N
end
section
namespace Go.Am
def kR (op:Int):Nat:=
 if op=69∨op=103∨op=104∨op=105∨op=26∨op=33∨op=36∨op=34∨op=40∨op=44∨op=45∨op=46∨op=47∨op=64 then 1
 else if(70≤op∧op≤79)∨(106≤op∧op≤120)∨op=54∨op=58∨op=59 then 2 else if op=27 then 3 else 0
def jh (op:Int):Nat:=
 if op=69∨op=103∨op=104∨op=105∨(70≤op∧op≤79)∨(106≤op∧op≤120)∨op=27∨op=32∨op=35∨op=63∨op=65∨op=34∨op=40∨op=44∨op=45∨op=46∨op=47∨op=64 then 1 else 0
def yX (op:Int):Bool:=decide (kR op≠0∨jh op≠0∨op=1)
theorem Lz (op:Int):jh op≤1:=by unfold jh;split<;>omega
def Jn (op:Int):Bool:=decide (op=40∨op=44∨op=45∨op=46∨op=47∨op=54∨op=58∨op=59)
def kS (op:Int):Int:=if op=40∨op=54 then 2 else if op=46∨op=47∨op=59 then 1 else 0
structure kg where
 ty:Int→Option (Nat×Nat)
 ind:Int→Option (Nat×Nat)
 cQ:List Bool
 mem:Bool
 own:Nat
 ret:Nat
inductive VR where
 |bK (e:Int) (at':Nat)
 |ok (n:Nat) (dead:Bool) (c:Nat)
def dK (at' k n:Nat) (d:Bool) (f:Nat→VR):VR:=if n<k∧d=false then .bK 200 at' else f (n-k)
def gM (r n:Nat) (d:Bool) (at':Nat) (f:VR):VR:=dK at' r n d fun m=>if 0<m then .bK 201 at' else f
def dG (V:kg) (op a:Int):Int:=
 if op=32∨op=33∨op=34 then(if a<V.own then 0 else 6)
 else if op=36 then(match V.cQ[a.toNat]? with
  |some true=>0
  |some false=>212
  |none=>6)
 else if op=35 then(if a<V.cQ.length then 0 else 6)
 else if op=63∨op=64 then(if V.mem=true then 0 else 6)
 else if Jn op=true then(if V.mem=true then(if kS op<a then 211 else 0) else 6)
 else 0
def Zz (ls:List Nat) (tags:List Int) (a:Int):Int ⊕ Nat:=
 if tags.all (fun t=>decide (t<ls.length))=false then .inl 6
 else match ls[a.toNat]? with
  |none=> .inl 6
  |some k=>if tags.all (fun t=>ls.getD t.toNat 0==k)=true then .inr k else .inl 214
def fW (V:kg) (ls:List Nat) (op a:Int) (tags:List Int) (n:Nat) (d:Bool) (c:Nat):VR:=
 if op=12 then(match ls[a.toNat]? with
  |none=> .bK 6 c
  |some k=>dK c k n d fun _=> .ok 0 true c)
 else if op=13 then(match ls[a.toNat]? with
  |none=> .bK 6 c
  |some k=>dK c 1 n d fun n1=>dK c k n1 d fun n2=> .ok (n2+k) d c)
 else if op=14 then(match Zz ls tags a with
  |.inl e=> .bK e c
  |.inr k=>dK c 1 n d fun n1=>dK c k n1 d fun _=> .ok 0 true c)
 else if op=15 then dK c V.ret n d fun _=> .ok 0 true c
 else if op=16 then(match V.ty a with
  |none=> .bK 6 c
  |some (p,r)=>dK c p n d fun n1=> .ok (n1+r) d c)
 else if op=17 then(match V.ind a with
  |none=> .bK 6 c
  |some (p,r)=>dK c 1 n d fun n1=>dK c p n1 d fun n2=> .ok (n2+r) d c)
 else if dG V op a≠0 then .bK (dG V op a) c
 else dK c (kR op) n d fun n1=> .ok (n1+jh op) d c
mutual
def mU (V:kg) (ls:List Nat):Ins→Nat→Bool→Nat→VR
 |.mk op r a _ _ tags l e,n,d,c=>
  if op=0 then .ok 0 true c
  else if op=2∨op=3 then
   (match eX V ((if op=3 then 0 else r.toNat)::ls) l 0 false c with
     |.bK e p=> .bK e p
     |.ok n1 d1 c1=>gM r.toNat n1 d1 c (.ok (n+r.toNat) d c1))
  else if op=4 then
   dK c 1 n d fun n0=>(match eX V (r.toNat::ls) l 0 false c with
    |.bK e p=> .bK e p
    |.ok n1 d1 c1=>gM r.toNat n1 d1 c (match eX V (r.toNat::ls) e 0 false c1 with
     |.bK e p=> .bK e p
     |.ok n2 d2 c2=>gM r.toNat n2 d2 c (.ok (n0+r.toNat) d c2)))
  else fW V ls op a tags n d c
def eX (V:kg) (ls:List Nat):List Ins→Nat→Bool→Nat→VR
 |[],n,d,c=> .ok n d c
 |x::r,n,d,c=>match mU V ls x n d (c+1) with
  |.bK e p=> .bK e p
  |.ok n1 d1 c1=>eX V ls r n1 d1 c1
end
def Bp (V:kg) (l:List Ins):Int×Nat:=
 match eX V [V.ret] l 0 false 0 with
 |.bK e p=>(e,p)
 |.ok n d _=>match gM V.ret n d 0 (.ok 0 false 0) with
  |.bK e p=>(e,p)
  |.ok .. =>(0,0)
end Go.Am
end
