import Derived.Test.YtncncijedmfpjaaGreatDoorMH
import Derived.Test.YtncncijedmfpjaaGreatDoorMF
import Derived.Test.YtncncijedmfpjaaGreatDoorMS
import Derived.Test.YtncncijedmfpjaaGreatDoorMT
import Derived.Test.YtncncijedmfpjaaGreatDoorMO
import Derived.Test.YtncncijedmfpjaaGreatDoorRows
import Derived.MakeChecks
open Go.Proofs.Tryz renaming prog→ae
open Nat renaming le_of_ble_eq_true→ft,beq→bj,le_trans→cp
open List renaming any_eq_false→adH,mem_append→oE,getElem?_map→fe,mem_map→fi,getElem?_eq_getElem→de,getElem?_cons_zero→np,getElem?_cons_succ→nz,length_pos_of_mem→ady,map→acC,getElem?_take→du,getElem?_drop→dE,mem_flatMap→adI,not_mem_nil→adK,length_map→ov,map_cons→uv,mem_cons→Hk
open Go.IntKind renaming u8→acQ,u32→acu
open List.cons renaming injEq→adD,inj→adL
open True renaming intro→ads
open Go.DataW renaming weightsEach→adM,weights→adN,trod_struct→adO,trod_int→acf,trod→aca
open Array renaming getElem?_toList→my
open Go.Lib.laidMet renaming reads→adP
noncomputable section
section
namespace Go.Proofs.YtncncijedmfpjaaGreatDoor.N
open Go Go.Am
def yp:Env where
 dS:=sS tabs
 wr:=wrs
 keep _ _:=none
def Jw:dx:=⟨17,[.agg [.os none 0 0 [],.os none 0 0 [],.os none 0 0 [],.os none 0 0 [],.os none 0 0 [],.os none 0 0 [],.os none 0 0 [],.p (.sc (.bool false)),.p (.sc (.int .u32 0)),.os none 0 0 [],.os none 0 0 []]],[],.p (.sc (.int .i64 0)),[]⟩
theorem acg:au ae yp Jw.g Jw.args Jw.m Jw.v Jw.m':=gC aI (K:=[]) nR (n:=10000000) (by kernel_rfl)
def Wl:List dx:=Jw::[]
theorem NM:gu ae yp Wl:=iq acg nR
def Jx:dx:=⟨7,[.agg [.os none 0 0 [],.os none 0 0 [],.os none 0 0 [],.os none 0 0 [],.os none 0 0 [],.os none 0 0 [],.os none 0 0 [],.p (.sc (.bool false)),.p (.sc (.int .u32 0)),.os none 0 0 [],.os none 0 0 []]],[],.aK [.os none 8 1 [.sc (.int .u8 0),.sc (.int .u8 97),.sc (.int .u8 115),.sc (.int .u8 109),.sc (.int .u8 1),.sc (.int .u8 0),.sc (.int .u8 0),.sc (.int .u8 0)],.p (.sc (.int .i64 0))],[]⟩
theorem ach:au ae yp Jx.g Jx.args Jx.m Jx.v Jx.m':=gC aI (K:=Wl) NM (n:=10000000) (by kernel_rfl)
def Wm:List dx:=Jx::Wl
theorem NN:gu ae yp Wm:=iq ach NM
def Jy:dx:=⟨17,[.agg [.os none 0 0 [],.os none 0 0 [],.os none 0 0 [],.os none 0 0 [],.os none 1 3 [.sc (.int .u32 1),.sc (.int .u32 2),.sc (.bool true)],.os none 0 0 [],.os none 0 0 [],.p (.sc (.bool false)),.p (.sc (.int .u32 0)),.os none 0 0 [],.os none 0 0 []]],[],.p (.sc (.int .i64 0)),[]⟩
theorem aci:au ae yp Jy.g Jy.args Jy.m Jy.v Jy.m':=gC aI (K:=Wm) NN (n:=10000000) (by kernel_rfl)
def Wn:List dx:=Jy::Wm
theorem NO:gu ae yp Wn:=iq aci NN
def Jz:dx:=⟨7,[.agg [.os none 0 0 [],.os none 0 0 [],.os none 0 0 [],.os none 0 0 [],.os none 1 3 [.sc (.int .u32 1),.sc (.int .u32 2),.sc (.bool true)],.os none 0 0 [],.os none 0 0 [],.p (.sc (.bool false)),.p (.sc (.int .u32 0)),.os none 0 0 [],.os none 0 0 []]],[],.aK [.os (some 0) 14 1 [.sc (.int .u8 0),.sc (.int .u8 97),.sc (.int .u8 115),.sc (.int .u8 109),.sc (.int .u8 1),.sc (.int .u8 0),.sc (.int .u8 0),.sc (.int .u8 0),.sc (.int .u8 5),.sc (.int .u8 4),.sc (.int .u8 1),.sc (.int .u8 1),.sc (.int .u8 1),.sc (.int .u8 2)],.p (.sc (.int .i64 0))],[.tok]⟩
theorem acj:au ae yp Jz.g Jz.args Jz.m Jz.v Jz.m':=gC aI (K:=Wn) NO (n:=10000000) (by kernel_rfl)
def ZF:List dx:=Jz::Wn
theorem Wo:gu ae yp ZF:=iq acj NO
theorem Wp:au ae yp 5 [] [] (.p (.sc (.bool true))) []:=gC aI (K:=ZF) Wo (n:=10000000) (by kernel_rfl)
theorem me:au ae env 5 [] [] (sB true) []:=au.env (E:=yp) Wp fun _ _ q=>q
end Go.Proofs.YtncncijedmfpjaaGreatDoor.N
end
section
set_option linter.unusedSimpArgs false
set_option linter.unusedVariables false
namespace Go.Proofs.YtncncijedmfpjaaGreatDoor.N
open Go Go.Am
def apQ (M N:Mo) (g1 g2:Bool) (e1 e2:Int) (n k:Nat) (X Y:List PV) (b1 b2:Bool) (i:Nat) (f:FuncId) (args:List AV) (m:Mem):Option (AV×Mem):=cond (bj f 5) (some (sB true,m)) (cond (bj f 6) (some (sB (cond (bj i 1) g1 g2),m)) (cond (bj f 7) (some (cond (bj i 3) (.aK [.p (.ps n 1 X),sI .i64 e1]) (.aK [.p (.ps k 1 Y),sI .i64 e2]),m)) (cond (bj f 8) (some (sB b1,m)) (cond (bj f 9) (some (sB b2,m)) none))))
def ZG:bN:=aP aF aC [] [(3,3,3),(3,0,0),(3,7,3),(3,0,1)] []
def ack (M:Mo) (N:Mo) (g1:Bool) (g2:Bool) (e1 e2:Int) (n:Nat) (k:Nat) (X:List PV) (Y:List PV) (b1:Bool) (b2:Bool):Sc:=(.ans 5 (sB true) ([]) (.ans 6 (.p (.sc (.bool (bif bj 1 1 then g1 else g2)))) ([]) (.fork (.lit .fin) (.ans 6 (.p (.sc (.bool (bif bj 2 1 then g1 else g2)))) ([]) (.fork .fin (.ans 7 (.aK [.p (.ps n 1 X),sI .i64 e1]) ([]) (.ans 7 (.aK [.p (.ps k 1 Y),sI .i64 e2]) ([]) (.fork (.lit .fin) (.fork .fin (.AS 3 8 (apQ M N g1 g2 e1 e2 n k X Y b1 b2 5) .fin))))))))))
def xl (M:Mo) (N:Mo) (g1:Bool) (g2:Bool) (e1 e2:Int) (n:Nat) (k:Nat) (X:List PV) (Y:List PV) (b1:Bool) (b2:Bool):aA:=
 (.call ⟨5,[],[],sB true,[]⟩
 (.call ⟨6,[.agg (acC AV.p M.aJ),sI .i64 5000],[],.p (.sc (.bool (bif bj 1 1 then g1 else g2))),[]⟩
 (.test (bif bj 1 1 then g1 else g2)
 A2
 (.call ⟨6,[.agg (acC AV.p N.aJ),sI .i64 5000],[],.p (.sc (.bool (bif bj 2 1 then g1 else g2))),[]⟩
 (.test (bif bj 2 1 then g1 else g2)
 A2
 (.call ⟨7,[.agg (acC AV.p M.aJ)],[],.aK [.p (.ps n 1 X),sI .i64 e1],[]⟩
 (.call ⟨7,[.agg (acC AV.p N.aJ)],[],.aK [.p (.ps k 1 Y),sI .i64 e2],[]⟩
 (.test (e1 != 0)
 A2
 (.test (e2 != 0)
 A2
 (.call ⟨8,[.p (.ps n 1 X),.p (.ps k 1 Y)],[],.p (.sc (.bool b1)),[]⟩
 (.call ⟨9,[.agg (acC AV.p M.aJ),.agg (acC AV.p N.aJ)],[],.p (.sc (.bool b2)),[]⟩
 (.out (.ret (.p (.sc (.bool (b1==b2)))) [])))))))))))))
theorem uh (M:Mo) (N:Mo) (g1:Bool) (g2:Bool) (e1 e2:Int) (n:Nat) (k:Nat) (X:List PV) (Y:List PV) (b1:Bool) (b2:Bool):aG ae env ZG 1000000 3 ([AV.agg (mV M),AV.agg (mV N)]) ([]) (ack M N g1 g2 e1 e2 n k X Y b1 b2)=xl M N g1 g2 e1 e2 n k X Y b1 b2:=by kernel_rfl
theorem Rd {M:Mo} (h:iy M=false):(∀x∈M.aZ,x.mo.data.toList.length≤5000∧x.nm.data.toList.length≤5000) ∧ ∀x∈M.exs,x.nm.data.toList.length≤5000:=by
 unfold iy at h
 split at h
 · cases h
 rename_i q
 have h : ¬Dl M>5000:=by simpa using h
 have hl:(M.aZ.length:Int)+M.exs.length≤lens M:=by unfold lens;omega
 have r1:=bM wT M.fns (lens M)
 have r2:=bM wU M.gls (bE lu (lens M) M.fns)
 have r3:=bM wV M.els (bE nW (bE lu (lens M) M.fns) M.gls)
 have r4:=bM wW M.aY (bE rW (bE nW (bE lu (lens M) M.fns) M.gls) M.els)
 have r5:=bM zV M.aZ (bE zU (bE rW (bE nW (bE lu (lens M) M.fns) M.gls) M.els) M.aY)
 have r6:=bM Dk M.exs (bE IJ (bE zU (bE rW (bE nW (bE lu (lens M) M.fns) M.gls) M.els) M.aY) M.aZ)
 unfold Dl at h
 refine⟨fun x hx=> ?_,fun x hx=> ?_⟩
 · have t:=gQ zV M.aZ (bE zU (bE rW (bE nW (bE lu (lens M) M.fns) M.gls) M.els) M.aY) x hx
   have hp:0<M.aZ.length:=ady hx
   have e:IJ x=min (x.mo.data.toList.length:Int) 5000+min (x.nm.data.toList.length:Int) 5000:=rfl
   omega
 · have t:=gQ Dk M.exs (bE IJ (bE zU (bE rW (bE nW (bE lu (lens M) M.fns) M.gls) M.els) M.aY) M.aZ) x hx
   have hp:0<M.exs.length:=ady hx
   have e:RF x=min (x.nm.data.toList.length:Int) 5000:=rfl
   omega
theorem Re {a:Int} (ha:(Lit.int .u32 a).wf=true):0≤a∧a<4294967296:=by
 have hb:acu.min≤a∧a≤acu.max:=by simpa[Lit.wf] using ha
 have h0:(0:Int)≤a:=hb.1
 have h1:a≤4294967295:=hb.2
 omega
theorem u8r {a:Int} (ha:(Lit.int .u8 a).wf=true):0≤a:=by
 have hb:acQ.min≤a∧a≤acQ.max:=by simpa[Lit.wf] using ha
 exact hb.1
theorem BP {M:Mo} (hw:M.wf) (h:iy M=false):M.cj:=by
 have h5:=(rX h).2.2
 have hn:=Ho h
 obtain⟨hi,he⟩:=Rd h
 unfold lens at h5
 exact{len:=⟨by omega,by omega,by omega,by omega,by omega,by omega,by omega,by omega,by omega⟩
       aZ:=fun x hx=>⟨cp (hi x hx).1 (by decide),cp (hi x hx).2 (by decide)⟩
       fns:=fun x hx=>⟨(hw.fns.2 x hx).2.2.2,hn.fns x hx⟩
       dh:=hw.dh.2
       dw:=hw.dw.2
       gls:=fun x hx=>⟨(hw.gls.2 x hx).2,hn.gls x hx⟩
       exs:=fun x hx=>⟨cp (he x hx) (by decide),(Re (hw.exs.2 x hx).2.2).1,(Re (hw.exs.2 x hx).2.2).2⟩
       sn:=Re hw.sn
       els:=fun x hx=>⟨(hw.els.2 x hx).1.2,(hn.els x hx).1,(hn.els x hx).2,fun t ht=>Re ((hw.els.2 x hx).2.2 t ht)⟩
       aY:=fun x hx=>⟨(hw.aY.2 x hx).1.2,(hn.aY x hx).1,(hn.aY x hx).2,fun t ht=>u8r ((hw.aY.2 x hx).2.2 t ht)⟩}
theorem u8w {a:Int} (ha:(Lit.int .u8 a).wf=true):0≤a∧a<256:=by
 have hb:acQ.min≤a∧a≤acQ.max:=by simpa[Lit.wf] using ha
 have h0:(0:Int)≤a:=hb.1
 have h1:a≤255:=hb.2
 omega
theorem Hv {M:Mo} (hw:M.wf) (hl:iy M=false) (h0:lq M=0):Jt M:=by
 have hy:=BP hw hl
 have c1:wK M=0∧zK M=0∧zT M=0:=by
  unfold lq at h0
  split at h0
  · rename_i q;exact absurd h0 q
  · rename_i q1
    split at h0
    · rename_i q;exact absurd h0 q
    · rename_i q2;exact⟨by omega,by omega,h0⟩
 obtain⟨m1,m2,m3⟩:=c1
 have x1:wI M 141=false:=by
  unfold wK at m1
  split at m1
  · cases m1
  · split at m1
    · cases m1
    · rename_i q;simpa using q
 have x2:qz M=false:=by
  unfold zK at m2
  split at m2
  · cases m2
  · rename_i q
    cases e:qz M with
    |false=>rfl
    |true=>exact absurd (.inr e) q
 have x3:Di M=false∧wI M 2=false:=by
  unfold zT at m3
  split at m3
  · cases m3
  · rename_i p
    split at m3
    · cases m3
    · rename_i q;exact⟨by simpa using p,by simpa using q⟩
 obtain⟨x3,x4⟩:=x3
 have ck : ∀l∈xy M,dg gw l=0:=fun l hm=>by
  have a:=(adH.1 x1) l hm
  have b:=(adH.1 x4) l hm
  unfold dg at a b ⊢
  split
  · rename_i q;rw[if_pos q] at b;exact absurd rfl b
  · rename_i q
    rw[if_neg q] at a
    split
    · rename_i r;rw[if_pos r] at a;exact absurd rfl a
    · rfl
 have inF : ∀x∈M.fns,x.l∈xy M:=fun x hx=>by
  simp only[xy,oE,fi];exact .inl (.inl (.inl ⟨x,hx,rfl⟩))
 have inG : ∀x∈M.gls,x.l∈xy M:=fun x hx=>by
  simp only[xy,oE,fi];exact .inl (.inl (.inr ⟨x,hx,rfl⟩))
 have inE : ∀x∈M.els,x.l∈xy M:=fun x hx=>by
  simp only[xy,oE,fi];exact .inl (.inr ⟨x,hx,rfl⟩)
 have inD : ∀x∈M.aY,x.l∈xy M:=fun x hx=>by
  simp only[xy,oE,fi];exact .inr ⟨x,hx,rfl⟩
 simp only[Di,Bool.or_eq_false_iff] at x3
 obtain⟨⟨⟨⟨⟨⟨⟨r1,r2⟩,r3⟩,r4⟩,r5⟩,r6⟩,r7⟩,r8⟩:=x3
 have NW : ∀s∈xw M,l9 s=0:=fun s hs=>by
  have a:=(adH.1 r4) s hs
  have b:=(adH.1 x2) s hs
  simp only[IG,decide_eq_true_eq] at a
  simp only[GQ,decide_eq_true_eq] at b
  unfold l9
  rw[if_neg (by omega),if_neg a]
 have nI : ∀x∈M.aZ,x.mo∈xw M∧x.nm∈xw M:=fun x hx=>⟨oE.2 (.inl (adI.2 ⟨x,hx,by simp⟩)),oE.2 (.inl (adI.2 ⟨x,hx,by simp⟩))⟩
 have nX : ∀x∈M.exs,x.nm∈xw M:=fun x hx=>oE.2 (.inr (fi.2 ⟨x,hx,rfl⟩))
 exact{cj:=hy
       tys:=fun x hx=>by have a:=(adH.1 r1) x hx;simpa[Fv] using a
       aZ:=fun x hx=>by
        have a:=(adH.1 r2) x hx
        have a:0≤x.ty∧x.ty≤2147483647:=by simpa[C9] using a
        exact⟨NW _ (nI x hx).1,NW _ (nI x hx).2,a.1,by omega⟩
       fns:=fun x hx=>by
        have a:=(adH.1 r3) x hx
        simp only[Db,Bool.or_eq_true,Bool.not_eq_true',Bool.and_eq_false_iff,decide_eq_true_eq,decide_eq_false_iff_not] at a
        exact⟨by omega,by omega,by omega,by omega,ck _ (inF x hx)⟩
       dh:=fun x hx=>by have a:=(adH.1 r5) x hx;simpa[qy] using a
       dw:=fun x hx=>by have a:=(adH.1 r6) x hx;simpa[qy] using a
       gls:=fun x hx=>ck _ (inG x hx)
       exs:=fun x hx=>by
        have a:=(adH.1 r7) x hx
        simp only[Dc,Bool.or_eq_true,decide_eq_true_eq] at a
        exact⟨NW _ (nX x hx),by omega,by omega⟩
       sn:=fun hs=>by
        rw[hs] at r8
        simpa using r8
       els:=fun x hx=>ck _ (inE x hx)
       aY:=fun x hx=>⟨ck _ (inD x hx),fun b hb=>(u8w ((hw.aY.2 x hx).2.2 b hb)).2⟩}
theorem NP (X Y:List Nat) (hX:B8 X) (hY:B8 Y) : ∃b,au ae env 8 [.p (.ps X.length 1 (bt X)),.p (.ps Y.length 1 (bt Y))] [] (sB b) []∧(b=true↔X=Y):=by
 have r : ∀X:List Nat,B8 X → ∀z∈X.map (fun(c:Nat)=>(c:Int)),0≤z∧z<256:=fun X h z hz=>by
  obtain⟨c,hc,rfl⟩:=fi.1 hz
  have:=h c hc
  omega
 have e : ∀l:List Nat,bU .u8 (l.map fun(c:Nat)=>(c:Int))=bt l:=fun l=>by simp[bU,bt]
 obtain⟨b,h,k⟩:=NL (X.map fun(c:Nat)=>(c:Int)) (Y.map fun(c:Nat)=>(c:Int)) (r X hX) (r Y hY)
 rw[ov,ov,e,e] at h
 refine⟨b,h,k.trans ⟨fun q=> ?_,fun q=>by rw[q]⟩⟩
 have inj : ∀l m:List Nat,l.map (fun(c:Nat)=>(c:Int))=m.map (fun(c:Nat)=>(c:Int))→l=m:=by
  intro l
  induction l with
  |nil=>intro m h;cases m with
   |nil=>rfl
   |cons=>cases h
  |cons a l ih=>
   intro m h
   cases m with
   |nil=>cases h
   |cons b m=>
    simp only[uv,adD] at h
    rw[show a=b by omega,ih m h.2]
 exact inj _ _ q
theorem Ac {M:Mo} (h:mC M=0):lq M=0∧(gW M).length≤1048576∧jQ M=gW M:=by
 have hr:jQ M=gW M:=by unfold jQ;rw[if_pos h]
 unfold mC at h
 split at h
 · rename_i q;exact absurd h q
 · rename_i q
   split at h
   · cases h
   · exact⟨by omega,by omega,hr⟩
theorem JP (M N:Mo) (hw:M.wf) (hs:M.short) (hw':N.wf) (hs':N.short):au ae env 3 [.agg (M.aJ.map .p),.agg (N.aJ.map .p)] [] (sB true) []:=by
 have g1:=wX M hw hs
 have g2:=wX N hw' hs'
 have n1 : ∀a b:Bool,(bif bj 1 1 then a else b)=a:=fun _ _=>rfl
 have n2 : ∀a b:Bool,(bif bj 2 1 then a else b)=b:=fun _ _=>rfl
 cases hl:iy M with
 |true=>
  rw[hl] at g1
  refine aa aI (uh M N true false 0 0 0 0 [] [] false false) ?_
  simp only[xl,bu,aA.ok,n1,n2]
  exact⟨me,g1,fun _=>ads,fun q=>(by cases q)⟩
 |false=>
  rw[hl] at g1
  cases hl':iy N with
  |true=>
   rw[hl'] at g2
   refine aa aI (uh M N false true 0 0 0 0 [] [] false false) ?_
   simp only[xl,bu,aA.ok,n1,n2]
   exact⟨me,g1,fun q=>(by cases q),fun _=>⟨g2,fun _=>ads,fun q=>(by cases q)⟩⟩
  |false=>
   rw[hl'] at g2
   obtain⟨hf,RU,_⟩:=rX hl
   obtain⟨hf',acn,_⟩:=rX hl'
   have m1:=tB (BP hw hl) hf hw RU
   have m2:=tB (BP hw' hl') hf' hw' acn
   by_cases z:mC M=0∧mC N=0
   · obtain⟨z1,l1,r1⟩:=Ac z.1
     obtain⟨z2,l2,r2⟩:=Ac z.2
     have f1:=Hv hw hl z1
     have f2:=Hv hw' hl' z2
     obtain⟨b1,k1,e1⟩:=NP (jQ M) (jQ N) (by rw[r1];exact Hi f1) (by rw[r2];exact Hi f2)
     obtain⟨b2,k2,e2⟩:=Wk M N hf (Ho hl) (fun x hx b hb=>u8w ((hw.aY.2 x hx).2.2 b hb)) (fun x hx b hb=>u8w ((hw'.aY.2 x hx).2.2 b hb))
     have e:(b1==b2)=true:=by
      have q:b1=true↔b2=true:=e1.trans (Iff.trans ⟨fun q=>Q0 f1 f2 l1 l2 (by rw[←r1,←r2];exact q),fun q=>by rw[q]⟩ e2.symm)
      cases b1<;>cases b2<;>simp_all
     refine aa aI (uh M N false false (mC M) (mC N) (jQ M).length (jQ N).length (bt (jQ M)) (bt (jQ N)) b1 b2) ?_
     simp only[xl,bu,aA.ok,n1,n2,e]
     exact⟨me,g1,fun q=>(by cases q),fun _=>⟨g2,fun q=>(by cases q),fun _=>⟨m1,m2,fun _=>ads,fun _=>⟨fun _=>ads,fun _=>⟨k1,k2,ads⟩⟩⟩⟩⟩
   · refine aa aI (uh M N false false (mC M) (mC N) (jQ M).length (jQ N).length (bt (jQ M)) (bt (jQ N)) false false) ?_
     simp only[xl,bu,aA.ok,n1,n2]
     exact⟨me,g1,fun q=>(by cases q),fun _=>⟨g2,fun q=>(by cases q),fun _=>⟨m1,m2,fun _=>ads,fun q1=>⟨fun _=>ads,fun q2=>absurd ⟨by simpa using q1,by simpa using q2⟩ z⟩⟩⟩⟩
end Go.Proofs.YtncncijedmfpjaaGreatDoor.N
end
section
set_option linter.unusedVariables false
namespace Go.Am
open Go.RowKit Go.Lib
section
variable {H:Type} {enc:TypeId×Value→H} {P:Program} {w:World} {base:Nat} {spare:Nat→Bool} {held:Bool}
theorem xm {lt te:TypeId} (ht:P.underlying lt=some (.slice te)) (hb:1≤P.bytesOf te) {fuel:Nat} {v:Value} {x:DataW H×List MemPlace} (h:aca enc P w base spare held fuel lt [v]=some x)
  (hw : ∀n∈x.1.weights P lt,n≤reachBytes) {g:Gh} {len sz:Nat} {cells:List PV} (hv:VP g w (.ps len sz cells) v):len≤reachBytes:=by
 rcases DataW.trod_slice ht h with⟨e,_⟩ | ⟨a,len',cap,elems,rest,n,rfl,e,rfl,_,_,_,hel,_,_,_⟩
 · obtain rfl:v = .slice none 0 0:=(adL e).1
   cases hv with
   |oK=>exact Nat.zero_le _
 · obtain rfl:v = .slice (some a) len' cap:=(adL e).1
   have hm:(elems.length+rest.length)*P.bytesOf te∈adN P lt (.slice (elems.map (·.1)) (rest.map (·.1))):=by
    rw[adN,ht]
    simp
   have q:=hw _ hm
   have r:elems.length≤(elems.length+rest.length)*P.bytesOf te:=cp (Nat.le_add_right _ _) (Nat.le_mul_of_pos_right _ hb)
   have hlen:len=len':=by cases hv<;>rfl
   omega
theorem jV : ∀{ts:List TypeId} {ds:List (DataW H)} {i:Nat} {t:TypeId} {d:DataW H},ts[i]? = some t→ds[i]? = some d → ∀n∈d.weights P t,n∈adM P ts ds
 |t'::ts,d'::ds,0,t,d,h1,h2,n,hn=>by
  simp only[np,Option.some.injEq] at h1 h2
  subst h1;subst h2
  rw[adM]
  exact List.mem_append_left _ hn
 |t'::ts,d'::ds,i+1,t,d,h1,h2,n,hn=>by
  simp only[nz] at h1 h2
  rw[adM]
  exact List.mem_append_right _ (jV h1 h2 n hn)
variable {tM qM qN qO mE qP qQ qR qT td th uf x7 qw tj tq tr tv tL tI ti tu tn tt ts tb t8 tk:TypeId}
theorem BS (T:Eo P tM qM qN qO mE qP qQ qR qT td th uf x7 qw tj tq tr tv tL tI ti tu tn tt ts tb t8 tk) (hb : ∀t∈[td,th,uf,qw,tj,tq,tr,tv],1≤P.bytesOf t)
  {fuel:Nat} {cs:List Value} {x:DataW H×List MemPlace} (h:aca enc P w base spare held fuel tM cs=some x) (hw : ∀n∈x.1.weights P tM,n≤reachBytes) {g:Gh} {M:Mo} (hv:F0 g w M.aJ cs):M.short:=by
 obtain⟨fs,q1,q2,q3⟩:=T.st (tM,[qM,qN,qO,mE,mE,qP,qQ,tb,tu,qR,qT]) (by simp)
 obtain⟨xs,n,rfl,rfl,h3,h4,h5⟩:=adO q1 h
 have hW : ∀n∈adM P (fs.toList.map (·.type)) (xs.map (·.1)),n≤reachBytes:=by
  intro n hn
  refine hw n ?_
  rw[adN,q1]
  exact hn
 have one : ∀(i:Nat) (lt te:TypeId) (len sz:Nat) (cells:List PV) (v:Value),[qM,qN,qO,mE,mE,qP,qQ,tb,tu,qR,qT][i]? = some lt→(lt,te)∈[(qM,td),(qN,th),(qO,uf),(mE,qw),(qP,tj),(qQ,tq),(qR,tr),(qT,tv)] →
   P.cellsOf lt=1→1≤P.bytesOf te→(cs.drop i).take 1=[v]→VP g w (.ps len sz cells) v→len≤1000000000000000:=by
  intro i lt te len sz cells v hi hm fQ Kn hcs hvp
  obtain⟨f,f1,f2,f3⟩:=SN (fs:=fs) (i:=i) (o:=i) (t:=lt) (by rw[q3,fe,List.getElem?_zipIdx,hi];simp)
  have e:=h5 i f f1
  rw[f2,f3,fQ,hcs] at e
  have uF:i<xs.length:=by
   rw[h4]
   rcases Nat.lt_or_ge i fs.size with q | q
   · exact q
   · rw[Array.getElem?_eq_none q] at f1;cases f1
  rw[de uF] at e
  have r:=xm (T.sl (lt,te) hm) Kn e (fun n hn=>hW n (jV (i:=i) (t:=lt) (d:=xs[i].1) (by rw[fe,my,f1];simp[f3]) (by rw[fe,de uF];rfl) n hn)) hvp
  have:reachBytes≤1000000000000000:=by decide
  omega
 match cs,hv with
 |[u0,u1,u2,u3,u4,u5,u6,u7,u8,u9,u10],hv=>
  obtain⟨v0,v1,v2,v3,v4,v5,v6,v7,v8,v9,v10,_⟩:=hv
  exact⟨one 0 qM td _ _ _ u0 rfl (by simp) (T.c1 (by simp)) (hb _ (by simp)) rfl v0,one 1 qN th _ _ _ u1 rfl (by simp) (T.c1 (by simp)) (hb _ (by simp)) rfl v1,one 2 qO uf _ _ _ u2 rfl (by simp) (T.c1 (by simp)) (hb _ (by simp)) rfl v2,
   one 3 mE qw _ _ _ u3 rfl (by simp) (T.c1 (by simp)) (hb _ (by simp)) rfl v3,one 4 mE qw _ _ _ u4 rfl (by simp) (T.c1 (by simp)) (hb _ (by simp)) rfl v4,one 5 qP tj _ _ _ u5 rfl (by simp) (T.c1 (by simp)) (hb _ (by simp)) rfl v5,
   one 6 qQ tq _ _ _ u6 rfl (by simp) (T.c1 (by simp)) (hb _ (by simp)) rfl v6,one 9 qR tr _ _ _ u9 rfl (by simp) (T.c1 (by simp)) (hb _ (by simp)) rfl v9,one 10 qT tv _ _ _ u10 rfl (by simp) (T.c1 (by simp)) (hb _ (by simp)) rfl v10⟩
end
theorem FN {P:Program} {W:World} {name:String} {d:DataW Unit} {k:IntKind} {zs:List (Int×Int)} {g t e n t1:Nat} {fs:Array Field} (h:VarReads P W name d) (hd:d = .agg (zs.map fun z=> .agg [.lit (.int k z.1),.lit (.int k z.2)])) (hg:P.globalNamed name=some g)
  (ht:(P.globals[g]?).map (·.type)=some t) (hu:P.underlying t=some (.array n e)) (he:P.underlying e=some (.struct fs)) (hf:(fs.toList.map fun f=>(f.offset,f.type))=[(0,t1),(1,t1)]) (hk:P.underlying t1=some (.int k)) (hc:P.cellsOf e=2) (fQ:P.cellsOf t1=1) (hn:zs.length≤n) :
  ∀(i:Nat) (v:Value),((zs.flatMap fun z=>[z.1,z.2]).map (Value.int k))[i]? = some v→W.cell? ⟨g,i,none⟩=some v∧v.oneCell'=true:=by
 subst hd
 obtain⟨g',t',cs,fuel,p,h1,h2,h3,h4⟩:=h
 rw[hg] at h1;cases h1
 rw[ht] at h2;cases h2
 have two : ∀(i:Nat) (z:Int×Int),zs[i]? = some z→W.cell? ⟨g,i*2,none⟩=some (.int k z.1)∧W.cell? ⟨g,i*2+1,none⟩=some (.int k z.2):=by
  intro i z hz
  have hi:i<zs.length:=(List.getElem?_eq_some_iff.1 hz).1
  obtain⟨fuel',d,q,hd,Rs⟩:=array_elem hu h4 i (by omega)
  rw[fe,hz] at hd
  simp only[Option.map_some,Option.some.injEq] at hd
  subst hd
  obtain⟨xs,m,rfl,hx,hl,hxl,kP⟩:=adO he Rs
  obtain⟨f0,a1,a2,a3⟩:=SN (fs:=fs) (i:=0) (o:=0) (t:=t1) (by rw[hf];rfl)
  obtain⟨f1,b1,b2,b3⟩:=SN (fs:=fs) (i:=1) (o:=1) (t:=t1) (by rw[hf];rfl)
  have e0:=kP 0 f0 a1
  have e1:=kP 1 f1 b1
  rw[a2,a3,fQ] at e0
  rw[b2,b3,fQ] at e1
  have hxs:=congrArg Prod.fst hx
  simp only[DataW.agg.injEq] at hxs
  have hs:fs.size=2:=by
   have:=congrArg List.length hf
   simpa using this
  rw[hs] at hxl
  match xs,hxl with
  |[x0,x1],_=>
   simp only[uv,List.map_nil,adD,and_true] at hxs
   simp only[np,nz] at e0 e1
   obtain⟨z0,g0,k0,_⟩:=acf hk e0
   obtain⟨z1,g1,k1,_⟩:=acf hk e1
   obtain⟨y0,y1⟩:=hxs
   rw[k0] at y0
   rw[k1] at y1
   simp only[DataW.lit.injEq,Lit.int.injEq,true_and] at y0 y1
   subst y0;subst y1
   refine⟨?_,?_⟩
   · rw[World.var?_cell hg h3 (i*2),←my]
     have:=congrArg (·[0]?) g0
     simpa[du,dE,hc] using this
   · rw[World.var?_cell hg h3 (i*2+1),←my]
     have:=congrArg (·[0]?) g1
     simpa[du,dE,hc] using this
 have at2 : ∀(l:List (Int×Int)) (i:Nat) (v:Int),(l.flatMap fun z=>[z.1,z.2])[i]? = some v → ∃z,l[i / 2]? = some z∧((i%2=0∧v=z.1)∨(i%2=1∧v=z.2)):=by
  intro l
  induction l with
  |nil=>intro i v h;cases h
  |cons z r ih=>
   intro i v h
   match i,h with
   |0,h=>exact⟨z,rfl,.inl ⟨rfl,by simpa using h.symm⟩⟩
   |1,h=>exact⟨z,rfl,.inr ⟨rfl,by simpa using h.symm⟩⟩
   |i+2,h=>
    obtain⟨y,h1,h2⟩:=ih i v (by simpa using h)
    refine⟨y,?_,?_⟩
    · rw[show(i+2) / 2=i / 2+1 by omega];exact h1
    · rcases h2 with⟨a,b⟩ | ⟨a,b⟩
      · exact .inl ⟨by omega,b⟩
      · exact .inr ⟨by omega,b⟩
 intro i v hv
 rw[fe,Option.map_eq_some_iff] at hv
 obtain⟨z,hz,rfl⟩:=hv
 obtain⟨y,h1,h2⟩:=at2 zs i z hz
 obtain⟨c1,c2⟩:=two (i / 2) y h1
 refine⟨?_,rfl⟩
 rcases h2 with⟨a,rfl⟩ | ⟨a,rfl⟩
 · rw[show i / 2*2=i by omega] at c1;exact c1
 · rw[show i / 2*2+1=i by omega] at c2;exact c2
end Go.Am
end
section
namespace Go.Proofs.YtncncijedmfpjaaGreatDoor.N
open Go Go.Am
def nE:List (String×DataW Unit):=Rows.encodeApartRow.laid
def ZH:List (Int×Int):=[(128,191),(160,191),(128,159),(144,191),(128,143)]++List.replicate 11 (0,0)
theorem aco:Xu=ZH.flatMap fun z=>[z.1,z.2]:=by decide
def fieldsOf (t:TypeId):Array Field:=match ae.underlying t with
 |some (.struct fs)=>fs
 |_=> #[]
theorem yq {W:World} (h:laidMetH ae nE W):jN tabs W:=by
 rw[MakeChecks.laidMetH_plain _ _ _ (by kernel_rfl)] at h
 refine kB (sU (n:=256) (t:=161) (e:=5) (k:= .u8) (zs:=KY) (adP h (n:= "strings.asciiSpace") (d:=Rows.laid_strings_asciiSpace) (.tail _ (.tail _ (.head _)))) (by kernel_rfl) (by kernel_rfl) (by kernel_rfl) (by kernel_rfl) (by kernel_rfl) (by kernel_rfl) (ft (by kernel_rfl)))
  (kB (sU (n:=256) (t:=161) (e:=5) (k:= .u8) (zs:=ir) (adP h (n:= "unicode/utf8.first") (d:=Rows.laid_unicode_utf8_first) (.tail _ (.tail _ (.tail _ (.head _))))) (by kernel_rfl) (by kernel_rfl) (by kernel_rfl) (by kernel_rfl) (by kernel_rfl) (by kernel_rfl) (ft (by kernel_rfl)))
  (kB ?_ AZ))
 rw[aco]
 exact FN (n:=16) (t:=164) (e:=163) (t1:=5) (k:= .u8) (zs:=ZH) (fs:=fieldsOf 163) (adP h (n:= "unicode/utf8.acceptRanges") (d:=Rows.laid_unicode_utf8_acceptRanges) (.head _)) (by kernel_rfl) (by kernel_rfl) (by kernel_rfl) (by kernel_rfl) (by kernel_rfl) (by kernel_rfl) (by kernel_rfl) (by kernel_rfl) (by kernel_rfl) (ft (by kernel_rfl))
theorem acp:SM ae 48 75 3 28 21 55 (fieldsOf 75) where
 hL:=by kernel_rfl
 hI:=by kernel_rfl
 hz:=by kernel_rfl
 hf:=by kernel_rfl
 h1:=⟨by kernel_rfl,by kernel_rfl,by kernel_rfl,by kernel_rfl,by kernel_rfl⟩
 ki:=by kernel_rfl
 ku:=by kernel_rfl
 kn:=by kernel_rfl
 kt:=by kernel_rfl
theorem ZI:Eo ae 32 22 23 24 25 26 27 29 30 70 61 52 50 45 54 63 57 59 48 75 3 28 21 55 9 4 35 5 where
 ins:=⟨_,acp⟩
 us:=by kernel_rfl
 ub:=by kernel_rfl
 u8:=by kernel_rfl
 uk:=by kernel_rfl
 one:=by kernel_rfl
 sl q hq:=by
  simp only[Hk,adK,or_false] at hq
  rcases hq with rfl | rfl | rfl | rfl | rfl | rfl | rfl | rfl
  · kernel_rfl
  · kernel_rfl
  · kernel_rfl
  · kernel_rfl
  · kernel_rfl
  · kernel_rfl
  · kernel_rfl
  · kernel_rfl
 st q hq:=by
  simp only[Hk,adK,or_false] at hq
  rcases hq with rfl | rfl | rfl | rfl | rfl | rfl | rfl | rfl | rfl
  · exact⟨fieldsOf 32,by kernel_rfl,by kernel_rfl,by kernel_rfl⟩
  · exact⟨fieldsOf 70,by kernel_rfl,by kernel_rfl,by kernel_rfl⟩
  · exact⟨fieldsOf 61,by kernel_rfl,by kernel_rfl,by kernel_rfl⟩
  · exact⟨fieldsOf 50,by kernel_rfl,by kernel_rfl,by kernel_rfl⟩
  · exact⟨fieldsOf 45,by kernel_rfl,by kernel_rfl,by kernel_rfl⟩
  · exact⟨fieldsOf 54,by kernel_rfl,by kernel_rfl,by kernel_rfl⟩
  · exact⟨fieldsOf 63,by kernel_rfl,by kernel_rfl,by kernel_rfl⟩
  · exact⟨fieldsOf 57,by kernel_rfl,by kernel_rfl,by kernel_rfl⟩
  · exact⟨fieldsOf 59,by kernel_rfl,by kernel_rfl,by kernel_rfl⟩
 fu:=⟨fieldsOf 52,by kernel_rfl,by kernel_rfl,by kernel_rfl⟩
theorem moB : ∀t∈[70,61,52,45,54,63,57,59],1≤ae.bytesOf t:=by
 have h:([70,61,52,45,54,63,57,59].all fun t=>Nat.ble 1 (ae.bytesOf t))=true:=by kernel_rfl
 intro t ht
 exact ft (List.all_eq_true.1 h t ht)
end Go.Proofs.YtncncijedmfpjaaGreatDoor.N
end
