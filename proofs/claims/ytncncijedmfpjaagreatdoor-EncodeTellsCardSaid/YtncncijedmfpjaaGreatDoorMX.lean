import Derived.Test.YtncncijedmfpjaaGreatDoorMW
import Derived.Test.YtncncijedmfpjaaGreatDoorMR
import Derived.Test.YtncncijedmfpjaaGreatDoorMN
open Go.Proofs.Tryz renaming prog→ae
open Nat renaming zero_add→pn,mul_one→ajS,ble_eq→ajp,reduceAdd→aeV,zero_mul→amz,le_refl→c9
open List renaming mem_of_getElem?→mv,nil_append→Hm,length_nil→aeK,map_cons→s0
open Bool renaming and_eq_true→di,and_true→ajQ,false_eq_true→o0
open True renaming intro→akX
open Int renaming toNat_natCast→afm
open Go.IntKind renaming i64→re,u32→aeG,i32→ajx
noncomputable section
section
set_option linter.unusedSimpArgs false
set_option linter.unusedVariables false
namespace Go.Proofs.YtncncijedmfpjaaGreatDoor.N
open Go Go.Am
theorem SY {f:FuncId} {args:List AV} {X:List Nat} (h:az ae env f args [] (.os (some 0) X.length 1 (bt X)) [.tok]):az ae env f args [] (.p (.ps X.length 1 (bt X))) []:=az.pure h
theorem amq {M:Mo} (h:M.dB) (h0:(sec M 1).length≠0):az ae env 27 [.agg (mV M),sI .i64 1] [] (.p (.ps (sec M 1).length 1 (bt (sec M 1)))) []:=by
 have bw:aR=70368744177664:=rfl
 have hb:=dh h 1
 have hl:M.tys.length≤5000:=by have:=h.len;omega
 have hv:=eg (M.tys.length:Int)
 have t1:((1:Int)==1)=true:=by decide
 have t2:((1:Int)==2)=false:=by decide
 have hk:aU ae env (eO 27 1 107 M (eV M.tys.length).length (bt (eV M.tys.length)) 0) (kQ (sec M 1)):=
  jg (l:=M.tys) (e:=sF) (D:=fun X i=>eO 27 1 107 M X.length (bt X) i) (B:=10000000000000) (fun X i x hx hX o k=>SP M hl X i x hx hX o k) (Xn M) (fun q=>h0 ((bG M.tys sF).2 q)) (by show(sec M 1).length≤_;omega)
 refine SY (aa aH (zx M 1 0 0 [] (fun n=>(eV n).length) (fun n=>bt (eV n)) (fun n=>(eU n).length) (fun n=>bt (eU n)) (fun s=>(eM s).length) (fun s=>bt (eM s))) ?_)
 simp only[vT,aA.ok,t1,t2,pn,Hm,ajQ,di,ajp,ajS,bw]
 exact⟨fun _=>⟨jM _,⟨by omega,by omega⟩,aU.Az (by kernel_rfl) hk⟩,fun q=>(by cases q)⟩
theorem amr {M:Mo} (h:M.dB) (h0:(sec M 2).length≠0):az ae env 27 [.agg (mV M),sI .i64 2] [] (.p (.ps (sec M 2).length 1 (bt (sec M 2)))) []:=by
 have bw:aR=70368744177664:=rfl
 have hb:=dh h 2
 have hl:M.aX.length≤5000:=by have:=h.len;omega
 have hv:=eg (M.aX.length:Int)
 have t1:((2:Int)==1)=false:=by decide
 have t2:((2:Int)==2)=true:=by decide
 have hk:aU ae env (eO 27 4 107 M (eV M.aX.length).length (bt (eV M.aX.length)) 0) (kQ (sec M 2)):=
  jg (l:=M.aX) (e:=BV) (D:=fun X i=>eO 27 4 107 M X.length (bt X) i) (B:=10000000000000) (fun X i x hx hX o k=>SQ M hl X i x hx (h.aX x (mv hx)) hX o k) (Xo M) (fun q=>h0 ((bG M.aX BV).2 q)) (by show(sec M 2).length≤_;omega)
 refine SY (aa aH (zx M 2 0 0 [] (fun n=>(eV n).length) (fun n=>bt (eV n)) (fun n=>(eU n).length) (fun n=>bt (eU n)) (fun s=>(eM s).length) (fun s=>bt (eM s))) ?_)
 simp only[vT,aA.ok,t1,t2,pn,Hm,ajQ,di,ajp,ajS,bw]
 exact⟨fun q=>(by cases q),fun _=>⟨fun _=>⟨jM _,⟨by omega,by omega⟩,aU.Az (by kernel_rfl) hk⟩,fun q=>(by cases q)⟩⟩
theorem ams {M:Mo} (h:M.dB) (h0:(sec M 3).length≠0):az ae env 27 [.agg (mV M),sI .i64 3] [] (.p (.ps (sec M 3).length 1 (bt (sec M 3)))) []:=by
 have bw:aR=70368744177664:=rfl
 have hb:=dh h 3
 have hl:M.fns.length≤5000:=by have:=h.len;omega
 have hv:=eg (M.fns.length:Int)
 have t1:((3:Int)==1)=false:=by decide
 have t2:((3:Int)==2)=false:=by decide
 have hk:aU ae env (eO 27 6 107 M (eV M.fns.length).length (bt (eV M.fns.length)) 0) (kQ (sec M 3)):=
  jg (l:=M.fns) (e:=BW) (D:=fun X i=>eO 27 6 107 M X.length (bt X) i) (B:=10000000000000) (fun X i x hx hX o k=>SR M hl X i x hx hX o k) (Xp M) (fun q=>h0 ((bG M.fns BW).2 q)) (by show(sec M 3).length≤_;omega)
 refine SY (aa aH (zx M 3 0 0 [] (fun n=>(eV n).length) (fun n=>bt (eV n)) (fun n=>(eU n).length) (fun n=>bt (eU n)) (fun s=>(eM s).length) (fun s=>bt (eM s))) ?_)
 simp only[vT,aA.ok,t1,t2,pn,Hm,ajQ,di,ajp,ajS,bw]
 exact⟨fun q=>(by cases q),fun _=>⟨fun q=>(by cases q),fun _=>⟨jM _,⟨by omega,by omega⟩,aU.Az (by kernel_rfl) hk⟩⟩⟩
theorem amt {M:Mo} (h:M.dB) (h0:(sec M 6).length≠0):az ae env 29 [.agg (mV M),sI .i64 6] [] (.p (.ps (sec M 6).length 1 (bt (sec M 6)))) []:=by
 have bw:aR=70368744177664:=rfl
 have hb:=dh h 6
 have hl:M.gls.length≤5000:=by have:=h.len;omega
 have hv:=eg (M.gls.length:Int)
 have t6:((6:Int)==6)=true:=by decide
 have t7:((6:Int)==7)=false:=by decide
 have hk:aU ae env (eO 29 1 91 M (eV M.gls.length).length (bt (eV M.gls.length)) 0) (kQ (sec M 6)):=
  jg (l:=M.gls) (e:=BZ) (D:=fun X i=>eO 29 1 91 M X.length (bt X) i) (B:=10000000000000) (fun X i x hx hX o k=>SS M hl X i x hx (h.gls x (mv hx)) hX o k) (Xq M) (fun q=>h0 ((bG M.gls BZ).2 q)) (by show(sec M 6).length≤_;omega)
 refine SY (aa aH (zy M 6 0 0 [] (fun n=>(eV n).length) (fun n=>bt (eV n)) (fun n=>(eU n).length) (fun n=>bt (eU n)) (fun s=>(eM s).length) (fun s=>bt (eM s))) ?_)
 simp only[vU,aA.ok,t6,t7,pn,Hm,ajQ,di,ajp,ajS,bw]
 exact⟨fun _=>⟨jM _,⟨by omega,by omega⟩,aU.Az (by kernel_rfl) hk⟩,fun q=>(by cases q)⟩
theorem amu {M:Mo} (h:M.dB) (h0:(sec M 7).length≠0):az ae env 29 [.agg (mV M),sI .i64 7] [] (.p (.ps (sec M 7).length 1 (bt (sec M 7)))) []:=by
 have bw:aR=70368744177664:=rfl
 have hb:=dh h 7
 have hl:M.exs.length≤5000:=by have:=h.len;omega
 have hv:=eg (M.exs.length:Int)
 have t6:((7:Int)==6)=false:=by decide
 have t7:((7:Int)==7)=true:=by decide
 have hk:aU ae env (eO 29 5 91 M (eV M.exs.length).length (bt (eV M.exs.length)) 0) (kQ (sec M 7)):=
  jg (l:=M.exs) (e:=B0) (D:=fun X i=>eO 29 5 91 M X.length (bt X) i) (B:=10000000000000) (fun X i x hx hX o k=>SU M hl X i x hx (h.exs x (mv hx)) hX o k) (Xr M) (fun q=>h0 ((bG M.exs B0).2 q)) (by show(sec M 7).length≤_;omega)
 refine SY (aa aH (zy M 7 0 0 [] (fun n=>(eV n).length) (fun n=>bt (eV n)) (fun n=>(eU n).length) (fun n=>bt (eU n)) (fun s=>(eM s).length) (fun s=>bt (eM s))) ?_)
 simp only[vU,aA.ok,t6,t7,pn,Hm,ajQ,di,ajp,ajS,bw]
 exact⟨fun q=>(by cases q),fun _=>⟨fun _=>⟨jM _,⟨by omega,by omega⟩,aU.Az (by kernel_rfl) hk⟩,fun q=>(by cases q)⟩⟩
theorem amv {M:Mo} (h:M.dB) (h0:(sec M 9).length≠0):az ae env 30 [.agg (mV M),sI .i64 9] [] (.p (.ps (sec M 9).length 1 (bt (sec M 9)))) []:=by
 have bw:aR=70368744177664:=rfl
 have hb:=dh h 9
 have hl:M.els.length≤5000:=by have:=h.len;omega
 have hv:=eg (M.els.length:Int)
 have t9:((9:Int)==9)=true:=by decide
 have t10:((9:Int)==10)=false:=by decide
 have hk:aU ae env (eO 30 1 150 M (eV M.els.length).length (bt (eV M.els.length)) 0) (kQ (sec M 9)):=
  jg (l:=M.els) (e:=EC) (D:=fun X i=>eO 30 1 150 M X.length (bt X) i) (B:=10000000000000) (fun X i x hx hX o k=>SX M hl X i x hx (h.els x (mv hx)) hX o k) (Xv M) (fun q=>h0 ((bG M.els EC).2 q)) (by show(sec M 9).length≤_;omega)
 refine SY (aa aH (zz M 9 0 0 [] (fun n=>(eV n).length) (fun n=>bt (eV n)) (fun n=>(eU n).length) (fun n=>bt (eU n)) (fun s=>(eM s).length) (fun s=>bt (eM s))) ?_)
 simp only[vV,aA.ok,t9,t10,pn,Hm,ajQ,di,ajp,ajS,bw]
 exact⟨fun _=>⟨jM _,⟨by omega,by omega⟩,aU.Az (by kernel_rfl) hk⟩,fun q=>(by cases q)⟩
theorem aiM {M:Mo} (h:M.dB) (h0:(sec M 10).length≠0):az ae env 30 [.agg (mV M),sI .i64 10] [] (.p (.ps (sec M 10).length 1 (bt (sec M 10)))) []:=by
 have bw:aR=70368744177664:=rfl
 have hb:=dh h 10
 have hl:M.fns.length≤5000:=by have:=h.len;omega
 have hv:=eg (M.fns.length:Int)
 have t9:((10:Int)==9)=false:=by decide
 have t10:((10:Int)==10)=true:=by decide
 have hk:aU ae env (eO 30 6 150 M (eV M.fns.length).length (bt (eV M.fns.length)) 0) (kQ (sec M 10)):=
  jg (l:=M.fns) (e:=B2) (D:=fun X i=>eO 30 6 150 M X.length (bt X) i) (B:=10000000000000) (fun X i x hx hX o k=>SV M hl X i x hx (h.fns x (mv hx)) hX o k) (Xs M) (fun q=>h0 ((bG M.fns B2).2 q)) (by show(sec M 10).length≤_;omega)
 refine SY (aa aH (zz M 10 0 0 [] (fun n=>(eV n).length) (fun n=>bt (eV n)) (fun n=>(eU n).length) (fun n=>bt (eU n)) (fun s=>(eM s).length) (fun s=>bt (eM s))) ?_)
 simp only[vV,aA.ok,t9,t10,pn,Hm,ajQ,di,ajp,ajS,bw]
 exact⟨fun q=>(by cases q),fun _=>⟨fun _=>⟨jM _,⟨by omega,by omega⟩,aU.Az (by kernel_rfl) hk⟩,fun q=>(by cases q)⟩⟩
theorem aiN {M:Mo} (h:M.dB) (h0:(sec M 11).length≠0):az ae env 30 [.agg (mV M),sI .i64 11] [] (.p (.ps (sec M 11).length 1 (bt (sec M 11)))) []:=by
 have bw:aR=70368744177664:=rfl
 have hb:=dh h 11
 have hl:M.bp.length≤5000:=by have:=h.len;omega
 have hv:=eg (M.bp.length:Int)
 have t9:((11:Int)==9)=false:=by decide
 have t10:((11:Int)==10)=false:=by decide
 have hk:aU ae env (eO 30 8 150 M (eV M.bp.length).length (bt (eV M.bp.length)) 0) (kQ (sec M 11)):=
  jg (l:=M.bp) (e:=B3) (D:=fun X i=>eO 30 8 150 M X.length (bt X) i) (B:=10000000000000) (fun X i x hx hX o k=>SW M hl X i x hx (h.bp x (mv hx)) hX o k) (Xt M) (fun q=>h0 ((bG M.bp B3).2 q)) (by show(sec M 11).length≤_;omega)
 refine SY (aa aH (zz M 11 0 0 [] (fun n=>(eV n).length) (fun n=>bt (eV n)) (fun n=>(eU n).length) (fun n=>bt (eU n)) (fun s=>(eM s).length) (fun s=>bt (eM s))) ?_)
 simp only[vV,aA.ok,t9,t10,pn,Hm,ajQ,di,ajp,ajS,bw]
 exact⟨fun q=>(by cases q),fun _=>⟨fun q=>(by cases q),fun _=>⟨jM _,⟨by omega,by omega⟩,aU.Az (by kernel_rfl) hk⟩⟩⟩
theorem amw {M:Mo} (h:M.dB) (h0:(sec M 4).length≠0):az ae env 28 [.agg (mV M),sI .i64 4] [] (.p (.ps (sec M 4).length 1 (bt (sec M 4)))) []:=by
 have hb:=dh h 4
 have hl:M.b8.length≤5000:=by have:=h.len;omega
 have t5:((4:Int)==5)=false:=by decide
 have hk:aU ae env (zD 4 M.b8 1048576 (eV M.b8.length).length (bt (eV M.b8.length)) 0) (kQ (sec M 4)):=
  jg (l:=M.b8) (e:=BX) (D:=fun X i=>zD 4 M.b8 1048576 X.length (bt X) i) (B:=10000000000000) (fun X i x hx hX o k=>NI M M.b8 hl X i x hx (h.b8 x (mv hx)) hX o k) (Lh M 4 M.b8 1048576) (fun q=>h0 ((bG M.b8 BX).2 q)) (by show(sec M 4).length≤_;omega)
 refine SY (aa aH (He M 4 0 0 [] (fun n=>(eV n).length) (fun n=>bt (eV n)) (fun n=>(eU n).length) (fun n=>bt (eU n)) (fun s=>(eM s).length) (fun s=>bt (eM s))) ?_)
 simp only[Ea,aA.ok,t5]
 exact⟨fun q=>(by cases q),fun _=>⟨jM _,aU.Az (by kernel_rfl) hk⟩⟩
theorem amx {M:Mo} (h:M.dB) (h0:(sec M 5).length≠0):az ae env 28 [.agg (mV M),sI .i64 5] [] (.p (.ps (sec M 5).length 1 (bt (sec M 5)))) []:=by
 have hb:=dh h 5
 have hl:M.b9.length≤5000:=by have:=h.len;omega
 have t5:((5:Int)==5)=true:=by decide
 have hk:aU ae env (zD 5 M.b9 65536 (eV M.b9.length).length (bt (eV M.b9.length)) 0) (kQ (sec M 5)):=
  jg (l:=M.b9) (e:=BY) (D:=fun X i=>zD 5 M.b9 65536 X.length (bt X) i) (B:=10000000000000) (fun X i x hx hX o k=>NJ M M.b9 hl X i x hx (h.b9 x (mv hx)) hX o k) (Lh M 5 M.b9 65536) (fun q=>h0 ((bG M.b9 BY).2 q)) (by show(sec M 5).length≤_;omega)
 refine SY (aa aH (He M 5 0 0 [] (fun n=>(eV n).length) (fun n=>bt (eV n)) (fun n=>(eU n).length) (fun n=>bt (eU n)) (fun s=>(eM s).length) (fun s=>bt (eM s))) ?_)
 simp only[Ea,aA.ok,t5]
 exact⟨fun _=>⟨jM _,aU.Az (by kernel_rfl) hk⟩,fun q=>(by cases q)⟩
theorem amy {M:Mo} (h:M.dB) (h0:(sec M 8).length≠0):az ae env 29 [.agg (mV M),sI .i64 8] [] (.p (.ps (sec M 8).length 1 (bt (sec M 8)))) []:=by
 have hs:M.st=true:=by
  cases hq:M.st with
  |true=>rfl
  |false=>exact absurd (by simp only[sec,hq,o0,if_false,aeK]) h0
 have e:sec M 8=eU M.sn:=by simp only[sec,hs,if_true]
 have t6:((8:Int)==6)=false:=by decide
 have t7:((8:Int)==7)=false:=by decide
 rw[e]
 refine SY (aa aH (zy M 8 0 0 [] (fun n=>(eV n).length) (fun n=>bt (eV n)) (fun n=>(eU n).length) (fun n=>bt (eU n)) (fun s=>(eM s).length) (fun s=>bt (eM s))) ?_)
 simp only[vU,aA.ok,t6,t7]
 exact⟨fun q=>(by cases q),fun _=>⟨fun q=>(by cases q),fun _=>⟨SO h.sn,(by first | exact akX | rfl)⟩⟩⟩
def cX (M:Mo) (d:Nat):Bool:=decide ((sec M d).length=0)
theorem lT (n:Nat):((n:Int)==0)=decide (n=0):=by
 by_cases h:n=0
 · subst h;rfl
 · rw[decide_eq_false h,beq_eq_false_iff_ne];omega
theorem aiO (M:Mo):az ae env 25 [.agg (mV M),sI .i64 ((1:Nat):Int)] [] (sB (cX M 1)) []:=by
 have e:cX M 1=decide (M.tys.length=0):=by
  unfold cX
  exact decide_eq_decide.2 (bG M.tys sF)
 have t8:((((1:Nat):Int))==8)=false:=by decide
 rw[e,←lT]
 refine aa aH (fZ M 1 0 false M.tys.length []) ?_
 unfold gP
 exact⟨fun q=>absurd q (by decide),fun _=>⟨by kernel_rfl,by kernel_rfl,by kernel_rfl,rfl⟩⟩
theorem aiP (M:Mo):az ae env 25 [.agg (mV M),sI .i64 ((2:Nat):Int)] [] (sB (cX M 2)) []:=by
 have e:cX M 2=decide (M.aX.length=0):=by
  unfold cX
  exact decide_eq_decide.2 (bG M.aX BV)
 have t8:((((2:Nat):Int))==8)=false:=by decide
 rw[e,←lT]
 refine aa aH (fZ M 2 0 false M.aX.length []) ?_
 unfold gP
 exact⟨fun q=>absurd q (by decide),fun _=>⟨by kernel_rfl,by kernel_rfl,by kernel_rfl,rfl⟩⟩
theorem aiQ (M:Mo):az ae env 25 [.agg (mV M),sI .i64 ((3:Nat):Int)] [] (sB (cX M 3)) []:=by
 have e:cX M 3=decide (M.fns.length=0):=by
  unfold cX
  exact decide_eq_decide.2 (bG M.fns BW)
 have t8:((((3:Nat):Int))==8)=false:=by decide
 rw[e,←lT]
 refine aa aH (fZ M 3 0 false M.fns.length []) ?_
 unfold gP
 exact⟨fun q=>absurd q (by decide),fun _=>⟨by kernel_rfl,by kernel_rfl,by kernel_rfl,rfl⟩⟩
theorem aiR (M:Mo):az ae env 25 [.agg (mV M),sI .i64 ((4:Nat):Int)] [] (sB (cX M 4)) []:=by
 have e:cX M 4=decide (M.b8.length=0):=by
  unfold cX
  exact decide_eq_decide.2 (bG M.b8 BX)
 have t8:((((4:Nat):Int))==8)=false:=by decide
 rw[e,←lT]
 refine aa aH (fZ M 4 0 false M.b8.length []) ?_
 unfold gP
 exact⟨fun q=>absurd q (by decide),fun _=>⟨by kernel_rfl,by kernel_rfl,by kernel_rfl,rfl⟩⟩
theorem aiS (M:Mo):az ae env 25 [.agg (mV M),sI .i64 ((5:Nat):Int)] [] (sB (cX M 5)) []:=by
 have e:cX M 5=decide (M.b9.length=0):=by
  unfold cX
  exact decide_eq_decide.2 (bG M.b9 BY)
 have t8:((((5:Nat):Int))==8)=false:=by decide
 rw[e,←lT]
 refine aa aH (fZ M 5 0 false M.b9.length []) ?_
 unfold gP
 exact⟨fun q=>absurd q (by decide),fun _=>⟨by kernel_rfl,by kernel_rfl,by kernel_rfl,rfl⟩⟩
theorem aiT (M:Mo):az ae env 25 [.agg (mV M),sI .i64 ((6:Nat):Int)] [] (sB (cX M 6)) []:=by
 have e:cX M 6=decide (M.gls.length=0):=by
  unfold cX
  exact decide_eq_decide.2 (bG M.gls BZ)
 have t8:((((6:Nat):Int))==8)=false:=by decide
 rw[e,←lT]
 refine aa aH (fZ M 6 0 false M.gls.length []) ?_
 unfold gP
 exact⟨fun q=>absurd q (by decide),fun _=>⟨by kernel_rfl,by kernel_rfl,by kernel_rfl,rfl⟩⟩
theorem aiU (M:Mo):az ae env 25 [.agg (mV M),sI .i64 ((7:Nat):Int)] [] (sB (cX M 7)) []:=by
 have e:cX M 7=decide (M.exs.length=0):=by
  unfold cX
  exact decide_eq_decide.2 (bG M.exs B0)
 have t8:((((7:Nat):Int))==8)=false:=by decide
 rw[e,←lT]
 refine aa aH (fZ M 7 0 false M.exs.length []) ?_
 unfold gP
 exact⟨fun q=>absurd q (by decide),fun _=>⟨by kernel_rfl,by kernel_rfl,by kernel_rfl,rfl⟩⟩
theorem aiV (M:Mo):az ae env 25 [.agg (mV M),sI .i64 ((9:Nat):Int)] [] (sB (cX M 9)) []:=by
 have e:cX M 9=decide (M.els.length=0):=by
  unfold cX
  exact decide_eq_decide.2 (bG M.els EC)
 have t8:((((9:Nat):Int))==8)=false:=by decide
 rw[e,←lT]
 refine aa aH (fZ M 9 0 false M.els.length []) ?_
 unfold gP
 exact⟨fun q=>absurd q (by decide),fun _=>⟨by kernel_rfl,by kernel_rfl,by kernel_rfl,rfl⟩⟩
theorem adX (M:Mo):az ae env 25 [.agg (mV M),sI .i64 ((10:Nat):Int)] [] (sB (cX M 10)) []:=by
 have e:cX M 10=decide (M.fns.length=0):=by
  unfold cX
  exact decide_eq_decide.2 (bG M.fns B2)
 have t8:((((10:Nat):Int))==8)=false:=by decide
 rw[e,←lT]
 refine aa aH (fZ M 10 0 false M.fns.length []) ?_
 unfold gP
 exact⟨fun q=>absurd q (by decide),fun _=>⟨by kernel_rfl,by kernel_rfl,by kernel_rfl,rfl⟩⟩
theorem adY (M:Mo):az ae env 25 [.agg (mV M),sI .i64 ((11:Nat):Int)] [] (sB (cX M 11)) []:=by
 have e:cX M 11=decide (M.bp.length=0):=by
  unfold cX
  exact decide_eq_decide.2 (bG M.bp B3)
 have t8:((((11:Nat):Int))==8)=false:=by decide
 rw[e,←lT]
 refine aa aH (fZ M 11 0 false M.bp.length []) ?_
 unfold gP
 exact⟨fun q=>absurd q (by decide),fun _=>⟨by kernel_rfl,by kernel_rfl,by kernel_rfl,rfl⟩⟩
theorem aiW (M:Mo):az ae env 25 [.agg (mV M),sI .i64 ((8:Nat):Int)] [] (sB (cX M 8)) []:=by
 have e:cX M 8 = !M.st:=by
  unfold cX
  cases hs:M.st with
  |true=>
   have n0:1≤(eU M.sn).length:=by have:=GW M.sn;rw[gH] at this;omega
   simp only[sec,hs,if_true,Bool.not_true,decide_eq_false_iff_not];omega
  |false=>simp only[sec,hs,o0,if_false,aeK,decide_true,Bool.not_false]
 rw[e]
 refine aa aH (fZ M 8 0 false 0 []) ?_
 unfold gP
 exact⟨fun _=>rfl,fun q=>absurd q (by decide)⟩
theorem Cs (M:Mo) : ∀{d:Nat},1≤d→d≤11→az ae env 25 [.agg (mV M),sI .i64 (d:Int)] [] (sB (cX M d)) []
 |1,_,_=>aiO M
 |2,_,_=>aiP M
 |3,_,_=>aiQ M
 |4,_,_=>aiR M
 |5,_,_=>aiS M
 |6,_,_=>aiT M
 |7,_,_=>aiU M
 |8,_,_=>aiW M
 |9,_,_=>aiV M
 |10,_,_=>adX M
 |11,_,_=>adY M
 |0,h1,_=>absurd h1 (by decide)
 |d+12,_,h2=>absurd h2 (by omega)
theorem qv {M:Mo} (h:M.dB) (hc:az ae env 24 [.agg (mV M)] [] (sI .i64 (dZ M)) []) (d:Int):az ae env 13 [.agg (mV M),sI .i64 d] [] (.aK [.p (.ps (kO M d).length 1 (bt (kO M d))),sI .i64 (mH M d)]) []:=by
 by_cases h0:dZ M=0
 · by_cases hd:1≤d∧d≤11
   · have e:mH M d=0:=by unfold mH;rw[if_neg (by omega),if_neg (by omega)]
     have er:kO M d=sec M d.toNat:=by unfold kO;rw[if_pos e]
     obtain⟨n,rfl⟩:=Int.eq_ofNat_of_zero_le (show 0≤d by omega)
     rw[afm] at er
     rw[e,er]
     have hl:=Cs M (d:=n) (by omega) (by omega)
     by_cases hz:(sec M n).length=0
     · have e2:sec M n=[]:=List.length_eq_zero_iff.1 hz
       have e3:cX M n=true:=by unfold cX;exact decide_eq_true hz
       rw[e3] at hl
       rw[e2]
       refine az.jw (m':=[]) (aa aH (sU M n (dZ M) true 0 []) ?_)
       simp only[sS,hJ,aV,aA.ok,bne_iff_ne,ne_eq,decide_eq_true_eq,decide_eq_false_iff_not,bne_eq_false_iff_eq]
       exact⟨hc,fun q=>absurd h0 q,fun _=>⟨fun q=>absurd hd.1 (by omega),fun _=>⟨fun q=>absurd hd.2 (by omega),fun _=>⟨hl,fun _=>(by first | exact akX | rfl),fun q=>(by cases q)⟩⟩⟩⟩
     · have e3:cX M n=false:=by unfold cX;exact decide_eq_false hz
       rw[e3] at hl
       refine aa aH (sU M n (dZ M) false (sec M n).length (bt (sec M n))) ?_
       simp only[sS,hJ,aV,aA.ok,bne_iff_ne,ne_eq,decide_eq_true_eq,decide_eq_false_iff_not,bne_eq_false_iff_eq]
       refine⟨hc,fun q=>absurd h0 q,fun _=>⟨fun q=>absurd hd.1 (by omega),fun _=>⟨fun q=>absurd hd.2 (by omega),fun _=>⟨hl,fun q=>(by cases q),fun _=>⟨fun q1=>⟨?_,(by first | exact akX | rfl)⟩,fun q1=>⟨fun q2=>⟨?_,(by first | exact akX | rfl)⟩,fun q2=>⟨fun q3=>⟨?_,(by first | exact akX | rfl)⟩,fun q3=>⟨?_,(by first | exact akX | rfl)⟩⟩⟩⟩⟩⟩⟩⟩
       · obtain rfl | rfl | rfl:n=1∨n=2∨n=3:=by omega
         · exact amq h hz
         · exact amr h hz
         · exact ams h hz
       · obtain rfl | rfl:n=4∨n=5:=by omega
         · exact amw h hz
         · exact amx h hz
       · obtain rfl | rfl | rfl:n=6∨n=7∨n=8:=by omega
         · exact amt h hz
         · exact amu h hz
         · exact amy h hz
       · obtain rfl | rfl | rfl:n=9∨n=10∨n=11:=by omega
         · exact amv h hz
         · exact aiM h hz
         · exact aiN h hz
   · have e:mH M d=5:=by unfold mH;rw[if_neg (by omega),if_pos (by omega)]
     have er:kO M d=[]:=by unfold kO;rw[if_neg (by omega)]
     rw[e,er]
     refine az.jw (m':=[]) (aa aH (sU M d (dZ M) false 0 []) ?_)
     simp only[sS,hJ,aV,aA.ok,bne_iff_ne,ne_eq,decide_eq_true_eq,decide_eq_false_iff_not,bne_eq_false_iff_eq]
     exact⟨hc,fun q=>absurd h0 q,fun _=>⟨fun q=>(by first | exact akX | rfl),fun q=>⟨fun _=>(by first | exact akX | rfl),fun q'=>absurd hd (by omega)⟩⟩⟩
 · have e:mH M d=dZ M:=by unfold mH;rw[if_pos h0]
   have er:kO M d=[]:=by unfold kO;rw[if_neg (by omega)]
   rw[e,er]
   refine az.jw (m':=[]) (aa aH (sU M d (dZ M) false 0 []) ?_)
   simp only[sS,hJ,aV,aA.ok,bne_iff_ne,ne_eq,decide_eq_true_eq,decide_eq_false_iff_not,bne_eq_false_iff_eq]
   exact⟨hc,fun _=>(by first | exact akX | rfl),fun q=>absurd q h0⟩
def Hr (M:Mo):Out:=if(mG M).length>1048576 then .ret (.aK [.os none 0 0 [],sI .i64 3]) [] else .ret (.aK [.os (some 0) (mG M).length 1 (bt (mG M)),sI .i64 0]) [.tok]
theorem Xw {M:Mo} (h:M.dB) (hc:az ae env 24 [.agg (mV M)] [] (sI .i64 (dZ M)) []) (h0:dZ M=0) : ∀(r d:Nat),d+r=11→aU ae env (eO 11 1 45 M (nB M d).length (bt (nB M d)) (d+1)) (Hr M):=by
 have bw:aR=70368744177664:=rfl
 intro r
 induction r with
 |zero=>
  intro d hd
  obtain rfl:d=11:=by omega
  have e:mG M=nB M 11:=rfl
  refine af aH (zC M 12 (nB M 11).length 0 false (bt (nB M 11)) [] 0 (fun n=>(eV n).length) (fun n=>bt (eV n))) ?_
  simp only[vY,aV,aA.ok,decide_eq_true_eq,decide_eq_false_iff_not]
  refine⟨fun q=>absurd q (by decide),fun _=>⟨fun q=> ?_,fun q=> ?_⟩⟩
  · unfold Hr;rw[e,if_pos (by omega)]
  · unfold Hr;rw[e,if_neg (by omega)]
 |succ r ih=>
  intro d hd
  have hup:=D9 h d
  have Yr:=oQ M d
  have w:re.wrap (((d+1:Nat):Int)+1)=((d+1+1:Nat):Int):=by rw[aQ (by omega) (by omega)];rfl
  have Xm:decide (((d+1:Nat):Int)≤11)=true:=decide_eq_true (by omega)
  have hl:=Cs M (d:=d+1) (by omega) (by omega)
  have k:=ih (d+1) (by omega)
  by_cases hz:(sec M (d+1)).length=0
  · have e:nB M (d+1)=nB M d:=by rw[Yr];unfold AF;rw[if_pos hz,List.append_nil]
    have e3:cX M (d+1)=true:=by unfold cX;exact decide_eq_true hz
    rw[e3] at hl
    rw[e] at k
    refine af aH (zC M (d+1) (nB M d).length 0 true (bt (nB M d)) [] 0 (fun n=>(eV n).length) (fun n=>bt (eV n))) ?_
    simp only[vY,aV,aA.ok,Xm,w]
    exact⟨fun _=>⟨hl,fun _=>⟨trivial,k⟩,fun q=>(by cases q)⟩,fun q=>(by cases q)⟩
  · have e3:cX M (d+1)=false:=by unfold cX;exact decide_eq_false hz
    have e:nB M (d+1)=nB M d++([d+1]++eV ((sec M (d+1)).length:Int)++sec M (d+1)):=by rw[Yr];unfold AF;rw[if_neg hz]
    have Oy:=dh h (d+1)
    have hv:=eg ((sec M (d+1)).length:Int)
    have hs:=qv h hc ((d+1:Nat):Int)
    have e4:mH M ((d+1:Nat):Int)=0:=by unfold mH;rw[if_neg (by omega),if_neg (by omega)]
    have e5:kO M ((d+1:Nat):Int)=sec M (d+1):=by unfold kO;rw[if_pos e4,afm]
    rw[e4,e5] at hs
    rw[e3] at hl
    rw[e] at k
    refine af aH (zC M (d+1) (nB M d).length (sec M (d+1)).length false (bt (nB M d)) (bt (sec M (d+1))) 0 (fun n=>(eV n).length) (fun n=>bt (eV n))) ?_
    simp only[vY,aV,aA.ok,Xm,w,ajQ,di,ajp,ajS,bw,Ju (show d+1≤11 by omega)]
    refine⟨fun _=>⟨hl,fun q=>(by cases q),fun _=>⟨hs,⟨by omega,by omega⟩,jM _,⟨by omega,by omega⟩,⟨by omega,by omega⟩,trivial,?_⟩⟩,fun q=>(by cases q)⟩
    exact Ys (by simp only[List.length_append,List.length_cons,aeK];omega) (by simp only[aS,bU,cA,List.append_assoc]) k
theorem Ek {M:Mo} (h:M.dB) (hc:az ae env 24 [.agg (mV M)] [] (sI .i64 (dZ M)) []):az ae env 11 [.agg (mV M)] [] (.aK [.p (.ps (kU M).length 1 (bt (kU M))),sI .i64 (nh M)]) []:=by
 by_cases h0:dZ M=0
 · have k:=Xw h hc h0 11 0 (by omega)
   have k2:aU ae env (ah ae env 11 1 [.mp 0 0,.os none 8 1 hbP,sI .i64 1] [.pc M.aJ] 0 45) (Hr M):=aU.RM 5 8 1 hbP (by kernel_rfl) (by kernel_rfl) (aU.Az (by kernel_rfl) k)
   unfold Hr at k2
   by_cases hl:(mG M).length>1048576
   · have e:nh M=3:=by unfold nh;rw[if_neg (by omega),if_pos hl]
     have er:kU M=[]:=by unfold kU;rw[if_neg (by omega)]
     rw[e,er]
     rw[if_pos hl] at k2
     refine az.jw (m':=[]) (aa aH (zB M 0 (dZ M) false 0 []) ?_)
     simp only[vX,aV,aA.ok,bne_iff_ne,ne_eq,bne_eq_false_iff_eq]
     exact⟨hc,fun q=>absurd h0 q,fun _=>k2⟩
   · have e:nh M=0:=by unfold nh;rw[if_neg (by omega),if_neg hl]
     have er:kU M=mG M:=by unfold kU;rw[if_pos e]
     rw[e,er]
     rw[if_neg hl] at k2
     refine az.lI (tok:=some 0) (m':=[.tok]) (aa aH (zB M 0 (dZ M) false 0 []) ?_)
     simp only[vX,aV,aA.ok,bne_iff_ne,ne_eq,bne_eq_false_iff_eq]
     exact⟨hc,fun q=>absurd h0 q,fun _=>k2⟩
 · have e:nh M=dZ M:=by unfold nh;rw[if_pos h0]
   have er:kU M=[]:=by unfold kU;rw[if_neg (by omega)]
   rw[e,er]
   refine az.jw (m':=[]) (aa aH (zB M 0 (dZ M) false 0 []) ?_)
   simp only[vX,aV,aA.ok,bne_iff_ne,ne_eq,bne_eq_false_iff_eq]
   exact⟨hc,fun _=>(by first | exact akX | rfl),fun q=>absurd q h0⟩
end Go.Proofs.YtncncijedmfpjaaGreatDoor.N
end
section
set_option linter.unusedSimpArgs false
set_option linter.unusedVariables false
namespace Go.Proofs.YtncncijedmfpjaaGreatDoor.N
open Go Go.Am
def Lj (f:FuncId) (args:List AV) (m:Mem):Option (AV×Mem):=cond (Nat.beq f 23) (match args with | [v]=>some (v,m) | _=>none) none
def adZ:bA:=aM aE aC [(23,0)] [] []
def aiX:Sc:= .fin
def Xx (l:List Ins):aA:=
 (.at (ah ae env 23 0 [.p (.ps l.length 8 (aj l)),bB,sI .i64 0] ([]) 0 34))
theorem Hs (l:List Ins):aI ae env adZ 1000000 23 ([aL l]) ([]) aiX=Xx l:=by kernel_rfl
def Xy:bA:=aM Lj aC [(23,0)] [(23,0,1)] [(23,6,2),(23,6,3),(23,7,3)]
def ad0:Sc:= .fin
def zE (l:List Ins) (i:Int):aA:=
 (.test (decide (i<(↑l.length:Int)))
 (.must (aP i l.length&&true&&true)
 (.must (isInt re (aq (aj l) (i.toNat*8))&&(isInt re (aq (aj l) (i.toNat*8+1))&&(isInt aeG (aq (aj l) (i.toNat*8+1+1))&&(isInt aeG (aq (aj l) (i.toNat*8+1+1+1))&&(isInt ajx (aq (aj l) (i.toNat*8+1+1+1+1))&&(aO (aq (aj l) (i.toNat*8+1+1+1+1+1))&&(aO (aq (aj l) (i.toNat*8+1+1+1+1+1+1))&&(aO (aq (aj l) (i.toNat*8+1+1+1+1+1+1+1))&&true)))))))&&true)
 (.must (((aD (.ps (an (aq (aj l) (i.toNat*8+1+1+1+1+1))) (aD (aq (aj l) (i.toNat*8+1+1+1+1+1))) (ak (aq (aj l) (i.toNat*8+1+1+1+1+1))))).beq 1||(an (.ps (an (aq (aj l) (i.toNat*8+1+1+1+1+1))) (aD (aq (aj l) (i.toNat*8+1+1+1+1+1))) (ak (aq (aj l) (i.toNat*8+1+1+1+1+1))))).beq 0&&Nat.ble 1 1)&&true&&true&&true&&((0+an (.ps (an (aq (aj l) (i.toNat*8+1+1+1+1+1))) (aD (aq (aj l) (i.toNat*8+1+1+1+1+1))) (ak (aq (aj l) (i.toNat*8+1+1+1+1+1)))))*4).ble aR&&(0+an (.ps (an (aq (aj l) (i.toNat*8+1+1+1+1+1))) (aD (aq (aj l) (i.toNat*8+1+1+1+1+1))) (ak (aq (aj l) (i.toNat*8+1+1+1+1+1))))).ble aR&&true)
 (.call ⟨23,[.p (.ps (an (.ps (an (aq (aj l) (i.toNat*8+1+1+1+1+1+1))) (aD (aq (aj l) (i.toNat*8+1+1+1+1+1+1))) (ak (aq (aj l) (i.toNat*8+1+1+1+1+1+1))))) (aD (.ps (an (aq (aj l) (i.toNat*8+1+1+1+1+1+1))) (aD (aq (aj l) (i.toNat*8+1+1+1+1+1+1))) (ak (aq (aj l) (i.toNat*8+1+1+1+1+1+1))))) (ak (.ps (an (aq (aj l) (i.toNat*8+1+1+1+1+1+1))) (aD (aq (aj l) (i.toNat*8+1+1+1+1+1+1))) (ak (aq (aj l) (i.toNat*8+1+1+1+1+1+1))))))],[],.p (.ps (an (.ps (an (aq (aj l) (i.toNat*8+1+1+1+1+1+1))) (aD (aq (aj l) (i.toNat*8+1+1+1+1+1+1))) (ak (aq (aj l) (i.toNat*8+1+1+1+1+1+1))))) (aD (.ps (an (aq (aj l) (i.toNat*8+1+1+1+1+1+1))) (aD (aq (aj l) (i.toNat*8+1+1+1+1+1+1))) (ak (aq (aj l) (i.toNat*8+1+1+1+1+1+1))))) (ak (.ps (an (aq (aj l) (i.toNat*8+1+1+1+1+1+1))) (aD (aq (aj l) (i.toNat*8+1+1+1+1+1+1))) (ak (aq (aj l) (i.toNat*8+1+1+1+1+1+1)))))),[]⟩
 (.call ⟨23,[.p (.ps (an (.ps (an (aq (aj l) (i.toNat*8+1+1+1+1+1+1+1))) (aD (aq (aj l) (i.toNat*8+1+1+1+1+1+1+1))) (ak (aq (aj l) (i.toNat*8+1+1+1+1+1+1+1))))) (aD (.ps (an (aq (aj l) (i.toNat*8+1+1+1+1+1+1+1))) (aD (aq (aj l) (i.toNat*8+1+1+1+1+1+1+1))) (ak (aq (aj l) (i.toNat*8+1+1+1+1+1+1+1))))) (ak (.ps (an (aq (aj l) (i.toNat*8+1+1+1+1+1+1+1))) (aD (aq (aj l) (i.toNat*8+1+1+1+1+1+1+1))) (ak (aq (aj l) (i.toNat*8+1+1+1+1+1+1+1))))))],[],.p (.ps (an (.ps (an (aq (aj l) (i.toNat*8+1+1+1+1+1+1+1))) (aD (aq (aj l) (i.toNat*8+1+1+1+1+1+1+1))) (ak (aq (aj l) (i.toNat*8+1+1+1+1+1+1+1))))) (aD (.ps (an (aq (aj l) (i.toNat*8+1+1+1+1+1+1+1))) (aD (aq (aj l) (i.toNat*8+1+1+1+1+1+1+1))) (ak (aq (aj l) (i.toNat*8+1+1+1+1+1+1+1))))) (ak (.ps (an (aq (aj l) (i.toNat*8+1+1+1+1+1+1+1))) (aD (aq (aj l) (i.toNat*8+1+1+1+1+1+1+1))) (ak (aq (aj l) (i.toNat*8+1+1+1+1+1+1+1)))))),[]⟩
 (.at (ah ae env 23 0 [.p (.ps l.length 8 (aj l)),.os (some 0) 1 8 [sP (au (sP (au (aq (aj l) (i.toNat*8))))),sP (au (sP (au (aq (aj l) (i.toNat*8+1))))),.sc (.int .u32 (au (.sc (.int .u32 (au (aq (aj l) (i.toNat*8+1+1))))))),.sc (.int .u32 (au (.sc (.int .u32 (au (aq (aj l) (i.toNat*8+1+1+1))))))),.sc (.int .i32 (au (.sc (.int .i32 (au (aq (aj l) (i.toNat*8+1+1+1+1))))))),.ps (0+an (.ps (an (aq (aj l) (i.toNat*8+1+1+1+1+1))) (aD (aq (aj l) (i.toNat*8+1+1+1+1+1))) (ak (aq (aj l) (i.toNat*8+1+1+1+1+1))))) 1 ([]++ak (.ps (an (aq (aj l) (i.toNat*8+1+1+1+1+1))) (aD (aq (aj l) (i.toNat*8+1+1+1+1+1))) (ak (aq (aj l) (i.toNat*8+1+1+1+1+1))))),.ps (an (.ps (an (.ps (an (aq (aj l) (i.toNat*8+1+1+1+1+1+1))) (aD (aq (aj l) (i.toNat*8+1+1+1+1+1+1))) (ak (aq (aj l) (i.toNat*8+1+1+1+1+1+1))))) (aD (.ps (an (aq (aj l) (i.toNat*8+1+1+1+1+1+1))) (aD (aq (aj l) (i.toNat*8+1+1+1+1+1+1))) (ak (aq (aj l) (i.toNat*8+1+1+1+1+1+1))))) (ak (.ps (an (aq (aj l) (i.toNat*8+1+1+1+1+1+1))) (aD (aq (aj l) (i.toNat*8+1+1+1+1+1+1))) (ak (aq (aj l) (i.toNat*8+1+1+1+1+1+1))))))) (aD (.ps (an (.ps (an (aq (aj l) (i.toNat*8+1+1+1+1+1+1))) (aD (aq (aj l) (i.toNat*8+1+1+1+1+1+1))) (ak (aq (aj l) (i.toNat*8+1+1+1+1+1+1))))) (aD (.ps (an (aq (aj l) (i.toNat*8+1+1+1+1+1+1))) (aD (aq (aj l) (i.toNat*8+1+1+1+1+1+1))) (ak (aq (aj l) (i.toNat*8+1+1+1+1+1+1))))) (ak (.ps (an (aq (aj l) (i.toNat*8+1+1+1+1+1+1))) (aD (aq (aj l) (i.toNat*8+1+1+1+1+1+1))) (ak (aq (aj l) (i.toNat*8+1+1+1+1+1+1))))))) (ak (.ps (an (.ps (an (aq (aj l) (i.toNat*8+1+1+1+1+1+1))) (aD (aq (aj l) (i.toNat*8+1+1+1+1+1+1))) (ak (aq (aj l) (i.toNat*8+1+1+1+1+1+1))))) (aD (.ps (an (aq (aj l) (i.toNat*8+1+1+1+1+1+1))) (aD (aq (aj l) (i.toNat*8+1+1+1+1+1+1))) (ak (aq (aj l) (i.toNat*8+1+1+1+1+1+1))))) (ak (.ps (an (aq (aj l) (i.toNat*8+1+1+1+1+1+1))) (aD (aq (aj l) (i.toNat*8+1+1+1+1+1+1))) (ak (aq (aj l) (i.toNat*8+1+1+1+1+1+1))))))),.ps (an (.ps (an (.ps (an (aq (aj l) (i.toNat*8+1+1+1+1+1+1+1))) (aD (aq (aj l) (i.toNat*8+1+1+1+1+1+1+1))) (ak (aq (aj l) (i.toNat*8+1+1+1+1+1+1+1))))) (aD (.ps (an (aq (aj l) (i.toNat*8+1+1+1+1+1+1+1))) (aD (aq (aj l) (i.toNat*8+1+1+1+1+1+1+1))) (ak (aq (aj l) (i.toNat*8+1+1+1+1+1+1+1))))) (ak (.ps (an (aq (aj l) (i.toNat*8+1+1+1+1+1+1+1))) (aD (aq (aj l) (i.toNat*8+1+1+1+1+1+1+1))) (ak (aq (aj l) (i.toNat*8+1+1+1+1+1+1+1))))))) (aD (.ps (an (.ps (an (aq (aj l) (i.toNat*8+1+1+1+1+1+1+1))) (aD (aq (aj l) (i.toNat*8+1+1+1+1+1+1+1))) (ak (aq (aj l) (i.toNat*8+1+1+1+1+1+1+1))))) (aD (.ps (an (aq (aj l) (i.toNat*8+1+1+1+1+1+1+1))) (aD (aq (aj l) (i.toNat*8+1+1+1+1+1+1+1))) (ak (aq (aj l) (i.toNat*8+1+1+1+1+1+1+1))))) (ak (.ps (an (aq (aj l) (i.toNat*8+1+1+1+1+1+1+1))) (aD (aq (aj l) (i.toNat*8+1+1+1+1+1+1+1))) (ak (aq (aj l) (i.toNat*8+1+1+1+1+1+1+1))))))) (ak (.ps (an (.ps (an (aq (aj l) (i.toNat*8+1+1+1+1+1+1+1))) (aD (aq (aj l) (i.toNat*8+1+1+1+1+1+1+1))) (ak (aq (aj l) (i.toNat*8+1+1+1+1+1+1+1))))) (aD (.ps (an (aq (aj l) (i.toNat*8+1+1+1+1+1+1+1))) (aD (aq (aj l) (i.toNat*8+1+1+1+1+1+1+1))) (ak (aq (aj l) (i.toNat*8+1+1+1+1+1+1+1))))) (ak (.ps (an (aq (aj l) (i.toNat*8+1+1+1+1+1+1+1))) (aD (aq (aj l) (i.toNat*8+1+1+1+1+1+1+1))) (ak (aq (aj l) (i.toNat*8+1+1+1+1+1+1+1)))))))],sI .i64 (re.wrap (i+1))] ([.tok]) 0 34)))))))
 (.out (.ret (bB) [])))
theorem Ct (l:List Ins) (i:Int):grow ae env Xy 1000000 true (ah ae env 23 0 ([aL l,AV.os Option.none 0 0 [],sI re i]) ([]) 0 34) ad0 atEnd=zE l i:=by kernel_rfl
def Xz:bA:=aM Lj aC [(23,0)] [(23,0,1)] [(23,6,2),(23,6,3),(23,7,3),(23,10,3)]
def ad1:Sc:= .fin
def zF (l:List Ins) (k:Nat) (cs:List PV) (i:Int):aA:=
 (.test (decide (i<(↑l.length:Int)))
 (.must (aP i l.length&&true&&true)
 (.must (isInt re (aq (aj l) (i.toNat*8))&&(isInt re (aq (aj l) (i.toNat*8+1))&&(isInt aeG (aq (aj l) (i.toNat*8+1+1))&&(isInt aeG (aq (aj l) (i.toNat*8+1+1+1))&&(isInt ajx (aq (aj l) (i.toNat*8+1+1+1+1))&&(aO (aq (aj l) (i.toNat*8+1+1+1+1+1))&&(aO (aq (aj l) (i.toNat*8+1+1+1+1+1+1))&&(aO (aq (aj l) (i.toNat*8+1+1+1+1+1+1+1))&&true)))))))&&true)
 (.must (((aD (.ps (an (aq (aj l) (i.toNat*8+1+1+1+1+1))) (aD (aq (aj l) (i.toNat*8+1+1+1+1+1))) (ak (aq (aj l) (i.toNat*8+1+1+1+1+1))))).beq 1||(an (.ps (an (aq (aj l) (i.toNat*8+1+1+1+1+1))) (aD (aq (aj l) (i.toNat*8+1+1+1+1+1))) (ak (aq (aj l) (i.toNat*8+1+1+1+1+1))))).beq 0&&Nat.ble 1 1)&&true&&true&&true&&((0+an (.ps (an (aq (aj l) (i.toNat*8+1+1+1+1+1))) (aD (aq (aj l) (i.toNat*8+1+1+1+1+1))) (ak (aq (aj l) (i.toNat*8+1+1+1+1+1)))))*4).ble aR&&(0+an (.ps (an (aq (aj l) (i.toNat*8+1+1+1+1+1))) (aD (aq (aj l) (i.toNat*8+1+1+1+1+1))) (ak (aq (aj l) (i.toNat*8+1+1+1+1+1))))).ble aR&&true)
 (.call ⟨23,[.p (.ps (an (.ps (an (aq (aj l) (i.toNat*8+1+1+1+1+1+1))) (aD (aq (aj l) (i.toNat*8+1+1+1+1+1+1))) (ak (aq (aj l) (i.toNat*8+1+1+1+1+1+1))))) (aD (.ps (an (aq (aj l) (i.toNat*8+1+1+1+1+1+1))) (aD (aq (aj l) (i.toNat*8+1+1+1+1+1+1))) (ak (aq (aj l) (i.toNat*8+1+1+1+1+1+1))))) (ak (.ps (an (aq (aj l) (i.toNat*8+1+1+1+1+1+1))) (aD (aq (aj l) (i.toNat*8+1+1+1+1+1+1))) (ak (aq (aj l) (i.toNat*8+1+1+1+1+1+1))))))],[],.p (.ps (an (.ps (an (aq (aj l) (i.toNat*8+1+1+1+1+1+1))) (aD (aq (aj l) (i.toNat*8+1+1+1+1+1+1))) (ak (aq (aj l) (i.toNat*8+1+1+1+1+1+1))))) (aD (.ps (an (aq (aj l) (i.toNat*8+1+1+1+1+1+1))) (aD (aq (aj l) (i.toNat*8+1+1+1+1+1+1))) (ak (aq (aj l) (i.toNat*8+1+1+1+1+1+1))))) (ak (.ps (an (aq (aj l) (i.toNat*8+1+1+1+1+1+1))) (aD (aq (aj l) (i.toNat*8+1+1+1+1+1+1))) (ak (aq (aj l) (i.toNat*8+1+1+1+1+1+1)))))),[]⟩
 (.call ⟨23,[.p (.ps (an (.ps (an (aq (aj l) (i.toNat*8+1+1+1+1+1+1+1))) (aD (aq (aj l) (i.toNat*8+1+1+1+1+1+1+1))) (ak (aq (aj l) (i.toNat*8+1+1+1+1+1+1+1))))) (aD (.ps (an (aq (aj l) (i.toNat*8+1+1+1+1+1+1+1))) (aD (aq (aj l) (i.toNat*8+1+1+1+1+1+1+1))) (ak (aq (aj l) (i.toNat*8+1+1+1+1+1+1+1))))) (ak (.ps (an (aq (aj l) (i.toNat*8+1+1+1+1+1+1+1))) (aD (aq (aj l) (i.toNat*8+1+1+1+1+1+1+1))) (ak (aq (aj l) (i.toNat*8+1+1+1+1+1+1+1))))))],[],.p (.ps (an (.ps (an (aq (aj l) (i.toNat*8+1+1+1+1+1+1+1))) (aD (aq (aj l) (i.toNat*8+1+1+1+1+1+1+1))) (ak (aq (aj l) (i.toNat*8+1+1+1+1+1+1+1))))) (aD (.ps (an (aq (aj l) (i.toNat*8+1+1+1+1+1+1+1))) (aD (aq (aj l) (i.toNat*8+1+1+1+1+1+1+1))) (ak (aq (aj l) (i.toNat*8+1+1+1+1+1+1+1))))) (ak (.ps (an (aq (aj l) (i.toNat*8+1+1+1+1+1+1+1))) (aD (aq (aj l) (i.toNat*8+1+1+1+1+1+1+1))) (ak (aq (aj l) (i.toNat*8+1+1+1+1+1+1+1)))))),[]⟩
 (.must (((k+1)*104).ble aR&&(k+1).ble aR&&true)
 (.at (ah ae env 23 0 [.p (.ps l.length 8 (aj l)),.os (some 0) (k+1) 8 (cs++[sP (au (sP (au (aq (aj l) (i.toNat*8))))),sP (au (sP (au (aq (aj l) (i.toNat*8+1))))),.sc (.int .u32 (au (.sc (.int .u32 (au (aq (aj l) (i.toNat*8+1+1))))))),.sc (.int .u32 (au (.sc (.int .u32 (au (aq (aj l) (i.toNat*8+1+1+1))))))),.sc (.int .i32 (au (.sc (.int .i32 (au (aq (aj l) (i.toNat*8+1+1+1+1))))))),.ps (0+an (.ps (an (aq (aj l) (i.toNat*8+1+1+1+1+1))) (aD (aq (aj l) (i.toNat*8+1+1+1+1+1))) (ak (aq (aj l) (i.toNat*8+1+1+1+1+1))))) 1 ([]++ak (.ps (an (aq (aj l) (i.toNat*8+1+1+1+1+1))) (aD (aq (aj l) (i.toNat*8+1+1+1+1+1))) (ak (aq (aj l) (i.toNat*8+1+1+1+1+1))))),.ps (an (.ps (an (.ps (an (aq (aj l) (i.toNat*8+1+1+1+1+1+1))) (aD (aq (aj l) (i.toNat*8+1+1+1+1+1+1))) (ak (aq (aj l) (i.toNat*8+1+1+1+1+1+1))))) (aD (.ps (an (aq (aj l) (i.toNat*8+1+1+1+1+1+1))) (aD (aq (aj l) (i.toNat*8+1+1+1+1+1+1))) (ak (aq (aj l) (i.toNat*8+1+1+1+1+1+1))))) (ak (.ps (an (aq (aj l) (i.toNat*8+1+1+1+1+1+1))) (aD (aq (aj l) (i.toNat*8+1+1+1+1+1+1))) (ak (aq (aj l) (i.toNat*8+1+1+1+1+1+1))))))) (aD (.ps (an (.ps (an (aq (aj l) (i.toNat*8+1+1+1+1+1+1))) (aD (aq (aj l) (i.toNat*8+1+1+1+1+1+1))) (ak (aq (aj l) (i.toNat*8+1+1+1+1+1+1))))) (aD (.ps (an (aq (aj l) (i.toNat*8+1+1+1+1+1+1))) (aD (aq (aj l) (i.toNat*8+1+1+1+1+1+1))) (ak (aq (aj l) (i.toNat*8+1+1+1+1+1+1))))) (ak (.ps (an (aq (aj l) (i.toNat*8+1+1+1+1+1+1))) (aD (aq (aj l) (i.toNat*8+1+1+1+1+1+1))) (ak (aq (aj l) (i.toNat*8+1+1+1+1+1+1))))))) (ak (.ps (an (.ps (an (aq (aj l) (i.toNat*8+1+1+1+1+1+1))) (aD (aq (aj l) (i.toNat*8+1+1+1+1+1+1))) (ak (aq (aj l) (i.toNat*8+1+1+1+1+1+1))))) (aD (.ps (an (aq (aj l) (i.toNat*8+1+1+1+1+1+1))) (aD (aq (aj l) (i.toNat*8+1+1+1+1+1+1))) (ak (aq (aj l) (i.toNat*8+1+1+1+1+1+1))))) (ak (.ps (an (aq (aj l) (i.toNat*8+1+1+1+1+1+1))) (aD (aq (aj l) (i.toNat*8+1+1+1+1+1+1))) (ak (aq (aj l) (i.toNat*8+1+1+1+1+1+1))))))),.ps (an (.ps (an (.ps (an (aq (aj l) (i.toNat*8+1+1+1+1+1+1+1))) (aD (aq (aj l) (i.toNat*8+1+1+1+1+1+1+1))) (ak (aq (aj l) (i.toNat*8+1+1+1+1+1+1+1))))) (aD (.ps (an (aq (aj l) (i.toNat*8+1+1+1+1+1+1+1))) (aD (aq (aj l) (i.toNat*8+1+1+1+1+1+1+1))) (ak (aq (aj l) (i.toNat*8+1+1+1+1+1+1+1))))) (ak (.ps (an (aq (aj l) (i.toNat*8+1+1+1+1+1+1+1))) (aD (aq (aj l) (i.toNat*8+1+1+1+1+1+1+1))) (ak (aq (aj l) (i.toNat*8+1+1+1+1+1+1+1))))))) (aD (.ps (an (.ps (an (aq (aj l) (i.toNat*8+1+1+1+1+1+1+1))) (aD (aq (aj l) (i.toNat*8+1+1+1+1+1+1+1))) (ak (aq (aj l) (i.toNat*8+1+1+1+1+1+1+1))))) (aD (.ps (an (aq (aj l) (i.toNat*8+1+1+1+1+1+1+1))) (aD (aq (aj l) (i.toNat*8+1+1+1+1+1+1+1))) (ak (aq (aj l) (i.toNat*8+1+1+1+1+1+1+1))))) (ak (.ps (an (aq (aj l) (i.toNat*8+1+1+1+1+1+1+1))) (aD (aq (aj l) (i.toNat*8+1+1+1+1+1+1+1))) (ak (aq (aj l) (i.toNat*8+1+1+1+1+1+1+1))))))) (ak (.ps (an (.ps (an (aq (aj l) (i.toNat*8+1+1+1+1+1+1+1))) (aD (aq (aj l) (i.toNat*8+1+1+1+1+1+1+1))) (ak (aq (aj l) (i.toNat*8+1+1+1+1+1+1+1))))) (aD (.ps (an (aq (aj l) (i.toNat*8+1+1+1+1+1+1+1))) (aD (aq (aj l) (i.toNat*8+1+1+1+1+1+1+1))) (ak (aq (aj l) (i.toNat*8+1+1+1+1+1+1+1))))) (ak (.ps (an (aq (aj l) (i.toNat*8+1+1+1+1+1+1+1))) (aD (aq (aj l) (i.toNat*8+1+1+1+1+1+1+1))) (ak (aq (aj l) (i.toNat*8+1+1+1+1+1+1+1)))))))]),sI .i64 (re.wrap (i+1))] ([.tok]) 0 34))))))))
 (.out (.ret (.os (some 0) k 8 cs) [.tok])))
theorem Cu (l:List Ins) (k:Nat) (cs:List PV) (i:Int):grow ae env Xz 1000000 true (ah ae env 23 0 ([aL l,AV.os (Option.some 0) k 8 cs,sI re i]) ([bq.tok]) 0 34) ad1 atEnd=zF l k cs i:=by kernel_rfl
theorem NK (l:List Ins) (hc:cz l≤1000000) (IH : ∀x∈l,az ae env 23 [aL x.l] [] (aL x.l) []∧az ae env 23 [aL x.e] [] (aL x.e) []) :
  ∀(r k:Nat),k+r=l.length→aU ae env (ah ae env 23 0 [aL l,.os (some 0) k 8 (aj (l.take k)),sI .i64 k] [.tok] 0 34) (.ret (.os (some 0) l.length 8 (aj l)) [.tok]):=by
 intro r
 induction r with
 |zero=>
  intro k hk
  refine af aH (Cu l k (aj (l.take k)) k) ?_
  have h2 : ¬((k:Int)<l.length):=by omega
  have h3:k=l.length:=by omega
  subst h3
  simp[zF,aV,aA.ok]
 |succ r ih=>
  intro k hk
  refine af aH (Cu l k (aj (l.take k)) k) ?_
  have nG:k<l.length:=by omega
  have FA:l[k]? = some l[k]:=List.getElem?_eq_getElem nG
  have hmem:l[k]∈l:=List.getElem_mem nG
  have ht:l.take (k+1)=l.take k++[l[k]]:=List.take_succ_eq_append_getElem nG
  have ih:=ih (k+1) (by omega)
  rw[ht,uT,Pg] at ih
  generalize l[k]=x at *
  obtain⟨op,rs,a,b,nn,tags,ll,le⟩:=x
  obtain⟨c0,c1,c2,c3,c4,c5,c6,c7⟩:=gE FA
  have pJ:=IH _ hmem
  have hcx:=fS hmem
  have TJ:=jt l
  simp only[jr] at hcx
  have hw:re.wrap ((k:Int)+1)=((k+1:Nat):Int):=by rw[aQ (by omega) (by omega)];rfl
  have xY:(k:Int)<(l.length:Int):=by omega
  have bw:aR=70368744177664:=rfl
  simp only[zF,aV,aA.ok,Nat.add_assoc,aeV,c0,c1,c2,c3,c4,c5,c6,c7,an,aD,ak,aO,isInt,au,afm,aP,hw]
  refine⟨fun _=>⟨by simp[xY],by simp,by simp;omega,pJ.1,pJ.2,by simp;omega,?_⟩,fun h=>absurd xY (by simpa using h)⟩
  simpa[tW] using ih
theorem Jw (x:Ins) (l:List Ins) (hc:cz (x::l)≤1000000) (IH : ∀y∈x::l,az ae env 23 [aL y.l] [] (aL y.l) []∧az ae env 23 [aL y.e] [] (aL y.e) []) :
  aU ae env (ah ae env 23 0 [aL (x::l),.os none 0 0 [],sI .i64 0] [] 0 34) (.ret (.os (some 0) (x::l).length 8 (aj (x::l))) [.tok]):=by
 refine af aH (Ct (x::l) 0) ?_
 have h1:=NK (x::l) hc IH l.length 1 (by simp;omega)
 have pJ:=IH x (.head _)
 have hcx:=fS (.head _:x∈x::l)
 obtain⟨op,rs,a,b,nn,tags,ll,le⟩:=x
 obtain⟨c0,c1,c2,c3,c4,c5,c6,c7⟩:=gE (l:= .mk op rs a b nn tags ll le::l) (k:=0) rfl
 simp only[jr] at hcx
 have hw:re.wrap ((0:Int)+1)=((1:Nat):Int):=by decide
 have bw:aR=70368744177664:=rfl
 simp only[amz,pn] at c0 c1 c2 c3 c4 c5 c6 c7
 have z:Int.toNat 0=0:=rfl
 simp only[zE,aV,aA.ok,z,amz,pn,aeV,c0,c1,c2,c3,c4,c5,c6,c7,an,aD,ak,aO,isInt,au,aP,hw]
 refine⟨fun _=>⟨by simp,by simp,by simp;omega,pJ.1,pJ.2,?_⟩,fun h=>by simp at h⟩
 simpa[tW,aj,aL,sI] using h1
theorem fG : ∀(N:Nat) (l:List Ins),cz l≤N→cz l≤1000000→az ae env 23 [aL l] [] (aL l) []
 |N,[],_,_=>by
  refine az.nil (tok:=none) (sz:=0) (m':=[]) ?_ (by omega)
  refine aa aH (Hs []) ?_
  refine af aH (Ct [] 0) ?_
  simp[zE,aV,aA.ok]
 |N,x::l,hN,hc=>by
  have IH : ∀y∈x::l,az ae env 23 [aL y.l] [] (aL y.l) []∧az ae env 23 [aL y.e] [] (aL y.e) []:=by
   intro y hy
   have hcy:=fS hy
   obtain⟨op,rs,a,b,nn,tags,ll,le⟩:=y
   simp only[jr] at hcy
   match N,hN with
   |0,hN=>omega
   |N+1,hN=>exact⟨fG N ll (by omega) (by omega),fG N le (by omega) (by omega)⟩
  refine az.pure (tok:=some 0) (m':=[.tok]) ?_
  refine aa aH (Hs (x::l)) ?_
  exact Jw x l hc IH
end Go.Proofs.YtncncijedmfpjaaGreatDoor.N
end
section
namespace Go.Am
open Go.RowKit
section
variable {P:Program} {E:Env} {g:Gh} {m:Mem} {w:World}
def FZ (a b:AV):Prop:= ∀(g:Gh) (w:World) (v:Value),VA g w a v→VA g w b v
theorem FZ.refl (a:AV):FZ a a:=fun _ _ _ h=>h
theorem FZ.os {tok:Option Nat} {n z:Nat} {cs:List PV}:FZ (.os tok n z cs) (.p (.ps n z cs)):=fun g w v hv=>by
 cases hv with
 |os _ _ _ _ a cap h _=>exact .p _ _ h
theorem FZ.nil {tok:Option Nat} {z:Nat} {y:PV} (h:HK (.ps 0 z []) y):FZ (.os tok 0 z []) (.p y):=fun g w v hv=>by
 cases hv with
 |os _ _ _ _ a cap hv _=>exact .p _ _ (h _ _ _ hv)
theorem fzs {l l':List AV} (h:bP FZ l l') (g:Gh) (w:World) : ∀{vs:List Value},dj g w l vs→dj g w l' vs:=by
 induction l generalizing l' with
 |nil=>intro vs hv;cases l' with
  |nil=>exact hv
  |cons _ _=>exact h.elim
 |cons a l ih=>intro vs hv;cases l' with
  |nil=>exact h.elim
  |cons b l'=>cases vs with
   |nil=>exact hv.elim
   |cons v vs=>exact⟨h.1 g w v hv.1,ih h.2 hv.2⟩
theorem Rel.XA (h:Rel g m w) {i:Nat} {l l':List AV} (hb:m[i]? = some (.ac l)) (hl : ∀vs,dj g w l vs→dj g w l' vs) :
  Rel g (m.set i (.ac l')) w∧dF g m w g (m.set i (.ac l')) w:=by
 have own : ∀(j:Nat) (x:bq),(m.set i (.ac l'))[j]? = some x→x.dc=true → ∃y:bq,m[j]? = some y∧y.dc=true:=fun j x hj ho=>by
  rcases aY hj with⟨rfl,_⟩ | ⟨_,q⟩
  · exact⟨_,hb,rfl⟩
  · exact⟨x,q,ho⟩
 refine⟨⟨fun j hj=>h.tA j (by simpa using hj),fun j hj=> ?_,fun j x cs hj hx=> ?_,fun j c hj hc=> ?_,fun j q x x' c hj hq ho ho' hc fk=> ?_,h.there,fun j k1 l1 hj=> ?_⟩,
  ⟨c9 _,fun _ _ _=>rfl,fun _ _ p=>⟨p,rfl⟩,fun _ _ p=> .inl p,fun c ho=> ?_,rfl,rfl,rfl⟩⟩
 · rcases aY hj with⟨_,q⟩ | ⟨_,q⟩
   · cases q
   · exact h.free j q
 · rcases aY hj with⟨rfl,rfl⟩ | ⟨_,q⟩
   · simp only[bq.cells?,Option.some.injEq] at hx
     subst hx
     obtain⟨c',cs',e,q,k1,k2,k3,k4,k5⟩:=h.cells _ _ _ hb rfl
     exact⟨c',cs',e,q,k1,k2,k3,⟨hl _ k4.1,k4.2⟩,k5⟩
   · exact h.cells j x cs q hx
 · rcases aY hj with⟨_,q⟩ | ⟨_,q⟩
   · cases q
   · exact h.tok j c q hc
 · obtain⟨y,y1,y2⟩:=own j x hj ho
   obtain⟨z,z1,z2⟩:=own q x' hq ho'
   exact h.inj j q y z c y1 z1 y2 z2 hc fk
 · rcases aY hj with⟨_,q⟩ | ⟨_,q⟩
   · cases q
   · exact h.obs j k1 l1 q
 · obtain⟨j,x,hj,hx,hc⟩:=ho
   obtain⟨y,y1,y2⟩:=own j x hj hx
   exact .inl ⟨j,y,y1,y2,hc⟩
theorem Ht {ρ:Nat→Option Nat} : ∀(tm:pZ),tm.map (fun p=>(p.1,iH ρ p.2))=tm → ∀k,iH ρ (look tm k)=look tm k
 |[],_,_=>rfl
 |(j,v)::r,h,k=>by
  simp only[s0,List.cons.injEq,Prod.mk.injEq,true_and] at h
  unfold look
  cases Nat.beq j k with
  |true=>exact h.1
  |false=>exact Ht r h.2 k
theorem aU.told {c:cm} {a:List PV} {z l l':List AV} {r:Mem} {o:Out} (hm:c.st.mem = .pc a :: .ac z :: .ac l::r) (hf:c.st.fix=0) (hr:c.st.cL = .call) (hk:c.st.cT=[]) (hc:gU c=true)
  (hl:bP FZ l l') (hz:eR (idx [0,1,2]) z=z) (hl':eR (idx [0,1,2]) l'=l') (ht:c.st.tm.map (fun p=>(p.1,iH (idx [0,1,2]) p.2))=c.st.tm)
  (h:aU P E {c with st:={c.st with mem:=[.pc a,.ac z,.ac l']}} o):aU P E c o:=by
 refine aU.bI (fun g fr w xH cs=> ?_) h
 obtain⟨f,todo,st⟩:=c
 obtain⟨tm,nt,mem,fix,cT,cL⟩:=st
 dsimp only at hm hf hr hk ht
 subst hm hf hr hk
 match todo,hc with
 |.code j x::k,_=>
  obtain⟨b,at',q1,q2,q3,q4,q5,q6⟩:=xH
  obtain⟨n1,n2⟩:=q5.rel.XA (i:=2) rfl fun vs hv=>fzs hl g w hv
  obtain⟨p1,p2⟩:=n1.pack (ord:=[0,1,2]) (by decide)
  have hmem:Am.pack ((bq.pc a :: .ac z :: .ac l::r).set 2 (.ac l')) [0,1,2]=[.pc a,.ac z,.ac l']:=by
   show[fM (idx [0,1,2]) (.pc a),fM (idx [0,1,2]) (.ac z),fM (idx [0,1,2]) (.ac l')]=_
   simp only[fM,hz,hl']
  rw[hmem] at p1 p2
  have hs:dF g (bq.pc a :: .ac z :: .ac l::r) w (g.pack [0,1,2]) [.pc a,.ac z,.ac l'] w:=n2.trans ⟨c9 _,fun _ _ _=>rfl,fun _ _ p=>⟨p,rfl⟩,fun _ _ p=> .inl p,fun c ho=> .inl (p2 c ho),rfl,rfl,rfl⟩
  refine⟨g.pack [0,1,2],fr,w,Steps.refl _ _,⟨b,at',q1,q2,q3,?_,⟨fun k=> ?_,q5.nt,p1,Nat.zero_le _,q5.ec.mono fun _ _ p=>⟨p,rfl⟩⟩,q6⟩,hs,fun _ _ hk _=>absurd hk (Nat.not_lt_zero _),rfl,rfl,rfl⟩
  · show bP _ [] at'.defers
    have q4:bP _ [] at'.defers:=q4
    cases hd:at'.defers with
    |nil=>trivial
    |cons _ _=>rw[hd] at q4;exact q4.elim
  · have:=(q5.tm k).iH (dG.pack g [0,1,2])
    rwa [Ht tm ht k] at this
theorem Ll {ρ:Nat→Option Nat} : ∀(K:List Nat) (vs:List AV),vs.map (iH ρ)=vs→(K.zip vs).map (fun p=>(p.1,iH ρ p.2))=K.zip vs
 |[],_,_=>rfl
 |_::_,[],_=>rfl
 |k::K,v::vs,h=>by
  simp only[s0,List.cons.injEq] at h
  simp only[List.zip_cons_cons,s0,h.1,Ll K vs h.2]
theorem aU.zG {f t nt:Nat} {vs:List AV} {a:List PV} {z l l':List AV} {r:Mem} {o:Out} (hc:gU (ah P E f t vs (.pc a :: .ac z :: .ac l::r) 0 nt)=true)
  (hl:bP FZ l l') (hz:eR (idx [0,1,2]) z=z) (hl':eR (idx [0,1,2]) l'=l') (ht:vs.map (iH (idx [0,1,2]))=vs)
  (h:aU P E (ah P E f t vs [.pc a,.ac z,.ac l'] 0 nt) o):aU P E (ah P E f t vs (.pc a :: .ac z :: .ac l::r) 0 nt) o:=by
 cases h1:P.funcs[f]? with
 |none=>simp[ah,h1,gU] at hc
 |some fn=>
  cases h2:fn.body with
  |none=>simp[ah,h1,h2,gU] at hc
  |some c=>
   cases h3:iA E f t c 0 [] with
   |none=>simp[ah,h1,h2,h3,gU] at hc
   |some bk=>
    obtain⟨b,k⟩:=bk
    have e : ∀m:Mem,ah P E f t vs m 0 nt=⟨f,.code (t+1) b :: .inLoop t b::eW (E.keep f (2*t+1)) k,⟨((E.keep f (2*t)).getD []).zip vs,nt,m,0,[],.call⟩⟩:=fun m=>by simp[ah,h1,h2,h3]
    rw[e] at h ⊢
    exact aU.told (r:=r) rfl rfl rfl rfl rfl hl hz hl' (Ll _ _ ht) h
end
end Go.Am
end
