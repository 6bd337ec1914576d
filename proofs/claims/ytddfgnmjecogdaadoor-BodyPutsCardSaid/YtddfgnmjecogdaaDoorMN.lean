/-
Bytes of instructions, and of code, by both sides; the law.
What the row's condition tells: the library's tables, cell by cell.
One instruction's data, as a pure value.
A struct of two cells that is handed in, as pure values.
-/
import Derived.Test.YtddfgnmjecogdaaDoorML
import Derived.Test.YtddfgnmjecogdaaDoorMM
import Derived.Test.YtddfgnmjecogdaaDoorMH
import Derived.Test.YtddfgnmjecogdaaDoorRows
import Derived.MakeChecks
section
set_option linter.unusedSimpArgs false
set_option linter.unusedVariables false
namespace Go.Proofs.YtddfgnmjecogdaaDoor.N
open Go Go.Am
def LN (l:List Ins) (e:Int) (n:Nat) (X:List PV) (f:FuncId) (_:List AV) (m:Mem):Option (AV×Mem):=cond (Nat.beq f 31||Nat.beq f 33) (some (sI .i64 e,m)) (cond (Nat.beq f 32) (some (.os (some 1) n 1 X,[.dead,.tok])) (cond (Nat.beq f 34) (some (.os (some 0) n 1 X,[.tok])) none))
def JI (lo:Int) (l:List Ins) (e:Int) (n k:Nat) (X Y:List PV) (f:FuncId) (_:List AV) (m:Mem):Option (AV×Mem):=cond (Nat.beq f 14||Nat.beq f 16) (some (.aO [.p (.ps n 1 X),sI .i64 e],m)) (cond (Nat.beq f 35||Nat.beq f 36) (some (.p (.ps k 1 Y),m)) none)
def LO (lo:Int) (l:List Ins) (c e g:Int) (n k:Nat) (X Y:List PV) (f:FuncId) (_:List AV) (m:Mem):Option (AV×Mem):=cond (Nat.beq f 13) (some (sI .i64 c,m)) (cond (Nat.beq f 15) (some (aL l,m)) (cond (Nat.beq f 14||Nat.beq f 16) (some (.aO [.p (.ps n 1 X),sI .i64 e],m)) (cond (Nat.beq f 17||Nat.beq f 18) (some (.aO [.p (.ps k 1 Y),sI .i64 g],m)) (cond (Nat.beq f 19||Nat.beq f 11||Nat.beq f 12) (some (sB true,m)) none))))
noncomputable def Jo (l:List Ins) (e:Int) (n:Nat) (X:List PV):dR:=cr (LN l e n X) aW [] [(14,0,0)] [(14,5,3)]
def K7:Sc:= .fin
noncomputable def yP (l:List Ins) (e:Int) (n:Nat) (X:List PV):Tree:=
 (.call ⟨31,[AV.p (PV.ps l.length 8 (aa l))],[],AV.p (PV.sc (Value.int IntKind.i64 e)),[]⟩
  (.test (e != 0)
   (.out (Out.ret (AV.aO [AV.os Option.none 0 0 [],AV.p (PV.sc (Value.int IntKind.i64 e))]) []))
   (.call ⟨32,[AV.os Option.none 0 0 [],AV.p (PV.ps l.length 8 (aa l))],[],AV.os (Option.some 1) n 1 X,[av.dead,av.tok]⟩
    (.must (((n+1)*1).ble aJ&&(n+1).ble aJ&&true)
     (.out (Out.ret (AV.aO [AV.os (Option.some 0) (n+1) 1 (X++[PV.sc (Value.int IntKind.u8 11)]),AV.p (PV.sc (Value.int IntKind.i64 0))]) [av.tok]))))))
theorem zS (l:List Ins) (e:Int) (n:Nat) (X:List PV):bC Tryd.prog env (Jo l e n X) 1000000 14 ([aL l]) ([]) K7=yP l e n X:=by kernel_rfl
noncomputable def Jp (l:List Ins) (e:Int) (n:Nat) (X:List PV):dR:=cr (LN l e n X) aW [] [(16,0,0)] [(16,5,3)]
def K8:Sc:= .fin
noncomputable def yQ (l:List Ins) (e:Int) (n:Nat) (X:List PV):Tree:=
 (.call ⟨33,[AV.p (PV.ps l.length 8 (aa l))],[],AV.p (PV.sc (Value.int IntKind.i64 e)),[]⟩
  (.test (e != 0)
   (.out (Out.ret (AV.aO [AV.os Option.none 0 0 [],AV.p (PV.sc (Value.int IntKind.i64 e))]) []))
   (.call ⟨34,[AV.p (PV.ps l.length 8 (aa l))],[],AV.os (Option.some 0) n 1 X,[av.tok]⟩
    (.must (((n+1)*1).ble aJ&&(n+1).ble aJ&&true)
     (.out (Out.ret (AV.aO [AV.os (Option.some 0) (n+1) 1 (X++[PV.sc (Value.int IntKind.u8 11)]),AV.p (PV.sc (Value.int IntKind.i64 0))]) [av.tok]))))))
theorem zT (l:List Ins) (e:Int) (n:Nat) (X:List PV):bC Tryd.prog env (Jp l e n X) 1000000 16 ([aL l]) ([]) K8=yQ l e n X:=by kernel_rfl
noncomputable def Jq (lo:Int) (l:List Ins) (e:Int) (n:Nat) (k:Nat) (X:List PV) (Y:List PV):dR:=cr (JI lo l e n k X Y) (JI lo l e n k X Y) [] [(17,2,4),(17,0,0),(17,0,1),(17,0,2)] [(17,9,5),(17,9,7),(17,10,2)]
def K9:Sc:=(.fork (.lit .fin) .fin)
noncomputable def nC (lo:Int) (l:List Ins) (e:Int) (n:Nat) (k:Nat) (X:List PV) (Y:List PV):Tree:=
 (.test (decide (lo<0))
  (.out (Out.ret (AV.aO [AV.os Option.none 0 0 [],AV.p (PV.sc (Value.int IntKind.i64 2))]) []))
  (.test (decide (lo>50000))
   (.out (Out.ret (AV.aO [AV.os Option.none 0 0 [],AV.p (PV.sc (Value.int IntKind.i64 2))]) []))
   (.call ⟨14,[AV.p (PV.ps l.length 8 (aa l))],[],AV.aO [AV.p (PV.ps n 1 X),AV.p (PV.sc (Value.int IntKind.i64 e))],[]⟩
    (.test (e != 0)
     (.out (Out.ret (AV.aO [AV.os Option.none 0 0 [],AV.p (PV.sc (Value.int IntKind.i64 e))]) []))
     (.test (decide (lo>0))
      (.call ⟨35,[AV.p (PV.sc (Value.int IntKind.u32 (IntKind.u32.wrap lo)))],[],AV.p (PV.ps k 1 Y),[]⟩
       (.must (((1+k)*1).ble aJ&&(1+k).ble aJ&&true)
        (.must (((1+k+1)*1).ble aJ&&(1+k+1).ble aJ&&true)
         (.must (((1+k+1+n)*1).ble aJ&&(1+k+1+n).ble aJ&&true)
          (.out (Out.ret (AV.aO [AV.os (Option.some 0) (1+k+1+n) 1 (PV.sc (Value.int IntKind.u8 1)::(([].append Y).append [PV.sc (Value.int IntKind.u8 127)]).append X),AV.p (PV.sc (Value.int IntKind.i64 0))]) [av.tok]))))))
      (.must (((1+n)*1).ble aJ&&(1+n).ble aJ&&true)
       (.out (Out.ret (AV.aO [AV.os (Option.some 0) (1+n) 1 (PV.sc (Value.int IntKind.u8 0)::[].append X),AV.p (PV.sc (Value.int IntKind.i64 0))]) [av.tok]))))))))
theorem EC (lo:Int) (l:List Ins) (e:Int) (n:Nat) (k:Nat) (X:List PV) (Y:List PV):bC Tryd.prog env (Jq lo l e n k X Y) 1000000 17 ([AV.agg [sI IntKind.i64 lo,aL l]]) ([]) K9=nC lo l e n k X Y:=by kernel_rfl
noncomputable def Jr (lo:Int) (l:List Ins) (e:Int) (n:Nat) (k:Nat) (X:List PV) (Y:List PV):dR:=cr (JI lo l e n k X Y) (JI lo l e n k X Y) [] [(18,2,4),(18,0,0),(18,0,1),(18,0,2)] [(18,8,2),(18,9,5),(18,10,2),(18,11,2)]
def La:Sc:=(.fork (.lit .fin) .fin)
noncomputable def nD (lo:Int) (l:List Ins) (e:Int) (n:Nat) (k:Nat) (X:List PV) (Y:List PV):Tree:=
 (.test (decide (lo<0))
  (.out (Out.ret (AV.aO [AV.os Option.none 0 0 [],AV.p (PV.sc (Value.int IntKind.i64 2))]) []))
  (.test (decide (lo>50000))
   (.out (Out.ret (AV.aO [AV.os Option.none 0 0 [],AV.p (PV.sc (Value.int IntKind.i64 2))]) []))
   (.call ⟨16,[AV.p (PV.ps l.length 8 (aa l))],[],AV.aO [AV.p (PV.ps n 1 X),AV.p (PV.sc (Value.int IntKind.i64 e))],[]⟩
    (.test (e != 0)
     (.out (Out.ret (AV.aO [AV.os Option.none 0 0 [],AV.p (PV.sc (Value.int IntKind.i64 e))]) []))
     (.test (lo==0)
      (.must (((1+n)*1).ble aJ&&(1+n).ble aJ&&true)
       (.out (Out.ret (AV.aO [AV.os (Option.some 0) (1+n) 1 (PV.sc (Value.int IntKind.u8 0)::[].append X),AV.p (PV.sc (Value.int IntKind.i64 0))]) [av.tok])))
      (.call ⟨36,[AV.p (PV.sc (Value.int IntKind.u32 (IntKind.u32.wrap lo)))],[],AV.p (PV.ps k 1 Y),[]⟩
       (.must (((1+k)*1).ble aJ&&(1+k).ble aJ&&true)
        (.must (((1+k+1)*1).ble aJ&&(1+k+1).ble aJ&&true)
         (.must (((1+k+1+n)*1).ble aJ&&(1+k+1+n).ble aJ&&true)
          (.out (Out.ret (AV.aO [AV.os (Option.some 0) (1+k+1+n) 1 (PV.sc (Value.int IntKind.u8 1)::(([].append Y).append [PV.sc (Value.int IntKind.u8 127)]).append X),AV.p (PV.sc (Value.int IntKind.i64 0))]) [av.tok])))))))))))
theorem ED (lo:Int) (l:List Ins) (e:Int) (n:Nat) (k:Nat) (X:List PV) (Y:List PV):bC Tryd.prog env (Jr lo l e n k X Y) 1000000 18 ([AV.agg [sI IntKind.i64 lo,aL l]]) ([]) La=nD lo l e n k X Y:=by kernel_rfl
noncomputable def Js (lo:Int) (l:List Ins) (c:Int) (e:Int) (g:Int) (n:Nat) (k:Nat) (X:List PV) (Y:List PV):dR:=cr (LO lo l c e g n k X Y) (LO lo l c e g n k X Y) [] [(5,0,0),(5,9,9),(5,9,19)] []
def Lb:Sc:=(.fork .fin (.fork .fin (.lit .fin)))
noncomputable def Dd (lo:Int) (l:List Ins) (c:Int) (e:Int) (g:Int) (n:Nat) (k:Nat) (X:List PV) (Y:List PV):Tree:=
 (.call ⟨13,[AV.p (PV.ps l.length 8 (aa l)),AV.p (PV.sc (Value.int IntKind.i64 2000))],[],AV.p (PV.sc (Value.int IntKind.i64 c)),[]⟩
  (.test (decide (c>2000))
   (.out (Out.ret (AV.p (PV.sc (Value.bool true))) []))
   (.call ⟨15,[AV.p (PV.ps l.length 8 (aa l))],[],AV.p (PV.ps l.length 8 (aa l)),[]⟩
    (.call ⟨14,[AV.p (PV.ps l.length 8 (aa l))],[],AV.aO [AV.p (PV.ps n 1 X),AV.p (PV.sc (Value.int IntKind.i64 e))],[]⟩
     (.call ⟨16,[AV.p (PV.ps l.length 8 (aa l))],[],AV.aO [AV.p (PV.ps n 1 X),AV.p (PV.sc (Value.int IntKind.i64 e))],[]⟩
      (.call ⟨17,[AV.agg [AV.p (PV.sc (Value.int IntKind.i64 lo)),AV.p (PV.ps l.length 8 (aa l))]],[],AV.aO [AV.p (PV.ps k 1 Y),AV.p (PV.sc (Value.int IntKind.i64 g))],[]⟩
       (.call ⟨18,[AV.agg [AV.p (PV.sc (Value.int IntKind.i64 lo)),AV.p (PV.ps l.length 8 (aa l))]],[],AV.aO [AV.p (PV.ps k 1 Y),AV.p (PV.sc (Value.int IntKind.i64 g))],[]⟩
        (.call ⟨19,[AV.p (PV.ps n 1 X),AV.p (PV.ps n 1 X)],[],AV.p (PV.sc (Value.bool true)),[]⟩
         (.test (e==e)
          (.call ⟨19,[AV.p (PV.ps k 1 Y),AV.p (PV.ps k 1 Y)],[],AV.p (PV.sc (Value.bool true)),[]⟩
           (.test (g==g)
            (.call ⟨11,[AV.p (PV.ps l.length 8 (aa l)),AV.p (PV.ps l.length 8 (aa l))],[],AV.p (PV.sc (Value.bool true)),[]⟩
             (.call ⟨12,[],[],AV.p (PV.sc (Value.bool true)),[]⟩
              (.out (Out.ret (AV.p (PV.sc (Value.bool true))) []))))
            (.out (Out.ret (AV.p (PV.sc (Value.bool false))) []))))
          (.out (Out.ret (AV.p (PV.sc (Value.bool false))) [])))))))))))
theorem EE (lo:Int) (l:List Ins) (c:Int) (e:Int) (g:Int) (n:Nat) (k:Nat) (X:List PV) (Y:List PV):bC Tryd.prog env (Js lo l c e g n k X Y) 1000000 5 ([AV.agg [sI IntKind.i64 lo,aL l]]) ([]) Lb=Dd lo l c e g n k X Y:=by kernel_rfl
theorem aB.tS {f:FuncId} {args:List AV} {tok:Option Nat} {n sz:Nat} {X:List PV} {u:PV} {m':Mem} (h:aB Tryd.prog env f args [] (.aO [.os tok n sz X,.p u]) m'):aB Tryd.prog env f args [] (.aO [.p (.ps n sz X),.p u]) []:=
 aB.weak h fun g w cv hv=>by
  have mono : ∀{v:PV} {c:Value},VP g w v c→VP {g with aN:=fun _=>none} w v c:=fun k=>VP.mono (g:=g) (g':={g with aN:=fun _=>none}) (w:=w) (w':=w) (fun _ _ q=>⟨q,rfl⟩) k
  cases hv with
  |aO _ cs hl hc=>
   obtain⟨cs⟩:=cs
   match cs,aK.bV hl hc with
   |[a,b],⟨h1,h2,_⟩=>
    refine VA.fY.2 ⟨?_,?_,trivial⟩
    · cases h1 with
      |os _ _ _ _ a cap h _=>exact .p _ _ (mono h)
    · cases h2 with
      |p _ _ h=>exact .p _ _ (mono h)
theorem aB.zU {f:FuncId} {args:List AV} {u:PV} {m':Mem} (h:aB Tryd.prog env f args [] (.aO [.os none 0 0 [],.p u]) m'):aB Tryd.prog env f args [] (.aO [.p (.ps 0 1 []),.p u]) []:=
 aB.weak h fun g w cv hv=>by
  have mono : ∀{v:PV} {c:Value},VP g w v c→VP {g with aN:=fun _=>none} w v c:=fun k=>VP.mono (g:=g) (g':={g with aN:=fun _=>none}) (w:=w) (w':=w) (fun _ _ q=>⟨q,rfl⟩) k
  cases hv with
  |aO _ cs hl hc=>
   obtain⟨cs⟩:=cs
   match cs,aK.bV hl hc with
   |[a,b],⟨h1,h2,_⟩=>
    refine VA.fY.2 ⟨?_,?_,trivial⟩
    · cases h1 with
      |os _ _ _ _ a cap h _=>
       cases h with
       |lT _ _ _ hz=>exact .p _ _ (.lT _ _ _ (.inl (Nat.le_refl 1)))
       |ps _ _ _ b o cap f hl hc hz hp hv=>exact .p _ _ (.ps _ _ _ b o cap f (by simp) (Nat.zero_le _) (Nat.le_refl 1) (fun k hk=>absurd hk (by simp)) (fun k hk=>absurd hk (by simp)))
    · cases h2 with
      |p _ _ h=>exact .p _ _ (mono h)
def vq (l:List Ins):List Nat:=if bI eL l=0 then iW l++[11] else[]
def Dm (lo:Int) (l:List Ins):Int:=if lo<0∨lo>50000 then 2 else bI eL l
def zV (lo:Int) (l:List Ins):List Nat:=if Dm lo l=0 then(if lo=0 then[0] else(1::pU 4 lo.toNat)++[127])++vq l else[]
theorem Jt {l:List Ins} (h:bI eL l=0):mM eL l=true:=by
 cases h1:mM eL l with
 |true=>rfl
 |false=>simp[bI,h1] at h
theorem AY {t:Option Nat} {n m:Nat} {X Y:List PV} {u:AV} {mm:Mem} (h:X=Y) (h':n=Y.length) (e:m=Y.length):Out.ret (.aO [.os t n 1 X,u]) mm = .ret (.aO [.os t m 1 Y,u]) mm:=by subst h;rw[h',e]
theorem De {l:List Ins} (hc:bZ l≤1000000):(vq l).length≤20000001:=by
 have:=eK l
 unfold vq
 split
 · simp;omega
 · simp
theorem zW {l:List Ins} (hw:so l) (hc:bZ l≤1000000):aB Tryd.prog env 14 [aL l] [] (.aO [.p (.ps (vq l).length 1 (bt (vq l))),sI .i64 (bI eL l)]) []:=by
 have aY:aJ=70368744177664:=rfl
 have MX:=eK l
 have hn:=jN l
 have h1:=yB AL l (by omega)
 by_cases he:bI eL l=0
 · have e1:vq l=iW l++[11]:=if_pos he
   rw[e1,he]
   rw[he] at h1
   refine aB.tS (tok:=some 0) (m':=[.tok]) (ak names (zS l 0 (iW l).length (bt (iW l))) ?_)
   simp only[yP,Tree.ok,aY,Nat.ble_eq,Bool.and_eq_true,and_true,show((0:Int) != 0)=false from rfl,Bool.false_eq_true,false_implies,true_implies,true_and]
   exact⟨h1,Er hw hc,⟨by omega,by omega⟩,AY (by simp[bt]) (by simp[bt]) (by simp[bt])⟩
 · have e1:vq l=[]:=if_neg he
   rw[e1]
   have hne:(bI eL l != 0)=true:=by simpa using he
   refine aB.zU (m':=[]) (ak names (zS l (bI eL l) (iW l).length (bt (iW l))) ?_)
   simp only[yP,Tree.ok,hne,Bool.true_eq_false,false_implies,true_implies,and_true]
   exact h1
theorem zX {l:List Ins} (hw:so l) (hc:bZ l≤1000000):aB Tryd.prog env 16 [aL l] [] (.aO [.p (.ps (vq l).length 1 (bt (vq l))),sI .i64 (bI eL l)]) []:=by
 have aY:aJ=70368744177664:=rfl
 have MX:=eK l
 have hn:=jN l
 have rP:eX=1000000000000:=rfl
 have h1:=xe wX l (by omega)
 by_cases he:bI eL l=0
 · have e1:vq l=iW l++[11]:=if_pos he
   have h2:=(yK l hw (Jt he) hc).2
   rw[cM,dI] at h2
   rw[e1,he]
   rw[he] at h1
   refine aB.tS (tok:=some 0) (m':=[.tok]) (ak names (zT l 0 (iW l).length (bt (iW l))) ?_)
   simp only[yQ,Tree.ok,aY,Nat.ble_eq,Bool.and_eq_true,and_true,show((0:Int) != 0)=false from rfl,Bool.false_eq_true,false_implies,true_implies,true_and]
   exact⟨h1,h2,⟨by omega,by omega⟩,AY (by simp[bt]) (by simp[bt]) (by simp[bt])⟩
 · have e1:vq l=[]:=if_neg he
   rw[e1]
   have hne:(bI eL l != 0)=true:=by simpa using he
   refine aB.zU (m':=[]) (ak names (zT l (bI eL l) (iW l).length (bt (iW l))) ?_)
   simp only[yQ,Tree.ok,hne,Bool.true_eq_false,false_implies,true_implies,and_true]
   exact h1
theorem EF {l:List Ins} (lo:Int) (hw:so l) (hc:bZ l≤1000000):aB Tryd.prog env 17 [.agg [sI .i64 lo,aL l]] [] (.aO [.p (.ps (zV lo l).length 1 (bt (zV lo l))),sI .i64 (Dm lo l)]) []:=by
 have aY:aJ=70368744177664:=rfl
 have hl:=De (l:=l) hc
 have h1:=zW hw hc
 have hu:=jR 4 lo.toNat
 have t1:=EC lo l (bI eL l) (vq l).length (pU 4 lo.toNat).length (bt (vq l)) (bt (pU 4 lo.toNat))
 have rz : ∀e:Int,Dm lo l=e→e≠0→aB Tryd.prog env 17 [.agg [sI .i64 lo,aL l]] [] (.aO [.os none 0 0 [],sI .i64 e]) []→aB Tryd.prog env 17 [.agg [sI .i64 lo,aL l]] [] (.aO [.p (.ps (zV lo l).length 1 (bt (zV lo l))),sI .i64 (Dm lo l)]) []:=fun e h h0 k=>by
  have:zV lo l=[]:=if_neg (by rw[h];exact h0)
  rw[this,h];exact aB.zU k
 by_cases c1:lo<0
 · refine rz 2 (if_pos (.inl c1)) (by decide) (ak names t1 ?_)
   simp only[nC,Tree.ok,c1,decide_true,Bool.true_eq_false,false_implies,true_implies,and_true]
 · by_cases c2:lo>50000
   · refine rz 2 (if_pos (.inr c2)) (by decide) (ak names t1 ?_)
     simp only[nC,Tree.ok,c1,c2,decide_true,decide_false,Bool.true_eq_false,Bool.false_eq_true,false_implies,true_implies,and_true,true_and]
   · have e0:Dm lo l=bI eL l:=if_neg (by omega)
     by_cases he:bI eL l=0
     · have e1:zV lo l=(if lo=0 then[0] else(1::pU 4 lo.toNat)++[127])++vq l:=if_pos (by rw[e0,he])
       rw[e0,he,e1]
       rw[he] at h1 t1
       by_cases c3:lo=0
       · have d3:decide (lo>0)=false:=decide_eq_false (by omega)
         refine aB.tS (tok:=some 0) (m':=[.tok]) (ak names t1 ?_)
         simp only[nC,Tree.ok,c1,c2,d3,decide_true,decide_false,aY,Nat.ble_eq,Bool.and_eq_true,and_true,show((0:Int) != 0)=false from rfl,Bool.true_eq_false,Bool.false_eq_true,false_implies,true_implies,true_and]
         refine⟨h1,⟨by omega,by omega⟩,AY ?_ ?_ ?_⟩
         · simp[bt,c3]
         · simp[bt,c3];omega
         · simp[bt,c3]
       · have d3:decide (lo>0)=true:=decide_eq_true (by omega)
         have Hl:IntKind.u32.wrap lo=((lo.toNat:Nat):Int):=by rw[oa (by omega) (by omega)];omega
         refine aB.tS (tok:=some 0) (m':=[.tok]) (ak names t1 ?_)
         simp only[nC,Tree.ok,c1,c2,d3,decide_true,decide_false,aY,Hl,Nat.ble_eq,Bool.and_eq_true,and_true,show((0:Int) != 0)=false from rfl,Bool.true_eq_false,Bool.false_eq_true,false_implies,true_implies,true_and]
         refine⟨h1,tM lo.toNat (by omega),⟨by omega,by omega⟩,⟨by omega,by omega⟩,⟨by omega,by omega⟩,AY ?_ ?_ ?_⟩
         · simp[bt,c3]
         · simp[bt,c3];omega
         · simp[bt,c3]
     · have hne:(bI eL l != 0)=true:=by simpa using he
       refine rz _ e0 he (ak names t1 ?_)
       simp only[nC,Tree.ok,c1,c2,hne,decide_false,Bool.true_eq_false,Bool.false_eq_true,false_implies,true_implies,and_true,true_and]
       exact h1
theorem EG {l:List Ins} (lo:Int) (hw:so l) (hc:bZ l≤1000000):aB Tryd.prog env 18 [.agg [sI .i64 lo,aL l]] [] (.aO [.p (.ps (zV lo l).length 1 (bt (zV lo l))),sI .i64 (Dm lo l)]) []:=by
 have aY:aJ=70368744177664:=rfl
 have hl:=De (l:=l) hc
 have h1:=zX hw hc
 have hu:=jR 4 lo.toNat
 have t1:=ED lo l (bI eL l) (vq l).length (pU 4 lo.toNat).length (bt (vq l)) (bt (pU 4 lo.toNat))
 have rz : ∀e:Int,Dm lo l=e→e≠0→aB Tryd.prog env 18 [.agg [sI .i64 lo,aL l]] [] (.aO [.os none 0 0 [],sI .i64 e]) []→aB Tryd.prog env 18 [.agg [sI .i64 lo,aL l]] [] (.aO [.p (.ps (zV lo l).length 1 (bt (zV lo l))),sI .i64 (Dm lo l)]) []:=fun e h h0 k=>by
  have:zV lo l=[]:=if_neg (by rw[h];exact h0)
  rw[this,h];exact aB.zU k
 by_cases c1:lo<0
 · refine rz 2 (if_pos (.inl c1)) (by decide) (ak names t1 ?_)
   simp only[nD,Tree.ok,c1,decide_true,Bool.true_eq_false,false_implies,true_implies,and_true]
 · by_cases c2:lo>50000
   · refine rz 2 (if_pos (.inr c2)) (by decide) (ak names t1 ?_)
     simp only[nD,Tree.ok,c1,c2,decide_true,decide_false,Bool.true_eq_false,Bool.false_eq_true,false_implies,true_implies,and_true,true_and]
   · have e0:Dm lo l=bI eL l:=if_neg (by omega)
     by_cases he:bI eL l=0
     · have e1:zV lo l=(if lo=0 then[0] else(1::pU 4 lo.toNat)++[127])++vq l:=if_pos (by rw[e0,he])
       rw[e0,he,e1]
       rw[he] at h1 t1
       by_cases c3:lo=0
       · have d3:(lo==0)=true:=by rw[c3];rfl
         refine aB.tS (tok:=some 0) (m':=[.tok]) (ak names t1 ?_)
         simp only[nD,Tree.ok,c1,c2,d3,decide_true,decide_false,aY,Nat.ble_eq,Bool.and_eq_true,and_true,show((0:Int) != 0)=false from rfl,Bool.true_eq_false,Bool.false_eq_true,false_implies,true_implies,true_and]
         refine⟨h1,⟨by omega,by omega⟩,AY ?_ ?_ ?_⟩
         · simp[bt,c3]
         · simp[bt,c3];omega
         · simp[bt,c3]
       · have d3:(lo==0)=false:=by simpa using c3
         have Hl:IntKind.u32.wrap lo=((lo.toNat:Nat):Int):=by rw[oa (by omega) (by omega)];omega
         refine aB.tS (tok:=some 0) (m':=[.tok]) (ak names t1 ?_)
         simp only[nD,Tree.ok,c1,c2,d3,decide_true,decide_false,aY,Hl,Nat.ble_eq,Bool.and_eq_true,and_true,show((0:Int) != 0)=false from rfl,Bool.true_eq_false,Bool.false_eq_true,false_implies,true_implies,true_and]
         refine⟨h1,qZ lo.toNat (by omega),⟨by omega,by omega⟩,⟨by omega,by omega⟩,⟨by omega,by omega⟩,AY ?_ ?_ ?_⟩
         · simp[bt,c3]
         · simp[bt,c3];omega
         · simp[bt,c3]
     · have hne:(bI eL l != 0)=true:=by simpa using he
       refine rz _ e0 he (ak names t1 ?_)
       simp only[nD,Tree.ok,c1,c2,hne,decide_false,Bool.true_eq_false,Bool.false_eq_true,false_implies,true_implies,and_true,true_and]
       exact h1
theorem zY (l:List Nat):aB Tryd.prog env 19 [.p (.ps l.length 1 (bt l)),.p (.ps l.length 1 (bt l))] [] (sB true) []:=by
 have h:=yO (l.map fun(c:Nat)=>(c:Int))
 rw[List.length_map,show bL .u8 (l.map fun(c:Nat)=>(c:Int))=bt l by simp[bL,bt]] at h
 exact h
theorem Dp (lo:Int) (l:List Ins) (hl:l.length≤maxLen) (hw:so l):aB Tryd.prog env 5 [.agg [sI .i64 lo,aL l]] [] (sB true) []:=by
 have vr:=jT (bZ l) l 2000 (Nat.le_refl _) hl hw (by decide) (by decide)
 refine ak names (EE lo l (dL l 2000 0) (bI eL l) (Dm lo l) (vq l).length (zV lo l).length (bt (vq l)) (bt (zV lo l))) ?_
 simp only[Dd,Tree.ok,implies_true,true_and,and_true]
 refine⟨vr,fun h1=> ?_⟩
 have h1:dL l 2000 0≤2000:=by simp only[decide_eq_false_iff_not] at h1;omega
 have c1:=mH l 2000 0 (by decide) (by decide) h1
 have hc:bZ l≤1000000:=by omega
 refine⟨nB _ l (Nat.le_refl _) hc,zW hw hc,zX hw hc,EF lo hw hc,EG lo hw hc,zY _,fun _=>⟨zY _,fun _=>⟨lH _ l (Nat.le_refl _) hc,yL⟩,fun h=> ?_⟩,fun h=> ?_⟩
 · simp at h
 · simp at h
end Go.Proofs.YtddfgnmjecogdaaDoor.N
end
section
namespace Go.Proofs.YtddfgnmjecogdaaDoor.N
open Go Go.Am
def jW:List (String×DataW Unit):=Rows.bodyPutsRow.laid
theorem sq {W:World} (h:laidMetH Tryd.prog jW W):gp tabs W:=by
 rw[MakeChecks.laidMetH_plain _ _ _ (by kernel_rfl)] at h
 exact sk (wN (n:=256) (t:=125) (e:=5) (k:= .u8) (zs:=Ch) (Lib.laidMet.reads h (n:= "strings.asciiSpace") (d:=Rows.laid_strings_asciiSpace) (.tail _ (.head _))) (by kernel_rfl) (by kernel_rfl) (by kernel_rfl) (by kernel_rfl) (by kernel_rfl) (by kernel_rfl) (Nat.le_of_ble_eq_true (by kernel_rfl)))
  (uZ)
end Go.Proofs.YtddfgnmjecogdaaDoor.N
end
section
namespace Go.Am
open Go.RowKit
section
variable {H:Type} {enc:TypeId×Value→H} {P:Program} {w:World} {base:Nat} {spare:Nat→Bool} {held:Bool} {tL tI ti tu tn tt:TypeId} {fs:Array Field}
theorem rA {g:Gh} {w:World} : ∀{l:List PV} {cs:List Value},vJ g w l cs→bM g w (l.map .p) cs
 |[],[],_=>trivial
 |_::_,_::_,h=>⟨.p _ _ h.1,rA h.2⟩
 |[],_::_,h=>h.elim
 |_::_,[],h=>h.elim
end
end Go.Am
end
section
namespace Go.Am
open Go.RowKit
section
variable {H:Type} {enc:TypeId×Value→H} {P:Program} {w:World} {base:Nat} {spare:Nat→Bool} {held:Bool}
theorem rE {t t1 t2:TypeId} {fs:Array Field} (ht:P.underlying t=some (.struct fs)) (hz:P.cellsOf t=2) (hf:(fs.toList.map fun f=>(f.offset,f.type))=[(0,t1),(1,t2)]) (h1:P.cellsOf t1=1) (h2:P.cellsOf t2=1)
  {fuel:Nat} {cs:List Value} {x:DataW H×List MemPlace} (h:DataW.trod enc P w base spare held fuel t cs=some x) :
  ∃u0 u1 m y0 y1,cs=[u0,u1]∧DataW.trod enc P w base spare held m t1 [u0]=some y0∧DataW.trod enc P w base spare held m t2 [u1]=some y1:=by
 obtain⟨m,rfl,hlen,hg⟩:=iR ht h
 rw[hz] at hlen
 have get : ∀(i:Nat) (o t:Nat),[(0,t1),(1,t2)][i]? = some (o,t)→P.cellsOf t=1 → ∃y,DataW.trod enc P w base spare held m t ((cs.drop o).take 1)=some y:=by
  intro i o t hi hc
  obtain⟨f,q1,q2,q3⟩:=LD (fs:=fs) (i:=i) (by rw[hf];exact hi)
  obtain⟨y,hy⟩:=hg i f q1
  rw[q2,q3,hc] at hy
  exact⟨y,hy⟩
 obtain⟨y0,e0⟩:=get 0 0 t1 rfl h1
 obtain⟨y1,e1⟩:=get 1 1 t2 rfl h2
 match cs,hlen with
 |[u0,u1],_=>exact⟨u0,u1,m,y0,y1,rfl,e0,e1⟩
theorem E2 {g:Gh} {w:World} {l:List PV} {cs:Array Value} (h:vJ g w l cs.toList):VA g w (.agg (l.map .p)) (.agg cs):=by
 rw[VA.uk]
 exact rA h
end
end Go.Am
end
