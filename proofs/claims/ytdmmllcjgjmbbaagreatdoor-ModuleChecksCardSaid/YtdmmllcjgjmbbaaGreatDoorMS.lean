/-
gimletkit.CopyInstrs: what is told is what it was.
A loop's head, where a struct's lists are told as pure lists and the rights to their spare room are left.
-/
import Derived.Test.YtdmmllcjgjmbbaaGreatDoorMR
import Derived.Test.YtdmmllcjgjmbbaaGreatDoorML
section
set_option linter.unusedSimpArgs false
set_option linter.unusedVariables false
namespace Go.Proofs.YtdmmllcjgjmbbaaGreatDoor.N
open Go Go.Am
def FY (f:FuncId) (args:List AV) (m:Mem):Option (AV×Mem):=cond (Nat.beq f 24) (match args with | [v]=>some (v,m) | _=>none) none
def U7:bu:=aK av az [(24,0)] [] []
def YN:Sc:= .fin
noncomputable def PW (l:List Ins):Tree:=
 (.at (af Tryz.prog env 24 0 [AV.p (PV.ps l.length 8 (ak l)),AV.os Option.none 0 0 [],AV.p (PV.sc (Value.int IntKind.i64 0))] ([]) 0 34))
theorem Cw (l:List Ins):aR Tryz.prog env U7 1000000 24 ([aL l]) ([]) YN=PW l:=by kernel_rfl
def PX:bu:=aK FY az [(24,0)] [(24,0,1)] [(24,6,2),(24,6,3),(24,7,3)]
def U8:Sc:= .fin
noncomputable def vp (l:List Ins) (i:Int):Tree:=
 (.test (decide (i<(↑l.length:Int)))
  (.must (aG i l.length&&true&&true)
   (.must (isInt IntKind.i64 ((ak l).getD (i.toNat*8) PV.bad)&&(isInt IntKind.i64 ((ak l).getD (i.toNat*8+1) PV.bad)&&(isInt IntKind.u32 ((ak l).getD (i.toNat*8+1+1) PV.bad)&&(isInt IntKind.u32 ((ak l).getD (i.toNat*8+1+1+1) PV.bad)&&(isInt IntKind.i32 ((ak l).getD (i.toNat*8+1+1+1+1) PV.bad)&&(aH ((ak l).getD (i.toNat*8+1+1+1+1+1) PV.bad)&&(aH ((ak l).getD (i.toNat*8+1+1+1+1+1+1) PV.bad)&&(aH ((ak l).getD (i.toNat*8+1+1+1+1+1+1+1) PV.bad)&&true)))))))&&true)
    (.must (((aA (PV.ps (aq ((ak l).getD (i.toNat*8+1+1+1+1+1) PV.bad)) (aA ((ak l).getD (i.toNat*8+1+1+1+1+1) PV.bad)) (aj ((ak l).getD (i.toNat*8+1+1+1+1+1) PV.bad)))).beq 1||(aq (PV.ps (aq ((ak l).getD (i.toNat*8+1+1+1+1+1) PV.bad)) (aA ((ak l).getD (i.toNat*8+1+1+1+1+1) PV.bad)) (aj ((ak l).getD (i.toNat*8+1+1+1+1+1) PV.bad)))).beq 0&&Nat.ble 1 1)&&true&&true&&true&&((0+aq (PV.ps (aq ((ak l).getD (i.toNat*8+1+1+1+1+1) PV.bad)) (aA ((ak l).getD (i.toNat*8+1+1+1+1+1) PV.bad)) (aj ((ak l).getD (i.toNat*8+1+1+1+1+1) PV.bad))))*4).ble dh&&(0+aq (PV.ps (aq ((ak l).getD (i.toNat*8+1+1+1+1+1) PV.bad)) (aA ((ak l).getD (i.toNat*8+1+1+1+1+1) PV.bad)) (aj ((ak l).getD (i.toNat*8+1+1+1+1+1) PV.bad)))).ble dh&&true)
     (.call ⟨24,[AV.p (PV.ps (aq (PV.ps (aq ((ak l).getD (i.toNat*8+1+1+1+1+1+1) PV.bad)) (aA ((ak l).getD (i.toNat*8+1+1+1+1+1+1) PV.bad)) (aj ((ak l).getD (i.toNat*8+1+1+1+1+1+1) PV.bad)))) (aA (PV.ps (aq ((ak l).getD (i.toNat*8+1+1+1+1+1+1) PV.bad)) (aA ((ak l).getD (i.toNat*8+1+1+1+1+1+1) PV.bad)) (aj ((ak l).getD (i.toNat*8+1+1+1+1+1+1) PV.bad)))) (aj (PV.ps (aq ((ak l).getD (i.toNat*8+1+1+1+1+1+1) PV.bad)) (aA ((ak l).getD (i.toNat*8+1+1+1+1+1+1) PV.bad)) (aj ((ak l).getD (i.toNat*8+1+1+1+1+1+1) PV.bad)))))],[],AV.p (PV.ps (aq (PV.ps (aq ((ak l).getD (i.toNat*8+1+1+1+1+1+1) PV.bad)) (aA ((ak l).getD (i.toNat*8+1+1+1+1+1+1) PV.bad)) (aj ((ak l).getD (i.toNat*8+1+1+1+1+1+1) PV.bad)))) (aA (PV.ps (aq ((ak l).getD (i.toNat*8+1+1+1+1+1+1) PV.bad)) (aA ((ak l).getD (i.toNat*8+1+1+1+1+1+1) PV.bad)) (aj ((ak l).getD (i.toNat*8+1+1+1+1+1+1) PV.bad)))) (aj (PV.ps (aq ((ak l).getD (i.toNat*8+1+1+1+1+1+1) PV.bad)) (aA ((ak l).getD (i.toNat*8+1+1+1+1+1+1) PV.bad)) (aj ((ak l).getD (i.toNat*8+1+1+1+1+1+1) PV.bad))))),[]⟩
      (.call ⟨24,[AV.p (PV.ps (aq (PV.ps (aq ((ak l).getD (i.toNat*8+1+1+1+1+1+1+1) PV.bad)) (aA ((ak l).getD (i.toNat*8+1+1+1+1+1+1+1) PV.bad)) (aj ((ak l).getD (i.toNat*8+1+1+1+1+1+1+1) PV.bad)))) (aA (PV.ps (aq ((ak l).getD (i.toNat*8+1+1+1+1+1+1+1) PV.bad)) (aA ((ak l).getD (i.toNat*8+1+1+1+1+1+1+1) PV.bad)) (aj ((ak l).getD (i.toNat*8+1+1+1+1+1+1+1) PV.bad)))) (aj (PV.ps (aq ((ak l).getD (i.toNat*8+1+1+1+1+1+1+1) PV.bad)) (aA ((ak l).getD (i.toNat*8+1+1+1+1+1+1+1) PV.bad)) (aj ((ak l).getD (i.toNat*8+1+1+1+1+1+1+1) PV.bad)))))],[],AV.p (PV.ps (aq (PV.ps (aq ((ak l).getD (i.toNat*8+1+1+1+1+1+1+1) PV.bad)) (aA ((ak l).getD (i.toNat*8+1+1+1+1+1+1+1) PV.bad)) (aj ((ak l).getD (i.toNat*8+1+1+1+1+1+1+1) PV.bad)))) (aA (PV.ps (aq ((ak l).getD (i.toNat*8+1+1+1+1+1+1+1) PV.bad)) (aA ((ak l).getD (i.toNat*8+1+1+1+1+1+1+1) PV.bad)) (aj ((ak l).getD (i.toNat*8+1+1+1+1+1+1+1) PV.bad)))) (aj (PV.ps (aq ((ak l).getD (i.toNat*8+1+1+1+1+1+1+1) PV.bad)) (aA ((ak l).getD (i.toNat*8+1+1+1+1+1+1+1) PV.bad)) (aj ((ak l).getD (i.toNat*8+1+1+1+1+1+1+1) PV.bad))))),[]⟩
       (.at (af Tryz.prog env 24 0 [AV.p (PV.ps l.length 8 (ak l)),AV.os (Option.some 0) 1 8 [PV.sc (Value.int IntKind.i64 (au (PV.sc (Value.int IntKind.i64 (au ((ak l).getD (i.toNat*8) PV.bad)))))),PV.sc (Value.int IntKind.i64 (au (PV.sc (Value.int IntKind.i64 (au ((ak l).getD (i.toNat*8+1) PV.bad)))))),PV.sc (Value.int IntKind.u32 (au (PV.sc (Value.int IntKind.u32 (au ((ak l).getD (i.toNat*8+1+1) PV.bad)))))),PV.sc (Value.int IntKind.u32 (au (PV.sc (Value.int IntKind.u32 (au ((ak l).getD (i.toNat*8+1+1+1) PV.bad)))))),PV.sc (Value.int IntKind.i32 (au (PV.sc (Value.int IntKind.i32 (au ((ak l).getD (i.toNat*8+1+1+1+1) PV.bad)))))),PV.ps (0+aq (PV.ps (aq ((ak l).getD (i.toNat*8+1+1+1+1+1) PV.bad)) (aA ((ak l).getD (i.toNat*8+1+1+1+1+1) PV.bad)) (aj ((ak l).getD (i.toNat*8+1+1+1+1+1) PV.bad)))) 1 ([]++aj (PV.ps (aq ((ak l).getD (i.toNat*8+1+1+1+1+1) PV.bad)) (aA ((ak l).getD (i.toNat*8+1+1+1+1+1) PV.bad)) (aj ((ak l).getD (i.toNat*8+1+1+1+1+1) PV.bad)))),PV.ps (aq (PV.ps (aq (PV.ps (aq ((ak l).getD (i.toNat*8+1+1+1+1+1+1) PV.bad)) (aA ((ak l).getD (i.toNat*8+1+1+1+1+1+1) PV.bad)) (aj ((ak l).getD (i.toNat*8+1+1+1+1+1+1) PV.bad)))) (aA (PV.ps (aq ((ak l).getD (i.toNat*8+1+1+1+1+1+1) PV.bad)) (aA ((ak l).getD (i.toNat*8+1+1+1+1+1+1) PV.bad)) (aj ((ak l).getD (i.toNat*8+1+1+1+1+1+1) PV.bad)))) (aj (PV.ps (aq ((ak l).getD (i.toNat*8+1+1+1+1+1+1) PV.bad)) (aA ((ak l).getD (i.toNat*8+1+1+1+1+1+1) PV.bad)) (aj ((ak l).getD (i.toNat*8+1+1+1+1+1+1) PV.bad)))))) (aA (PV.ps (aq (PV.ps (aq ((ak l).getD (i.toNat*8+1+1+1+1+1+1) PV.bad)) (aA ((ak l).getD (i.toNat*8+1+1+1+1+1+1) PV.bad)) (aj ((ak l).getD (i.toNat*8+1+1+1+1+1+1) PV.bad)))) (aA (PV.ps (aq ((ak l).getD (i.toNat*8+1+1+1+1+1+1) PV.bad)) (aA ((ak l).getD (i.toNat*8+1+1+1+1+1+1) PV.bad)) (aj ((ak l).getD (i.toNat*8+1+1+1+1+1+1) PV.bad)))) (aj (PV.ps (aq ((ak l).getD (i.toNat*8+1+1+1+1+1+1) PV.bad)) (aA ((ak l).getD (i.toNat*8+1+1+1+1+1+1) PV.bad)) (aj ((ak l).getD (i.toNat*8+1+1+1+1+1+1) PV.bad)))))) (aj (PV.ps (aq (PV.ps (aq ((ak l).getD (i.toNat*8+1+1+1+1+1+1) PV.bad)) (aA ((ak l).getD (i.toNat*8+1+1+1+1+1+1) PV.bad)) (aj ((ak l).getD (i.toNat*8+1+1+1+1+1+1) PV.bad)))) (aA (PV.ps (aq ((ak l).getD (i.toNat*8+1+1+1+1+1+1) PV.bad)) (aA ((ak l).getD (i.toNat*8+1+1+1+1+1+1) PV.bad)) (aj ((ak l).getD (i.toNat*8+1+1+1+1+1+1) PV.bad)))) (aj (PV.ps (aq ((ak l).getD (i.toNat*8+1+1+1+1+1+1) PV.bad)) (aA ((ak l).getD (i.toNat*8+1+1+1+1+1+1) PV.bad)) (aj ((ak l).getD (i.toNat*8+1+1+1+1+1+1) PV.bad)))))),PV.ps (aq (PV.ps (aq (PV.ps (aq ((ak l).getD (i.toNat*8+1+1+1+1+1+1+1) PV.bad)) (aA ((ak l).getD (i.toNat*8+1+1+1+1+1+1+1) PV.bad)) (aj ((ak l).getD (i.toNat*8+1+1+1+1+1+1+1) PV.bad)))) (aA (PV.ps (aq ((ak l).getD (i.toNat*8+1+1+1+1+1+1+1) PV.bad)) (aA ((ak l).getD (i.toNat*8+1+1+1+1+1+1+1) PV.bad)) (aj ((ak l).getD (i.toNat*8+1+1+1+1+1+1+1) PV.bad)))) (aj (PV.ps (aq ((ak l).getD (i.toNat*8+1+1+1+1+1+1+1) PV.bad)) (aA ((ak l).getD (i.toNat*8+1+1+1+1+1+1+1) PV.bad)) (aj ((ak l).getD (i.toNat*8+1+1+1+1+1+1+1) PV.bad)))))) (aA (PV.ps (aq (PV.ps (aq ((ak l).getD (i.toNat*8+1+1+1+1+1+1+1) PV.bad)) (aA ((ak l).getD (i.toNat*8+1+1+1+1+1+1+1) PV.bad)) (aj ((ak l).getD (i.toNat*8+1+1+1+1+1+1+1) PV.bad)))) (aA (PV.ps (aq ((ak l).getD (i.toNat*8+1+1+1+1+1+1+1) PV.bad)) (aA ((ak l).getD (i.toNat*8+1+1+1+1+1+1+1) PV.bad)) (aj ((ak l).getD (i.toNat*8+1+1+1+1+1+1+1) PV.bad)))) (aj (PV.ps (aq ((ak l).getD (i.toNat*8+1+1+1+1+1+1+1) PV.bad)) (aA ((ak l).getD (i.toNat*8+1+1+1+1+1+1+1) PV.bad)) (aj ((ak l).getD (i.toNat*8+1+1+1+1+1+1+1) PV.bad)))))) (aj (PV.ps (aq (PV.ps (aq ((ak l).getD (i.toNat*8+1+1+1+1+1+1+1) PV.bad)) (aA ((ak l).getD (i.toNat*8+1+1+1+1+1+1+1) PV.bad)) (aj ((ak l).getD (i.toNat*8+1+1+1+1+1+1+1) PV.bad)))) (aA (PV.ps (aq ((ak l).getD (i.toNat*8+1+1+1+1+1+1+1) PV.bad)) (aA ((ak l).getD (i.toNat*8+1+1+1+1+1+1+1) PV.bad)) (aj ((ak l).getD (i.toNat*8+1+1+1+1+1+1+1) PV.bad)))) (aj (PV.ps (aq ((ak l).getD (i.toNat*8+1+1+1+1+1+1+1) PV.bad)) (aA ((ak l).getD (i.toNat*8+1+1+1+1+1+1+1) PV.bad)) (aj ((ak l).getD (i.toNat*8+1+1+1+1+1+1+1) PV.bad))))))],AV.p (PV.sc (Value.int IntKind.i64 (IntKind.i64.wrap (i+1))))] ([bg.tok]) 0 34)))))))
  (.out (Out.ret (AV.os Option.none 0 0 []) [])))
theorem yT (l:List Ins) (i:Int):grow Tryz.prog env PX 1000000 true (af Tryz.prog env 24 0 ([aL l,AV.os Option.none 0 0 [],sI IntKind.i64 i]) ([]) 0 34) U8 atEnd=vp l i:=by kernel_rfl
def PY:bu:=aK FY az [(24,0)] [(24,0,1)] [(24,6,2),(24,6,3),(24,7,3),(24,10,3)]
def U9:Sc:= .fin
noncomputable def vq (l:List Ins) (k:Nat) (cs:List PV) (i:Int):Tree:=
 (.test (decide (i<(↑l.length:Int)))
  (.must (aG i l.length&&true&&true)
   (.must (isInt IntKind.i64 ((ak l).getD (i.toNat*8) PV.bad)&&(isInt IntKind.i64 ((ak l).getD (i.toNat*8+1) PV.bad)&&(isInt IntKind.u32 ((ak l).getD (i.toNat*8+1+1) PV.bad)&&(isInt IntKind.u32 ((ak l).getD (i.toNat*8+1+1+1) PV.bad)&&(isInt IntKind.i32 ((ak l).getD (i.toNat*8+1+1+1+1) PV.bad)&&(aH ((ak l).getD (i.toNat*8+1+1+1+1+1) PV.bad)&&(aH ((ak l).getD (i.toNat*8+1+1+1+1+1+1) PV.bad)&&(aH ((ak l).getD (i.toNat*8+1+1+1+1+1+1+1) PV.bad)&&true)))))))&&true)
    (.must (((aA (PV.ps (aq ((ak l).getD (i.toNat*8+1+1+1+1+1) PV.bad)) (aA ((ak l).getD (i.toNat*8+1+1+1+1+1) PV.bad)) (aj ((ak l).getD (i.toNat*8+1+1+1+1+1) PV.bad)))).beq 1||(aq (PV.ps (aq ((ak l).getD (i.toNat*8+1+1+1+1+1) PV.bad)) (aA ((ak l).getD (i.toNat*8+1+1+1+1+1) PV.bad)) (aj ((ak l).getD (i.toNat*8+1+1+1+1+1) PV.bad)))).beq 0&&Nat.ble 1 1)&&true&&true&&true&&((0+aq (PV.ps (aq ((ak l).getD (i.toNat*8+1+1+1+1+1) PV.bad)) (aA ((ak l).getD (i.toNat*8+1+1+1+1+1) PV.bad)) (aj ((ak l).getD (i.toNat*8+1+1+1+1+1) PV.bad))))*4).ble dh&&(0+aq (PV.ps (aq ((ak l).getD (i.toNat*8+1+1+1+1+1) PV.bad)) (aA ((ak l).getD (i.toNat*8+1+1+1+1+1) PV.bad)) (aj ((ak l).getD (i.toNat*8+1+1+1+1+1) PV.bad)))).ble dh&&true)
     (.call ⟨24,[AV.p (PV.ps (aq (PV.ps (aq ((ak l).getD (i.toNat*8+1+1+1+1+1+1) PV.bad)) (aA ((ak l).getD (i.toNat*8+1+1+1+1+1+1) PV.bad)) (aj ((ak l).getD (i.toNat*8+1+1+1+1+1+1) PV.bad)))) (aA (PV.ps (aq ((ak l).getD (i.toNat*8+1+1+1+1+1+1) PV.bad)) (aA ((ak l).getD (i.toNat*8+1+1+1+1+1+1) PV.bad)) (aj ((ak l).getD (i.toNat*8+1+1+1+1+1+1) PV.bad)))) (aj (PV.ps (aq ((ak l).getD (i.toNat*8+1+1+1+1+1+1) PV.bad)) (aA ((ak l).getD (i.toNat*8+1+1+1+1+1+1) PV.bad)) (aj ((ak l).getD (i.toNat*8+1+1+1+1+1+1) PV.bad)))))],[],AV.p (PV.ps (aq (PV.ps (aq ((ak l).getD (i.toNat*8+1+1+1+1+1+1) PV.bad)) (aA ((ak l).getD (i.toNat*8+1+1+1+1+1+1) PV.bad)) (aj ((ak l).getD (i.toNat*8+1+1+1+1+1+1) PV.bad)))) (aA (PV.ps (aq ((ak l).getD (i.toNat*8+1+1+1+1+1+1) PV.bad)) (aA ((ak l).getD (i.toNat*8+1+1+1+1+1+1) PV.bad)) (aj ((ak l).getD (i.toNat*8+1+1+1+1+1+1) PV.bad)))) (aj (PV.ps (aq ((ak l).getD (i.toNat*8+1+1+1+1+1+1) PV.bad)) (aA ((ak l).getD (i.toNat*8+1+1+1+1+1+1) PV.bad)) (aj ((ak l).getD (i.toNat*8+1+1+1+1+1+1) PV.bad))))),[]⟩
      (.call ⟨24,[AV.p (PV.ps (aq (PV.ps (aq ((ak l).getD (i.toNat*8+1+1+1+1+1+1+1) PV.bad)) (aA ((ak l).getD (i.toNat*8+1+1+1+1+1+1+1) PV.bad)) (aj ((ak l).getD (i.toNat*8+1+1+1+1+1+1+1) PV.bad)))) (aA (PV.ps (aq ((ak l).getD (i.toNat*8+1+1+1+1+1+1+1) PV.bad)) (aA ((ak l).getD (i.toNat*8+1+1+1+1+1+1+1) PV.bad)) (aj ((ak l).getD (i.toNat*8+1+1+1+1+1+1+1) PV.bad)))) (aj (PV.ps (aq ((ak l).getD (i.toNat*8+1+1+1+1+1+1+1) PV.bad)) (aA ((ak l).getD (i.toNat*8+1+1+1+1+1+1+1) PV.bad)) (aj ((ak l).getD (i.toNat*8+1+1+1+1+1+1+1) PV.bad)))))],[],AV.p (PV.ps (aq (PV.ps (aq ((ak l).getD (i.toNat*8+1+1+1+1+1+1+1) PV.bad)) (aA ((ak l).getD (i.toNat*8+1+1+1+1+1+1+1) PV.bad)) (aj ((ak l).getD (i.toNat*8+1+1+1+1+1+1+1) PV.bad)))) (aA (PV.ps (aq ((ak l).getD (i.toNat*8+1+1+1+1+1+1+1) PV.bad)) (aA ((ak l).getD (i.toNat*8+1+1+1+1+1+1+1) PV.bad)) (aj ((ak l).getD (i.toNat*8+1+1+1+1+1+1+1) PV.bad)))) (aj (PV.ps (aq ((ak l).getD (i.toNat*8+1+1+1+1+1+1+1) PV.bad)) (aA ((ak l).getD (i.toNat*8+1+1+1+1+1+1+1) PV.bad)) (aj ((ak l).getD (i.toNat*8+1+1+1+1+1+1+1) PV.bad))))),[]⟩
       (.must (((k+1)*104).ble dh&&(k+1).ble dh&&true)
        (.at (af Tryz.prog env 24 0 [AV.p (PV.ps l.length 8 (ak l)),AV.os (Option.some 0) (k+1) 8 (cs++[PV.sc (Value.int IntKind.i64 (au (PV.sc (Value.int IntKind.i64 (au ((ak l).getD (i.toNat*8) PV.bad)))))),PV.sc (Value.int IntKind.i64 (au (PV.sc (Value.int IntKind.i64 (au ((ak l).getD (i.toNat*8+1) PV.bad)))))),PV.sc (Value.int IntKind.u32 (au (PV.sc (Value.int IntKind.u32 (au ((ak l).getD (i.toNat*8+1+1) PV.bad)))))),PV.sc (Value.int IntKind.u32 (au (PV.sc (Value.int IntKind.u32 (au ((ak l).getD (i.toNat*8+1+1+1) PV.bad)))))),PV.sc (Value.int IntKind.i32 (au (PV.sc (Value.int IntKind.i32 (au ((ak l).getD (i.toNat*8+1+1+1+1) PV.bad)))))),PV.ps (0+aq (PV.ps (aq ((ak l).getD (i.toNat*8+1+1+1+1+1) PV.bad)) (aA ((ak l).getD (i.toNat*8+1+1+1+1+1) PV.bad)) (aj ((ak l).getD (i.toNat*8+1+1+1+1+1) PV.bad)))) 1 ([]++aj (PV.ps (aq ((ak l).getD (i.toNat*8+1+1+1+1+1) PV.bad)) (aA ((ak l).getD (i.toNat*8+1+1+1+1+1) PV.bad)) (aj ((ak l).getD (i.toNat*8+1+1+1+1+1) PV.bad)))),PV.ps (aq (PV.ps (aq (PV.ps (aq ((ak l).getD (i.toNat*8+1+1+1+1+1+1) PV.bad)) (aA ((ak l).getD (i.toNat*8+1+1+1+1+1+1) PV.bad)) (aj ((ak l).getD (i.toNat*8+1+1+1+1+1+1) PV.bad)))) (aA (PV.ps (aq ((ak l).getD (i.toNat*8+1+1+1+1+1+1) PV.bad)) (aA ((ak l).getD (i.toNat*8+1+1+1+1+1+1) PV.bad)) (aj ((ak l).getD (i.toNat*8+1+1+1+1+1+1) PV.bad)))) (aj (PV.ps (aq ((ak l).getD (i.toNat*8+1+1+1+1+1+1) PV.bad)) (aA ((ak l).getD (i.toNat*8+1+1+1+1+1+1) PV.bad)) (aj ((ak l).getD (i.toNat*8+1+1+1+1+1+1) PV.bad)))))) (aA (PV.ps (aq (PV.ps (aq ((ak l).getD (i.toNat*8+1+1+1+1+1+1) PV.bad)) (aA ((ak l).getD (i.toNat*8+1+1+1+1+1+1) PV.bad)) (aj ((ak l).getD (i.toNat*8+1+1+1+1+1+1) PV.bad)))) (aA (PV.ps (aq ((ak l).getD (i.toNat*8+1+1+1+1+1+1) PV.bad)) (aA ((ak l).getD (i.toNat*8+1+1+1+1+1+1) PV.bad)) (aj ((ak l).getD (i.toNat*8+1+1+1+1+1+1) PV.bad)))) (aj (PV.ps (aq ((ak l).getD (i.toNat*8+1+1+1+1+1+1) PV.bad)) (aA ((ak l).getD (i.toNat*8+1+1+1+1+1+1) PV.bad)) (aj ((ak l).getD (i.toNat*8+1+1+1+1+1+1) PV.bad)))))) (aj (PV.ps (aq (PV.ps (aq ((ak l).getD (i.toNat*8+1+1+1+1+1+1) PV.bad)) (aA ((ak l).getD (i.toNat*8+1+1+1+1+1+1) PV.bad)) (aj ((ak l).getD (i.toNat*8+1+1+1+1+1+1) PV.bad)))) (aA (PV.ps (aq ((ak l).getD (i.toNat*8+1+1+1+1+1+1) PV.bad)) (aA ((ak l).getD (i.toNat*8+1+1+1+1+1+1) PV.bad)) (aj ((ak l).getD (i.toNat*8+1+1+1+1+1+1) PV.bad)))) (aj (PV.ps (aq ((ak l).getD (i.toNat*8+1+1+1+1+1+1) PV.bad)) (aA ((ak l).getD (i.toNat*8+1+1+1+1+1+1) PV.bad)) (aj ((ak l).getD (i.toNat*8+1+1+1+1+1+1) PV.bad)))))),PV.ps (aq (PV.ps (aq (PV.ps (aq ((ak l).getD (i.toNat*8+1+1+1+1+1+1+1) PV.bad)) (aA ((ak l).getD (i.toNat*8+1+1+1+1+1+1+1) PV.bad)) (aj ((ak l).getD (i.toNat*8+1+1+1+1+1+1+1) PV.bad)))) (aA (PV.ps (aq ((ak l).getD (i.toNat*8+1+1+1+1+1+1+1) PV.bad)) (aA ((ak l).getD (i.toNat*8+1+1+1+1+1+1+1) PV.bad)) (aj ((ak l).getD (i.toNat*8+1+1+1+1+1+1+1) PV.bad)))) (aj (PV.ps (aq ((ak l).getD (i.toNat*8+1+1+1+1+1+1+1) PV.bad)) (aA ((ak l).getD (i.toNat*8+1+1+1+1+1+1+1) PV.bad)) (aj ((ak l).getD (i.toNat*8+1+1+1+1+1+1+1) PV.bad)))))) (aA (PV.ps (aq (PV.ps (aq ((ak l).getD (i.toNat*8+1+1+1+1+1+1+1) PV.bad)) (aA ((ak l).getD (i.toNat*8+1+1+1+1+1+1+1) PV.bad)) (aj ((ak l).getD (i.toNat*8+1+1+1+1+1+1+1) PV.bad)))) (aA (PV.ps (aq ((ak l).getD (i.toNat*8+1+1+1+1+1+1+1) PV.bad)) (aA ((ak l).getD (i.toNat*8+1+1+1+1+1+1+1) PV.bad)) (aj ((ak l).getD (i.toNat*8+1+1+1+1+1+1+1) PV.bad)))) (aj (PV.ps (aq ((ak l).getD (i.toNat*8+1+1+1+1+1+1+1) PV.bad)) (aA ((ak l).getD (i.toNat*8+1+1+1+1+1+1+1) PV.bad)) (aj ((ak l).getD (i.toNat*8+1+1+1+1+1+1+1) PV.bad)))))) (aj (PV.ps (aq (PV.ps (aq ((ak l).getD (i.toNat*8+1+1+1+1+1+1+1) PV.bad)) (aA ((ak l).getD (i.toNat*8+1+1+1+1+1+1+1) PV.bad)) (aj ((ak l).getD (i.toNat*8+1+1+1+1+1+1+1) PV.bad)))) (aA (PV.ps (aq ((ak l).getD (i.toNat*8+1+1+1+1+1+1+1) PV.bad)) (aA ((ak l).getD (i.toNat*8+1+1+1+1+1+1+1) PV.bad)) (aj ((ak l).getD (i.toNat*8+1+1+1+1+1+1+1) PV.bad)))) (aj (PV.ps (aq ((ak l).getD (i.toNat*8+1+1+1+1+1+1+1) PV.bad)) (aA ((ak l).getD (i.toNat*8+1+1+1+1+1+1+1) PV.bad)) (aj ((ak l).getD (i.toNat*8+1+1+1+1+1+1+1) PV.bad))))))]),AV.p (PV.sc (Value.int IntKind.i64 (IntKind.i64.wrap (i+1))))] ([bg.tok]) 0 34))))))))
  (.out (Out.ret (AV.os (Option.some 0) k 8 cs) [bg.tok])))
theorem yU (l:List Ins) (k:Nat) (cs:List PV) (i:Int):grow Tryz.prog env PY 1000000 true (af Tryz.prog env 24 0 ([aL l,AV.os (Option.some 0) k 8 cs,sI IntKind.i64 i]) ([bg.tok]) 0 34) U9 atEnd=vq l k cs i:=by kernel_rfl
theorem HK (l:List Ins) (hc:dU l≤1000000) (IH : ∀x∈l,aC Tryz.prog env 24 [aL x.l] [] (aL x.l) []∧aC Tryz.prog env 24 [aL x.e] [] (aL x.e) []) :
  ∀(r k:Nat),k+r=l.length→Am.Good Tryz.prog env (af Tryz.prog env 24 0 [aL l,.os (some 0) k 8 (ak (l.take k)),sI .i64 k] [.tok] 0 34) (.ret (.os (some 0) l.length 8 (ak l)) [.tok]):=by
 intro r
 induction r with
 |zero=>
  intro k hk
  refine aa names (yU l k (ak (l.take k)) k) ?_
  have h2 : ¬((k:Int)<l.length):=by omega
  have h3:k=l.length:=by omega
  subst h3
  simp[vq,Tree.ok]
 |succ r ih=>
  intro k hk
  refine aa names (yU l k (ak (l.take k)) k) ?_
  have kK:k<l.length:=by omega
  have DD:l[k]? = some l[k]:=List.getElem?_eq_getElem kK
  have hmem:l[k]∈l:=List.getElem_mem kK
  have ht:l.take (k+1)=l.take k++[l[k]]:=List.take_succ_eq_append_getElem kK
  have ih:=ih (k+1) (by omega)
  rw[ht,qO,JA] at ih
  generalize l[k]=x at *
  obtain⟨op,rs,a,b,nn,tags,ll,le⟩:=x
  obtain⟨c0,c1,c2,c3,c4,c5,c6,c7⟩:=fP DD
  have pF:=IH _ hmem
  have hcx:=iL hmem
  have IP:=lU l
  simp only[nF] at hcx
  have hw:IntKind.i64.wrap ((k:Int)+1)=((k+1:Nat):Int):=by rw[aD (by omega) (by omega)];rfl
  have uG:(k:Int)<(l.length:Int):=by omega
  have RV:dh=70368744177664:=rfl
  simp only[vq,Tree.ok,Nat.add_assoc,Nat.reduceAdd,c0,c1,c2,c3,c4,c5,c6,c7,aq,aA,aj,aH,isInt,au,Int.toNat_natCast,aG,hw]
  refine⟨fun _=>⟨by simp[uG],by simp,by simp;omega,pF.1,pF.2,by simp;omega,?_⟩,fun h=>absurd uG (by simpa using h)⟩
  simpa[qe] using ih
theorem Eh (x:Ins) (l:List Ins) (hc:dU (x::l)≤1000000) (IH : ∀y∈x::l,aC Tryz.prog env 24 [aL y.l] [] (aL y.l) []∧aC Tryz.prog env 24 [aL y.e] [] (aL y.e) []) :
  Am.Good Tryz.prog env (af Tryz.prog env 24 0 [aL (x::l),.os none 0 0 [],sI .i64 0] [] 0 34) (.ret (.os (some 0) (x::l).length 8 (ak (x::l))) [.tok]):=by
 refine aa names (yT (x::l) 0) ?_
 have h1:=HK (x::l) hc IH l.length 1 (by simp;omega)
 have pF:=IH x (.head _)
 have hcx:=iL (.head _:x∈x::l)
 obtain⟨op,rs,a,b,nn,tags,ll,le⟩:=x
 obtain⟨c0,c1,c2,c3,c4,c5,c6,c7⟩:=fP (l:= .mk op rs a b nn tags ll le::l) (k:=0) rfl
 simp only[nF] at hcx
 have hw:IntKind.i64.wrap ((0:Int)+1)=((1:Nat):Int):=by decide
 have RV:dh=70368744177664:=rfl
 simp only[Nat.zero_mul,Nat.zero_add] at c0 c1 c2 c3 c4 c5 c6 c7
 have z:Int.toNat 0=0:=rfl
 simp only[vp,Tree.ok,z,Nat.zero_mul,Nat.zero_add,Nat.reduceAdd,c0,c1,c2,c3,c4,c5,c6,c7,aq,aA,aj,aH,isInt,au,aG,hw]
 refine⟨fun _=>⟨by simp,by simp,by simp;omega,pF.1,pF.2,?_⟩,fun h=>by simp at h⟩
 simpa[qe,ak,aL,sI] using h1
theorem ef : ∀(N:Nat) (l:List Ins),dU l≤N→dU l≤1000000→aC Tryz.prog env 24 [aL l] [] (aL l) []
 |N,[],_,_=>by
  refine aC.nil (tok:=none) (sz:=0) (m':=[]) ?_ (by omega)
  refine ah names (Cw []) ?_
  refine aa names (yT [] 0) ?_
  simp[vp,Tree.ok]
 |N,x::l,hN,hc=>by
  have IH : ∀y∈x::l,aC Tryz.prog env 24 [aL y.l] [] (aL y.l) []∧aC Tryz.prog env 24 [aL y.e] [] (aL y.e) []:=by
   intro y hy
   have hcy:=iL hy
   obtain⟨op,rs,a,b,nn,tags,ll,le⟩:=y
   simp only[nF] at hcy
   match N,hN with
   |0,hN=>omega
   |N+1,hN=>exact⟨ef N ll (by omega) (by omega),ef N le (by omega) (by omega)⟩
  refine aC.pure (tok:=some 0) (m':=[.tok]) ?_
  refine ah names (Cw (x::l)) ?_
  exact Eh x l hc IH
end Go.Proofs.YtdmmllcjgjmbbaaGreatDoor.N
end
section
namespace Go.Am
open Go.RowKit
section
variable {P:Program} {E:Env} {g:Gh} {m:Mem} {w:World}
def FZ (a b:AV):Prop:= ∀(g:Gh) (w:World) (v:Value),VA g w a v→VA g w b v
theorem FZ.refl (a:AV):FZ a a:=fun _ _ _ h=>h
theorem FZ.os {tok:Option Nat} {n z:Nat} {cs:List PV}:FZ (.os tok n z cs) (.p (.ps n z cs)):=fun g w v hv=>by
 cases hv with
 |os _ _ _ _ a cap h _=>exact .p _ _ h
theorem FZ.nil {tok:Option Nat} {z:Nat} {y:PV} (h:CR (.ps 0 z []) y):FZ (.os tok 0 z []) (.p y):=fun g w v hv=>by
 cases hv with
 |os _ _ _ _ a cap hv _=>exact .p _ _ (h _ _ _ hv)
theorem fzs {l l':List AV} (h:bq FZ l l') (g:Gh) (w:World) : ∀{vs:List Value},cj g w l vs→cj g w l' vs:=by
 induction l generalizing l' with
 |nil=>intro vs hv;cases l' with
  |nil=>exact hv
  |cons _ _=>exact h.elim
 |cons a l ih=>intro vs hv;cases l' with
  |nil=>exact h.elim
  |cons b l'=>cases vs with
   |nil=>exact hv.elim
   |cons v vs=>exact⟨h.1 g w v hv.1,ih h.2 hv.2⟩
theorem Rel.PZ (h:Rel g m w) {i:Nat} {l l':List AV} (hb:m[i]? = some (.ac l)) (hl : ∀vs,cj g w l vs→cj g w l' vs) :
  Rel g (m.set i (.ac l')) w∧cM g m w g (m.set i (.ac l')) w:=by
 have own : ∀(j:Nat) (x:bg),(m.set i (.ac l'))[j]? = some x→x.cP=true → ∃y:bg,m[j]? = some y∧y.cP=true:=fun j x hj ho=>by
  rcases aX hj with⟨rfl,_⟩ | ⟨_,q⟩
  · exact⟨_,hb,rfl⟩
  · exact⟨x,q,ho⟩
 refine⟨⟨fun j hj=>h.vT j (by simpa using hj),fun j hj=> ?_,fun j x cs hj hx=> ?_,fun j c hj hc=> ?_,fun j q x x' c hj hq ho ho' hc eP=> ?_,h.there,fun j k1 l1 hj=> ?_⟩,
  ⟨Nat.le_refl _,fun _ _ _=>rfl,fun _ _ p=>⟨p,rfl⟩,fun _ _ p=> .inl p,fun c ho=> ?_,rfl,rfl,rfl⟩⟩
 · rcases aX hj with⟨_,q⟩ | ⟨_,q⟩
   · cases q
   · exact h.free j q
 · rcases aX hj with⟨rfl,rfl⟩ | ⟨_,q⟩
   · simp only[bg.cells?,Option.some.injEq] at hx
     subst hx
     obtain⟨c',cs',e,q,k1,k2,k3,k4,k5⟩:=h.cells _ _ _ hb rfl
     exact⟨c',cs',e,q,k1,k2,k3,⟨hl _ k4.1,k4.2⟩,k5⟩
   · exact h.cells j x cs q hx
 · rcases aX hj with⟨_,q⟩ | ⟨_,q⟩
   · cases q
   · exact h.tok j c q hc
 · obtain⟨y,y1,y2⟩:=own j x hj ho
   obtain⟨z,z1,z2⟩:=own q x' hq ho'
   exact h.inj j q y z c y1 z1 y2 z2 hc eP
 · rcases aX hj with⟨_,q⟩ | ⟨_,q⟩
   · cases q
   · exact h.obs j k1 l1 q
 · obtain⟨j,x,hj,hx,hc⟩:=ho
   obtain⟨y,y1,y2⟩:=own j x hj hx
   exact .inl ⟨j,y,y1,y2,hc⟩
theorem Cx {ρ:Nat→Option Nat} : ∀(tm:rG),tm.map (fun p=>(p.1,fV ρ p.2))=tm → ∀k,fV ρ (look tm k)=look tm k
 |[],_,_=>rfl
 |(j,v)::r,h,k=>by
  simp only[List.map_cons,List.cons.injEq,Prod.mk.injEq,true_and] at h
  unfold look
  cases Nat.beq j k with
  |true=>exact h.1
  |false=>exact Cx r h.2 k
theorem Good.told {c:bJ} {a:List PV} {z l l':List AV} {r:Mem} {o:Out} (hm:c.st.mem = .pc a :: .ac z :: .ac l::r) (hf:c.st.fix=0) (hr:c.st.bM = .call) (hk:c.st.bU=[]) (hc:iK c=true)
  (hl:bq FZ l l') (hz:dO (idx [0,1,2]) z=z) (hl':dO (idx [0,1,2]) l'=l') (ht:c.st.tm.map (fun p=>(p.1,fV (idx [0,1,2]) p.2))=c.st.tm)
  (h:Good P E {c with st:={c.st with mem:=[.pc a,.ac z,.ac l']}} o):Good P E c o:=by
 refine Good.br (fun g fr w Ru cs=> ?_) h
 obtain⟨f,todo,st⟩:=c
 obtain⟨tm,nt,mem,fix,bU,bM⟩:=st
 dsimp only at hm hf hr hk ht
 subst hm hf hr hk
 match todo,hc with
 |.code j x::k,_=>
  obtain⟨b,at',q1,q2,q3,q4,q5,q6⟩:=Ru
  obtain⟨n1,n2⟩:=q5.rel.PZ (i:=2) rfl fun vs hv=>fzs hl g w hv
  obtain⟨p1,p2⟩:=n1.pack (ord:=[0,1,2]) (by decide)
  have hmem:Am.pack ((bg.pc a :: .ac z :: .ac l::r).set 2 (.ac l')) [0,1,2]=[.pc a,.ac z,.ac l']:=by
   show[ew (idx [0,1,2]) (.pc a),ew (idx [0,1,2]) (.ac z),ew (idx [0,1,2]) (.ac l')]=_
   simp only[ew,hz,hl']
  rw[hmem] at p1 p2
  have hs:cM g (bg.pc a :: .ac z :: .ac l::r) w (g.pack [0,1,2]) [.pc a,.ac z,.ac l'] w:=n2.trans ⟨Nat.le_refl _,fun _ _ _=>rfl,fun _ _ p=>⟨p,rfl⟩,fun _ _ p=> .inl p,fun c ho=> .inl (p2 c ho),rfl,rfl,rfl⟩
  refine⟨g.pack [0,1,2],fr,w,Steps.refl _ _,⟨b,at',q1,q2,q3,?_,⟨fun k=> ?_,q5.nt,p1,Nat.zero_le _,q5.dj.mono fun _ _ p=>⟨p,rfl⟩⟩,q6⟩,hs,fun _ _ hk _=>absurd hk (Nat.not_lt_zero _),rfl,rfl,rfl⟩
  · show bq _ [] at'.defers
    have q4:bq _ [] at'.defers:=q4
    cases hd:at'.defers with
    |nil=>trivial
    |cons _ _=>rw[hd] at q4;exact q4.elim
  · have:=(q5.tm k).fV (cJ.pack g [0,1,2])
    rwa [Cx tm ht k] at this
theorem F0 {ρ:Nat→Option Nat} : ∀(K:List Nat) (vs:List AV),vs.map (fV ρ)=vs→(K.zip vs).map (fun p=>(p.1,fV ρ p.2))=K.zip vs
 |[],_,_=>rfl
 |_::_,[],_=>rfl
 |k::K,v::vs,h=>by
  simp only[List.map_cons,List.cons.injEq] at h
  simp only[List.zip_cons_cons,List.map_cons,h.1,F0 K vs h.2]
theorem Good.vr {f t nt:Nat} {vs:List AV} {a:List PV} {z l l':List AV} {r:Mem} {o:Out} (hc:iK (af P E f t vs (.pc a :: .ac z :: .ac l::r) 0 nt)=true)
  (hl:bq FZ l l') (hz:dO (idx [0,1,2]) z=z) (hl':dO (idx [0,1,2]) l'=l') (ht:vs.map (fV (idx [0,1,2]))=vs)
  (h:Good P E (af P E f t vs [.pc a,.ac z,.ac l'] 0 nt) o):Good P E (af P E f t vs (.pc a :: .ac z :: .ac l::r) 0 nt) o:=by
 cases h1:P.funcs[f]? with
 |none=>simp[af,h1,iK] at hc
 |some fn=>
  cases h2:fn.body with
  |none=>simp[af,h1,h2,iK] at hc
  |some c=>
   cases h3:fO E f t c 0 [] with
   |none=>simp[af,h1,h2,h3,iK] at hc
   |some bk=>
    obtain⟨b,k⟩:=bk
    have e : ∀m:Mem,af P E f t vs m 0 nt=⟨f,.code (t+1) b :: .inLoop t b::dD (E.keep f (2*t+1)) k,⟨((E.keep f (2*t)).getD []).zip vs,nt,m,0,[],.call⟩⟩:=fun m=>by simp[af,h1,h2,h3]
    rw[e] at h ⊢
    exact Good.told (r:=r) rfl rfl rfl rfl rfl hl hz hl' (F0 _ _ ht) h
end
end Go.Am
end
