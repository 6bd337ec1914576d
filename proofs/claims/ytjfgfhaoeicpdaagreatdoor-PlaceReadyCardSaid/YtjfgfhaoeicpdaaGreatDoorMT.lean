import Derived.Test.YtjfgfhaoeicpdaaGreatDoorMJ
import Derived.Test.YtjfgfhaoeicpdaaGreatDoorMO
import Derived.Test.YtjfgfhaoeicpdaaGreatDoorMS
open Go.Proofs.Tryz renaming prog→ab5
open Go.IntKind renaming i64→rn,u32→abb,u64→afo,i32→ae3
open List renaming map→abG,getElem?_eq_getElem→bm,getD_eq_getElem?_getD→cb,getElem?_eq_none→dp,range'→wx,take_of_length_le→dk,take_add_one→agQ,all_append→ag7,all_cons→ag8,all_nil→ahz
open Nat renaming lt_or_ge→fb,mul_one→aeX,ble_eq→aeT
open Bool renaming false_eq_true→oE,true_eq_false→afn,and_eq_true→ch,and_true→aeU,true_and→ae2,not_eq_true'→ic,false_and→ahF
open Int renaming toNat_natCast→aep,reduceBEq→afW,eq_ofNat_of_zero_le→ah4
open Go.Value renaming int→sd
noncomputable section
section
set_option linter.unusedSimpArgs false
namespace Go.Proofs.YtjfgfhaoeicpdaaGreatDoor.N
open Go Go.Am
def JE (_:FuncId) (_:List AV) (_:Mem):Option (AV×Mem):=none
def aab:bD:=aQ JE av [] [(152,2,3),(147,0,1),(147,0,2),(147,0,3),(147,0,4),(147,0,5),(147,0,6),(147,0,7),(147,0,8),(147,0,9),(147,0,10),(147,0,11),(147,0,12),(147,0,13),(147,0,14),(147,0,15),(147,0,16),(147,0,17),(147,0,18),(147,0,19)] []
def ad4:Sc:=(.yes (.no (.no (.no (.no (.no (.no (.no (.no (.no (.no (.no (.no (.no (.no (.no (.no (.no (.no (.no .fin))))))))))))))))))))
def JF (op:Int):aC:=
 (.must (decide (op<0))
 (.must (!(op==1))
 (.must (!(op==26))
 (.must (!(op==33))
 (.must (!(op==36))
 (.must (!(op==27))
 (.must (!(op==32))
 (.must (!(op==35))
 (.must (!(op==63))
 (.must (!(op==65))
 (.must (!(op==34))
 (.must (!(op==40))
 (.must (!(op==44))
 (.must (!(op==45))
 (.must (!(op==46))
 (.must (!(op==47))
 (.must (!(op==64))
 (.must (!(op==54))
 (.must (!(op==58))
 (.must (!(op==59))
 (.out (.ret (.aA [sI .i64 0,sI .i64 0,sB false]) []))))))))))))))))))))))
theorem Rd (op:Int):aH ab5 env aab 1000000 147 ([sI rn op]) ([]) ad4=JF op:=by kernel_rfl
def aac:bD:=aQ JE av [] [(152,2,3),(152,0,0),(147,0,1),(147,0,2),(147,0,3),(147,0,4),(147,0,5),(147,0,6),(147,0,7),(147,0,8),(147,0,9),(147,0,10),(147,0,11),(147,0,12),(147,0,13),(147,0,14),(147,0,15),(147,0,16),(147,0,17),(147,0,18),(147,0,19)] []
def ad5:Sc:=(.no (.yes (.no (.no (.no (.no (.no (.no (.no (.no (.no (.no (.no (.no (.no (.no (.no (.no (.no (.no (.no .fin)))))))))))))))))))))
def JG (op:Int):aC:=
 (.must (!(decide (op<0)))
 (.must (decide (op>120))
 (.must (!(op==1))
 (.must (!(op==26))
 (.must (!(op==33))
 (.must (!(op==36))
 (.must (!(op==27))
 (.must (!(op==32))
 (.must (!(op==35))
 (.must (!(op==63))
 (.must (!(op==65))
 (.must (!(op==34))
 (.must (!(op==40))
 (.must (!(op==44))
 (.must (!(op==45))
 (.must (!(op==46))
 (.must (!(op==47))
 (.must (!(op==64))
 (.must (!(op==54))
 (.must (!(op==58))
 (.must (!(op==59))
 (.out (.ret (.aA [sI .i64 0,sI .i64 0,sB false]) [])))))))))))))))))))))))
theorem Re (op:Int):aH ab5 env aac 1000000 147 ([sI rn op]) ([]) ad5=JG op:=by kernel_rfl
abbrev shV (op:Int):AV:= .aA [sI .i64 (kR op),sI .i64 (jh op),sB (yX op)]
theorem JH {op:Int} (h:op<0∨120<op):shV op = .aA [sI .i64 0,sI .i64 0,sB false]:=by
 have h1:kR op=0:=by
  unfold kR
  rw[if_neg (by omega),if_neg (by omega),if_neg (by omega)]
 have h2:jh op=0:=by
  unfold jh
  rw[if_neg (by omega)]
 have h3:yX op=false:=by
  unfold yX
  rw[h1,h2]
  simp only[decide_eq_false_iff_not]
  omega
 rw[shV,h1,h2,h3]
 rfl
def arN (n:Nat):Int:=if n=69∨n=103∨n=104∨n=105 then 1 else if(70≤n∧n≤79)∨(106≤n∧n≤120) then 2 else 0
def arC:bE:=⟨154,[],[],.agg ((List.range 121).map fun n=>sI .i64 (arN n)),[]⟩
theorem arD:an ab5 env arC.g arC.args arC.m arC.v arC.m':=bG aM (K:=[]) eZ (n:=1000000) (by kernel_rfl)
def arK:List bE:=[arC]
theorem ad6:cR ab5 env arK:=bP arD eZ
def nX (n:Nat):Bool:=
 match Cv ab5 env arK 100000 147 [sI .i64 n] [] with
 |some (.ret v m)=>dy v (shV n)&&qB m []
 |_=>false
theorem Ve:(wx 0 31).all nX=true:=by kernel_rfl
theorem Vf:(wx 31 30).all nX=true:=by kernel_rfl
theorem Vg:(wx 61 30).all nX=true:=by kernel_rfl
theorem Vh:(wx 91 30).all nX=true:=by kernel_rfl
theorem HC {n:Nat} (h:n<121):nX n=true:=by
 have get : ∀a k,(wx a k).all nX=true→a≤n→n<a+k→nX n=true:=fun a k ha h1 h2=>List.all_eq_true.1 ha n (List.mem_range'_1.2 ⟨h1,h2⟩)
 rcases fb n 31 with q | q
 · exact get 0 31 Ve (by omega) (by omega)
 rcases fb n 61 with q | q
 · exact get 31 30 Vf (by omega) (by omega)
 rcases fb n 91 with q | q
 · exact get 61 30 Vg (by omega) (by omega)
 · exact get 91 30 Vh (by omega) (by omega)
theorem Fv (op:Int):an ab5 env 147 [sI .i64 op] [] (shV op) []:=by
 by_cases h0:op<0
 · rw[JH (.inl h0)]
   refine af aM (Rd op) ?_
   simp only[JF,aC.ok,ic,beq_eq_false_iff_ne,decide_eq_true_eq,decide_eq_false_iff_not]
   repeat' first | exact True.intro | exact rfl | apply And.intro
   all_goals omega
 · by_cases h1:120<op
   · rw[JH (.inr h1)]
     refine af aM (Re op) ?_
     simp only[JG,aC.ok,ic,beq_eq_false_iff_ne,decide_eq_false_iff_not,decide_eq_true_eq]
     repeat' first | exact True.intro | exact rfl | apply And.intro
     all_goals omega
   · obtain⟨n,rfl⟩:=ah4 (by omega:0≤op)
     have hr:=HC (n:=n) (by omega)
     unfold nX at hr
     split at hr
     · rename_i v m hx
       rw[ch] at hr
       rw[kB hr.1,kY hr.2] at hx
       exact bG aM ad6 hx
     · cases hr
set_option linter.unusedVariables false
abbrev tgA (tg:List Int):AV:= .p (.ps tg.length 1 (dw .u32 tg))
def tbS (X:Lx) (R R1 R2 R3 R4 R5 R6 R7:Rw) (r a b nn:Int) (tg:List Int) (ll le:List Ins) (q:Int) (i k:Nat) (ms:List PV) (t v:Int):FuncId→Nat→Nat→Option (AV→AV):=cL [(119,5,1,sI .u32 t),(119,7,0,sI .i64 ((i+1:Nat):Int))]
def tmS (X:Lx) (R R1 R2 R3 R4 R5 R6 R7:Rw) (q n x:Int) (i k:Nat) (ms:List PV):FuncId→Nat→Nat→Option (AV→AV):=cL [(119,11,1,sI .i64 x),(119,13,0,sI .i64 ((i+1:Nat):Int))]
def liS (X:Lx) (R R1 R2 R3 R4 R5 R6 R7:Rw) (xs:List Ins) (i:Nat) (op r a b nn:Int) (tg:List Int) (ll le:List Ins):FuncId→Nat→Nat→Option (AV→AV):=cL [(90,3,1,dR op r a b nn tg ll le),(90,5,4,sI .i64 (R.nx+1)),(90,7,0,sI .i64 ((i+1:Nat):Int))]
def aad:bD:=aQ aI av [(119,0),(119,2)] [] []
def ad7:Sc:= .fin
def JI (X:Lx) (R:Rw) (R1:Rw) (R2:Rw) (R3:Rw) (R4:Rw) (R5:Rw) (R6:Rw) (R7:Rw) (r a b nn:Int) (tg:List Int) (ll:List Ins) (le:List Ins) (q:Int):aC:=
 (.at (ak ab5 env 119 0 [.mp 0 0,sI .i64 q,.mp 2 0,mq,.p (.ps tg.length 1 (dw abb tg)),sI .i64 (↑tg.length:Int),sI .i64 0] ([bf X.M X.tP X.tR X.own R.h 1 R.k R.e R.p R.nx,.ob (aG.gr 185 true) (abG aa (abG AV.p R.cs)),.pc [sP 14,sP r,.sc (.int .u32 a),.sc (.int .u32 b),.sc (.int .i32 nn),.ps tg.length 1 (dw abb tg),.ps ll.length 8 (aq ll),.ps le.length 8 (aq le)]]) 2 55))
theorem Rf (X:Lx) (R:Rw) (R1:Rw) (R2:Rw) (R3:Rw) (R4:Rw) (R5:Rw) (R6:Rw) (R7:Rw) (r a b nn:Int) (tg:List Int) (ll:List Ins) (le:List Ins) (q:Int):aH ab5 env aad 1000000 119 ([AV.mp 0 0,dR 14 r a b nn tg ll le,sI rn q]) (eK X R) ad7=JI X R R1 R2 R3 R4 R5 R6 R7 r a b nn tg ll le q:=by kernel_rfl
def aae (X:Lx) (R:Rw) (R1:Rw) (R2:Rw) (R3:Rw) (R4:Rw) (R5:Rw) (R6:Rw) (R7:Rw) (r a b nn:Int) (tg:List Int) (ll:List Ins) (le:List Ins) (q:Int) (i:Nat) (k:Nat) (ms:List PV) (t v:Int):bD:=fy aI av [(119,0),(119,2)] [(119,0,1)] [(119,5,0),(119,5,1)] (tbS X R R1 R2 R3 R4 R5 R6 R7 r a b nn tg ll le q i k ms t v)
def ad8 (X:Lx) (R:Rw) (R1:Rw) (R2:Rw) (R3:Rw) (R4:Rw) (R5:Rw) (R6:Rw) (R7:Rw) (r a b nn:Int) (tg:List Int) (ll:List Ins) (le:List Ins) (q:Int) (i:Nat) (k:Nat) (ms:List PV) (t v:Int):Sc:=(.fork (.ans 116 (sI .i64 v) ([bf X.M X.tP X.tR X.own R1.h 1 R1.k R1.e R1.p R1.nx,.ob (aG.gr 185 true) (abG AV.p R1.cs)]) .fin) (.ans 116 (sI .i64 v) ([bf X.M X.tP X.tR X.own R1.h 1 R1.k R1.e R1.p R1.nx,.ob (aG.gr 185 true) (abG AV.p R1.cs)]) .fin))
def Dc (X:Lx) (R:Rw) (R1:Rw) (R2:Rw) (R3:Rw) (R4:Rw) (R5:Rw) (R6:Rw) (R7:Rw) (r a b nn:Int) (tg:List Int) (ll:List Ins) (le:List Ins) (q:Int) (i:Nat) (k:Nat) (ms:List PV) (t v:Int):aC:=
 (.test (decide ((↑i:Int)<(↑tg.length:Int)))
 (.must (bp (↑i:Int) tg.length&&true&&true)
 (.must (isInt abb (aB (dw abb tg) (aK i*1))&&true)
 (.need (sI .u32 (az (aB (dw abb tg) (aK i*1)))=sI abb t)
 (.call ⟨116,[.mp 0 0,sI .u32 t,sI .i64 q],[bf X.M X.tP X.tR X.own R.h 1 R.k R.e R.p R.nx,.ob (aG.gr 185 true) (abG aa (abG AV.p R.cs))],sI .i64 v,[bf X.M X.tP X.tR X.own R1.h 1 R1.k R1.e R1.p R1.nx,.ob (aG.gr 185 true) (abG AV.p R1.cs)]⟩
 (.need (sI .i64 (rn.wrap ((↑i:Int)+1))=sI rn (↑(i+1):Int))
 (.at (ak ab5 env 119 0 [.mp 0 0,sI .i64 q,.mp 2 0,.os (some 3) 1 1 [sP v],.p (.ps tg.length 1 (dw abb tg)),sI .i64 (↑tg.length:Int),sI .i64 (↑(i+1):Int)] ([bf X.M X.tP X.tR X.own R1.h 1 R1.k R1.e R1.p R1.nx,.ob (aG.gr 185 true) (abG aa (abG aa (abG AV.p R1.cs))),.pc [sP 14,sP r,.sc (.int .u32 a),.sc (.int .u32 b),.sc (.int .i32 nn),.ps tg.length 1 (dw abb tg),.ps ll.length 8 (aq ll),.ps le.length 8 (aq le)],.tok]) 2 55)))))))
 (.call ⟨116,[.mp 0 0,sI .u32 a,sI .i64 q],[bf X.M X.tP X.tR X.own R.h 1 R.k R.e R.p R.nx,.ob (aG.gr 185 true) (abG aa (abG AV.p R.cs))],sI .i64 v,[bf X.M X.tP X.tR X.own R1.h 1 R1.k R1.e R1.p R1.nx,.ob (aG.gr 185 true) (abG AV.p R1.cs)]⟩
 (.at (ak ab5 env 119 2 [.mp 0 0,sI .i64 q,sI .i64 v,mq,sI .i64 0,sI .i64 0] ([bf X.M X.tP X.tR X.own R1.h 1 R1.k R1.e R1.p R1.nx,.ob (aG.gr 185 true) (abG aa (abG aa (abG AV.p R1.cs)))]) 2 55))))
theorem Fw (X:Lx) (R:Rw) (R1:Rw) (R2:Rw) (R3:Rw) (R4:Rw) (R5:Rw) (R6:Rw) (R7:Rw) (r a b nn:Int) (tg:List Int) (ll:List Ins) (le:List Ins) (q:Int) (i:Nat) (k:Nat) (ms:List PV) (t v:Int):grow ab5 env (aae X R R1 R2 R3 R4 R5 R6 R7 r a b nn tg ll le q i k ms t v) 1000000 true (ak ab5 env 119 0 ([AV.mp 0 0,sI rn q,AV.mp 2 0,AV.os Option.none 0 0 [],tgA tg,sI rn (↑tg.length:Int),sI rn (↑i:Int)]) (eK X R++[aU.pc [PV.sc (sd rn 14),PV.sc (sd rn r),PV.sc (sd abb a),PV.sc (sd abb b),PV.sc (sd ae3 nn),PV.ps tg.length 1 (dw abb tg),PV.ps ll.length 8 (aq ll),PV.ps le.length 8 (aq le)]]) 2 55) (ad8 X R R1 R2 R3 R4 R5 R6 R7 r a b nn tg ll le q i k ms t v) atEnd=Dc X R R1 R2 R3 R4 R5 R6 R7 r a b nn tg ll le q i k ms t v:=by kernel_rfl
def aaf (X:Lx) (R:Rw) (R1:Rw) (R2:Rw) (R3:Rw) (R4:Rw) (R5:Rw) (R6:Rw) (R7:Rw) (r a b nn:Int) (tg:List Int) (ll:List Ins) (le:List Ins) (q:Int) (i:Nat) (k:Nat) (ms:List PV) (t v:Int):bD:=fy aI av [(119,0),(119,2)] [(119,0,1)] [(119,5,0),(119,5,1),(119,6,6)] (tbS X R R1 R2 R3 R4 R5 R6 R7 r a b nn tg ll le q i k ms t v)
def ad9 (X:Lx) (R:Rw) (R1:Rw) (R2:Rw) (R3:Rw) (R4:Rw) (R5:Rw) (R6:Rw) (R7:Rw) (r a b nn:Int) (tg:List Int) (ll:List Ins) (le:List Ins) (q:Int) (i:Nat) (k:Nat) (ms:List PV) (t v:Int):Sc:=(.fork (.ans 116 (sI .i64 v) ([bf X.M X.tP X.tR X.own R1.h 1 R1.k R1.e R1.p R1.nx,.ob (aG.gr 185 true) (abG AV.p R1.cs)]) .fin) (.ans 116 (sI .i64 v) ([bf X.M X.tP X.tR X.own R1.h 1 R1.k R1.e R1.p R1.nx,.ob (aG.gr 185 true) (abG AV.p R1.cs)]) .fin))
def Dd (X:Lx) (R:Rw) (R1:Rw) (R2:Rw) (R3:Rw) (R4:Rw) (R5:Rw) (R6:Rw) (R7:Rw) (r a b nn:Int) (tg:List Int) (ll:List Ins) (le:List Ins) (q:Int) (i:Nat) (k:Nat) (ms:List PV) (t v:Int):aC:=
 (.test (decide ((↑i:Int)<(↑tg.length:Int)))
 (.must (bp (↑i:Int) tg.length&&true&&true)
 (.must (isInt abb (aB (dw abb tg) (aK i*1))&&true)
 (.need (sI .u32 (az (aB (dw abb tg) (aK i*1)))=sI abb t)
 (.call ⟨116,[.mp 0 0,sI .u32 t,sI .i64 q],[bf X.M X.tP X.tR X.own R.h 1 R.k R.e R.p R.nx,.ob (aG.gr 185 true) (abG aa (abG AV.p R.cs))],sI .i64 v,[bf X.M X.tP X.tR X.own R1.h 1 R1.k R1.e R1.p R1.nx,.ob (aG.gr 185 true) (abG AV.p R1.cs)]⟩
 (.must (((k+1)*8).ble ef&&(k+1).ble ef&&true)
 (.need (sI .i64 (rn.wrap ((↑i:Int)+1))=sI rn (↑(i+1):Int))
 (.at (ak ab5 env 119 0 [.mp 0 0,sI .i64 q,.mp 2 0,.os (some 3) (k+1) 1 (ms++[sP v]),.p (.ps tg.length 1 (dw abb tg)),sI .i64 (↑tg.length:Int),sI .i64 (↑(i+1):Int)] ([bf X.M X.tP X.tR X.own R1.h 1 R1.k R1.e R1.p R1.nx,.ob (aG.gr 185 true) (abG aa (abG aa (abG AV.p R1.cs))),.pc [sP 14,sP r,.sc (.int .u32 a),.sc (.int .u32 b),.sc (.int .i32 nn),.ps tg.length 1 (dw abb tg),.ps ll.length 8 (aq ll),.ps le.length 8 (aq le)],.tok]) 2 55))))))))
 (.call ⟨116,[.mp 0 0,sI .u32 a,sI .i64 q],[bf X.M X.tP X.tR X.own R.h 1 R.k R.e R.p R.nx,.ob (aG.gr 185 true) (abG aa (abG AV.p R.cs))],sI .i64 v,[bf X.M X.tP X.tR X.own R1.h 1 R1.k R1.e R1.p R1.nx,.ob (aG.gr 185 true) (abG AV.p R1.cs)]⟩
 (.at (ak ab5 env 119 2 [.mp 0 0,sI .i64 q,sI .i64 v,.os (some 2) k 1 ms,sI .i64 (↑k:Int),sI .i64 0] ([bf X.M X.tP X.tR X.own R1.h 1 R1.k R1.e R1.p R1.nx,.ob (aG.gr 185 true) (abG aa (abG aa (abG AV.p R1.cs))),.tok]) 2 55))))
theorem Fx (X:Lx) (R:Rw) (R1:Rw) (R2:Rw) (R3:Rw) (R4:Rw) (R5:Rw) (R6:Rw) (R7:Rw) (r a b nn:Int) (tg:List Int) (ll:List Ins) (le:List Ins) (q:Int) (i:Nat) (k:Nat) (ms:List PV) (t v:Int):grow ab5 env (aaf X R R1 R2 R3 R4 R5 R6 R7 r a b nn tg ll le q i k ms t v) 1000000 true (ak ab5 env 119 0 ([AV.mp 0 0,sI rn q,AV.mp 2 0,AV.os (Option.some 3) k 1 ms,tgA tg,sI rn (↑tg.length:Int),sI rn (↑i:Int)]) (eK X R++[aU.pc [PV.sc (sd rn 14),PV.sc (sd rn r),PV.sc (sd abb a),PV.sc (sd abb b),PV.sc (sd ae3 nn),PV.ps tg.length 1 (dw abb tg),PV.ps ll.length 8 (aq ll),PV.ps le.length 8 (aq le)],aU.tok]) 2 55) (ad9 X R R1 R2 R3 R4 R5 R6 R7 r a b nn tg ll le q i k ms t v) atEnd=Dd X R R1 R2 R3 R4 R5 R6 R7 r a b nn tg ll le q i k ms t v:=by kernel_rfl
def aag (X:Lx) (R:Rw) (R1:Rw) (R2:Rw) (R3:Rw) (R4:Rw) (R5:Rw) (R6:Rw) (R7:Rw) (q n x:Int) (i:Nat) (k:Nat) (ms:List PV):bD:=fy aI av [(119,0),(119,2)] [] [] (tmS X R R1 R2 R3 R4 R5 R6 R7 q n x i k ms)
def aea (X:Lx) (R:Rw) (R1:Rw) (R2:Rw) (R3:Rw) (R4:Rw) (R5:Rw) (R6:Rw) (R7:Rw) (q n x:Int) (i:Nat) (k:Nat) (ms:List PV):Sc:=(.ans 117 (.aA []) ([bf X.M X.tP X.tR X.own R1.h 2 R1.k R1.e R1.p R1.nx,.dead,.ob (aG.gr 185 true) (abG AV.p R1.cs)]) (.ans 117 (.aA []) ([bf X.M X.tP X.tR X.own R2.h 2 R2.k R2.e R2.p R2.nx,.dead,.ob (aG.gr 185 true) (abG AV.p R2.cs)]) (.ans 114 (.aA []) ([bf X.M X.tP X.tR X.own R3.h 2 R3.k R3.e R3.p R3.nx,.dead,.ob (aG.gr 185 true) (abG AV.p R3.cs)]) .fin)))
def JJ (X:Lx) (R:Rw) (R1:Rw) (R2:Rw) (R3:Rw) (R4:Rw) (R5:Rw) (R6:Rw) (R7:Rw) (q n x:Int) (i:Nat) (k:Nat) (ms:List PV):aC:=
 (.call ⟨117,[.mp 0 0,sI .i64 1,sI .i64 q],[bf X.M X.tP X.tR X.own R.h 1 R.k R.e R.p R.nx,.ob (aG.gr 185 true) (abG aa (abG AV.p R.cs))],.aA [],[bf X.M X.tP X.tR X.own R1.h 2 R1.k R1.e R1.p R1.nx,.dead,.ob (aG.gr 185 true) (abG AV.p R1.cs)]⟩
 (.call ⟨117,[.mp 0 0,sI .i64 n,sI .i64 q],[bf X.M X.tP X.tR X.own R1.h 1 R1.k R1.e R1.p R1.nx,.ob (aG.gr 185 true) (abG aa (abG aa (abG AV.p R1.cs)))],.aA [],[bf X.M X.tP X.tR X.own R2.h 2 R2.k R2.e R2.p R2.nx,.dead,.ob (aG.gr 185 true) (abG AV.p R2.cs)]⟩
 (.call ⟨114,[.mp 0 0,sI .i64 q],[bf X.M X.tP X.tR X.own R2.h 1 R2.k R2.e R2.p R2.nx,.ob (aG.gr 185 true) (abG aa (abG aa (abG AV.p R2.cs)))],.aA [],[bf X.M X.tP X.tR X.own R3.h 2 R3.k R3.e R3.p R3.nx,.dead,.ob (aG.gr 185 true) (abG AV.p R3.cs)]⟩
 (.out (.ret (.aA []) [bf X.M X.tP X.tR X.own R3.h 2 R3.k R3.e R3.p R3.nx,.dead,.ob (aG.gr 185 true) (abG aa (abG aa (abG AV.p R3.cs)))])))))
theorem Rg (X:Lx) (R:Rw) (R1:Rw) (R2:Rw) (R3:Rw) (R4:Rw) (R5:Rw) (R6:Rw) (R7:Rw) (q n x:Int) (i:Nat) (k:Nat) (ms:List PV):grow ab5 env (aag X R R1 R2 R3 R4 R5 R6 R7 q n x i k ms) 1000000 true (ak ab5 env 119 2 ([AV.mp 0 0,sI rn q,sI rn n,AV.os Option.none 0 0 [],sI rn 0,sI rn (↑i:Int)]) (eK X R) 2 55) (aea X R R1 R2 R3 R4 R5 R6 R7 q n x i k ms) atEnd=JJ X R R1 R2 R3 R4 R5 R6 R7 q n x i k ms:=by kernel_rfl
def aah (X:Lx) (R:Rw) (R1:Rw) (R2:Rw) (R3:Rw) (R4:Rw) (R5:Rw) (R6:Rw) (R7:Rw) (q n x:Int) (i:Nat) (k:Nat) (ms:List PV):bD:=fy aI av [(119,0),(119,2)] [(119,0,3)] [(119,11,0),(119,11,1)] (tmS X R R1 R2 R3 R4 R5 R6 R7 q n x i k ms)
def aeb (X:Lx) (R:Rw) (R1:Rw) (R2:Rw) (R3:Rw) (R4:Rw) (R5:Rw) (R6:Rw) (R7:Rw) (q n x:Int) (i:Nat) (k:Nat) (ms:List PV):Sc:=(.fork (.ans 120 (.aA []) ([bf X.M X.tP X.tR X.own R1.h 1 R1.k R1.e R1.p R1.nx,.ob (aG.gr 185 true) (abG AV.p R1.cs)]) .fin) (.ans 117 (.aA []) ([bf X.M X.tP X.tR X.own R1.h 2 R1.k R1.e R1.p R1.nx,.dead,.ob (aG.gr 185 true) (abG AV.p R1.cs)]) (.ans 117 (.aA []) ([bf X.M X.tP X.tR X.own R2.h 2 R2.k R2.e R2.p R2.nx,.dead,.ob (aG.gr 185 true) (abG AV.p R2.cs)]) (.ans 114 (.aA []) ([bf X.M X.tP X.tR X.own R3.h 2 R3.k R3.e R3.p R3.nx,.dead,.ob (aG.gr 185 true) (abG AV.p R3.cs)]) .fin))))
def De (X:Lx) (R:Rw) (R1:Rw) (R2:Rw) (R3:Rw) (R4:Rw) (R5:Rw) (R6:Rw) (R7:Rw) (q n x:Int) (i:Nat) (k:Nat) (ms:List PV):aC:=
 (.test (decide ((↑i:Int)<(↑k:Int)))
 (.must (bp (↑i:Int) k&&true&&true)
 (.must (isInt rn (aB ms (aK i*1))&&true)
 (.need (sI .i64 (az (aB ms (aK i*1)))=sI rn x)
 (.call ⟨120,[.mp 0 0,.p (.sc (.bool (x==n))),sI .i64 214,sI .i64 q],[bf X.M X.tP X.tR X.own R.h 1 R.k R.e R.p R.nx,.ob (aG.gr 185 true) (abG aa (abG AV.p R.cs))],.aA [],[bf X.M X.tP X.tR X.own R1.h 1 R1.k R1.e R1.p R1.nx,.ob (aG.gr 185 true) (abG AV.p R1.cs)]⟩
 (.need (sI .i64 (rn.wrap ((↑i:Int)+1))=sI rn (↑(i+1):Int))
 (.at (ak ab5 env 119 2 [.mp 0 0,sI .i64 q,sI .i64 n,.os (some 2) k 1 ms,sI .i64 (↑k:Int),sI .i64 (↑(i+1):Int)] ([bf X.M X.tP X.tR X.own R1.h 1 R1.k R1.e R1.p R1.nx,.ob (aG.gr 185 true) (abG aa (abG aa (abG AV.p R1.cs))),.tok]) 2 55)))))))
 (.call ⟨117,[.mp 0 0,sI .i64 1,sI .i64 q],[bf X.M X.tP X.tR X.own R.h 1 R.k R.e R.p R.nx,.ob (aG.gr 185 true) (abG aa (abG AV.p R.cs))],.aA [],[bf X.M X.tP X.tR X.own R1.h 2 R1.k R1.e R1.p R1.nx,.dead,.ob (aG.gr 185 true) (abG AV.p R1.cs)]⟩
 (.call ⟨117,[.mp 0 0,sI .i64 n,sI .i64 q],[bf X.M X.tP X.tR X.own R1.h 1 R1.k R1.e R1.p R1.nx,.ob (aG.gr 185 true) (abG aa (abG aa (abG AV.p R1.cs)))],.aA [],[bf X.M X.tP X.tR X.own R2.h 2 R2.k R2.e R2.p R2.nx,.dead,.ob (aG.gr 185 true) (abG AV.p R2.cs)]⟩
 (.call ⟨114,[.mp 0 0,sI .i64 q],[bf X.M X.tP X.tR X.own R2.h 1 R2.k R2.e R2.p R2.nx,.ob (aG.gr 185 true) (abG aa (abG aa (abG AV.p R2.cs)))],.aA [],[bf X.M X.tP X.tR X.own R3.h 2 R3.k R3.e R3.p R3.nx,.dead,.ob (aG.gr 185 true) (abG AV.p R3.cs)]⟩
 (.out (.ret (.aA []) [bf X.M X.tP X.tR X.own R3.h 2 R3.k R3.e R3.p R3.nx,.dead,.ob (aG.gr 185 true) (abG aa (abG aa (abG AV.p R3.cs)))]))))))
theorem Fy (X:Lx) (R:Rw) (R1:Rw) (R2:Rw) (R3:Rw) (R4:Rw) (R5:Rw) (R6:Rw) (R7:Rw) (q n x:Int) (i:Nat) (k:Nat) (ms:List PV):grow ab5 env (aah X R R1 R2 R3 R4 R5 R6 R7 q n x i k ms) 1000000 true (ak ab5 env 119 2 ([AV.mp 0 0,sI rn q,sI rn n,AV.os (Option.some 2) k 1 ms,sI rn (↑k:Int),sI rn (↑i:Int)]) (eK X R++[aU.tok]) 2 55) (aeb X R R1 R2 R3 R4 R5 R6 R7 q n x i k ms) atEnd=De X R R1 R2 R3 R4 R5 R6 R7 q n x i k ms:=by kernel_rfl
def aai:bD:=aQ aI av [(90,0)] [] []
def aec:Sc:= .fin
def vV (X:Lx) (R:Rw) (R1:Rw) (R2:Rw) (R3:Rw) (R4:Rw) (R5:Rw) (R6:Rw) (R7:Rw) (xs:List Ins):aC:=
 (.at (ak ab5 env 90 0 [.mp 0 0,.p (.ps xs.length 8 (aq xs)),sI .i64 (↑xs.length:Int),sI .i64 0] ([bf X.M X.tP X.tR X.own R.h 1 R.k R.e R.p R.nx,.ob (aG.gr 185 true) (abG aa (abG AV.p R.cs))]) 2 32))
theorem zj (X:Lx) (R:Rw) (R1:Rw) (R2:Rw) (R3:Rw) (R4:Rw) (R5:Rw) (R6:Rw) (R7:Rw) (xs:List Ins):aH ab5 env aai 1000000 90 ([AV.mp 0 0,aL xs]) (eK X R) aec=vV X R R1 R2 R3 R4 R5 R6 R7 xs:=by kernel_rfl
def aaj (X:Lx) (R:Rw) (R1:Rw) (R2:Rw) (R3:Rw) (R4:Rw) (R5:Rw) (R6:Rw) (R7:Rw) (xs:List Ins) (i:Nat) (op r a b nn:Int) (tg:List Int) (ll:List Ins) (le:List Ins):bD:=fy aI av [(90,0)] [(90,0,1),(90,0,2)] [(90,3,0),(90,3,1)] (liS X R R1 R2 R3 R4 R5 R6 R7 xs i op r a b nn tg ll le)
def aed (X:Lx) (R:Rw) (R1:Rw) (R2:Rw) (R3:Rw) (R4:Rw) (R5:Rw) (R6:Rw) (R7:Rw) (xs:List Ins) (i:Nat) (op r a b nn:Int) (tg:List Int) (ll:List Ins) (le:List Ins):Sc:=(.fork (.fork .fin (.ans 106 (.aA []) ([bf X.M X.tP X.tR X.own R1.h 2 R1.k R1.e R1.p R1.nx,.dead,.ob (aG.gr 185 true) (abG AV.p R1.cs)]) .fin)) .fin)
def jC (X:Lx) (R:Rw):aC:=
 (.out (.ret (.aA []) [bf X.M X.tP X.tR X.own R.h 1 R.k R.e R.p R.nx,.ob (aG.gr 185 true) (abG aa (abG AV.p R.cs))]))
def rV (X:Lx) (R:Rw) (R1:Rw) (R2:Rw) (R3:Rw) (R4:Rw) (R5:Rw) (R6:Rw) (R7:Rw) (xs:List Ins) (i:Nat) (op r a b nn:Int) (tg:List Int) (ll:List Ins) (le:List Ins):aC:=
 (.test (decide ((↑i:Int)<(↑xs.length:Int)))
 (.must (bp (↑i:Int) xs.length&&true&&true)
 (.must (isInt rn (aB (aq xs) (aK i*8))&&(isInt rn (aB (aq xs) (aK i*8+1))&&(isInt abb (aB (aq xs) (aK i*8+1+1))&&(isInt abb (aB (aq xs) (aK i*8+1+1+1))&&(isInt ae3 (aB (aq xs) (aK i*8+1+1+1+1))&&(bB (aB (aq xs) (aK i*8+1+1+1+1+1))&&(bB (aB (aq xs) (aK i*8+1+1+1+1+1+1))&&(bB (aB (aq xs) (aK i*8+1+1+1+1+1+1+1))&&true)))))))&&true)
 (.need (AV.agg [sI .i64 (az (aB (aq xs) (aK i*8))),sI .i64 (az (aB (aq xs) (aK i*8+1))),sI .u32 (az (aB (aq xs) (aK i*8+1+1))),sI .u32 (az (aB (aq xs) (aK i*8+1+1+1))),sI .i32 (az (aB (aq xs) (aK i*8+1+1+1+1))),AV.p (PV.ps (aD (aB (aq xs) (aK i*8+1+1+1+1+1))) (bh (aB (aq xs) (aK i*8+1+1+1+1+1))) (au (aB (aq xs) (aK i*8+1+1+1+1+1)))),AV.p (PV.ps (aD (aB (aq xs) (aK i*8+1+1+1+1+1+1))) (bh (aB (aq xs) (aK i*8+1+1+1+1+1+1))) (au (aB (aq xs) (aK i*8+1+1+1+1+1+1)))),AV.p (PV.ps (aD (aB (aq xs) (aK i*8+1+1+1+1+1+1+1))) (bh (aB (aq xs) (aK i*8+1+1+1+1+1+1+1))) (au (aB (aq xs) (aK i*8+1+1+1+1+1+1+1))))]=dR op r a b nn tg ll le)
 (.test (R.e != 0)
 (jC X R)
 (.need (sI .i64 (rn.wrap (R.nx+1))=sI rn (R.nx+1))
 (.call ⟨106,[.mp 0 0,.agg [sI .i64 op,sI .i64 r,sI .u32 a,sI .u32 b,sI .i32 nn,.p (.ps tg.length 1 (dw abb tg)),.p (.ps ll.length 8 (aq ll)),.p (.ps le.length 8 (aq le))],sI .i64 (R.nx+1)],[bf X.M X.tP X.tR X.own R.h 1 R.k R.e R.p (R.nx+1),.ob (aG.gr 185 true) (abG aa (abG AV.p R.cs))],.aA [],[bf X.M X.tP X.tR X.own R1.h 2 R1.k R1.e R1.p R1.nx,.dead,.ob (aG.gr 185 true) (abG AV.p R1.cs)]⟩
 (.need (sI .i64 (rn.wrap ((↑i:Int)+1))=sI rn (↑(i+1):Int))
 (.at (ak ab5 env 90 0 [.mp 0 0,.p (.ps xs.length 8 (aq xs)),sI .i64 (↑xs.length:Int),sI .i64 (↑(i+1):Int)] ([bf X.M X.tP X.tR X.own R1.h 2 R1.k R1.e R1.p R1.nx,.dead,.ob (aG.gr 185 true) (abG aa (abG aa (abG AV.p R1.cs)))]) 2 32)))))))))
 (jC X R))
theorem rW (X:Lx) (R:Rw) (R1:Rw) (R2:Rw) (R3:Rw) (R4:Rw) (R5:Rw) (R6:Rw) (R7:Rw) (xs:List Ins) (i:Nat) (op r a b nn:Int) (tg:List Int) (ll:List Ins) (le:List Ins):grow ab5 env (aaj X R R1 R2 R3 R4 R5 R6 R7 xs i op r a b nn tg ll le) 1000000 true (ak ab5 env 90 0 ([AV.mp 0 0,aL xs,sI rn (↑xs.length:Int),sI rn (↑i:Int)]) (eK X R) 2 32) (aed X R R1 R2 R3 R4 R5 R6 R7 xs i op r a b nn tg ll le) atEnd=rV X R R1 R2 R3 R4 R5 R6 R7 xs i op r a b nn tg ll le:=by kernel_rfl
def aak (X:Lx) (R:Rw) (R1:Rw) (R2:Rw) (R3:Rw) (R4:Rw) (R5:Rw) (R6:Rw) (R7:Rw) (xs:List Ins) (i:Nat) (op r a b nn:Int) (tg:List Int) (ll:List Ins) (le:List Ins):bD:=fy aI av [(90,0)] [(90,0,1),(90,0,2)] [(90,3,0),(90,3,1)] (liS X R R1 R2 R3 R4 R5 R6 R7 xs i op r a b nn tg ll le)
def aee (X:Lx) (R:Rw) (R1:Rw) (R2:Rw) (R3:Rw) (R4:Rw) (R5:Rw) (R6:Rw) (R7:Rw) (xs:List Ins) (i:Nat) (op r a b nn:Int) (tg:List Int) (ll:List Ins) (le:List Ins):Sc:=(.fork (.fork .fin (.ans 106 (.aA []) ([bf X.M X.tP X.tR X.own R1.h 2 R1.k R1.e R1.p R1.nx,.dead,.ob (aG.gr 185 true) (abG AV.p R1.cs)]) .fin)) .fin)
def lI (X:Lx) (R:Rw):aC:=
 (.out (.ret (.aA []) [bf X.M X.tP X.tR X.own R.h 2 R.k R.e R.p R.nx,.dead,.ob (aG.gr 185 true) (abG aa (abG AV.p R.cs))]))
def vW (X:Lx) (R:Rw) (R1:Rw) (R2:Rw) (R3:Rw) (R4:Rw) (R5:Rw) (R6:Rw) (R7:Rw) (xs:List Ins) (i:Nat) (op r a b nn:Int) (tg:List Int) (ll:List Ins) (le:List Ins):aC:=
 (.test (decide ((↑i:Int)<(↑xs.length:Int)))
 (.must (bp (↑i:Int) xs.length&&true&&true)
 (.must (isInt rn (aB (aq xs) (aK i*8))&&(isInt rn (aB (aq xs) (aK i*8+1))&&(isInt abb (aB (aq xs) (aK i*8+1+1))&&(isInt abb (aB (aq xs) (aK i*8+1+1+1))&&(isInt ae3 (aB (aq xs) (aK i*8+1+1+1+1))&&(bB (aB (aq xs) (aK i*8+1+1+1+1+1))&&(bB (aB (aq xs) (aK i*8+1+1+1+1+1+1))&&(bB (aB (aq xs) (aK i*8+1+1+1+1+1+1+1))&&true)))))))&&true)
 (.need (AV.agg [sI .i64 (az (aB (aq xs) (aK i*8))),sI .i64 (az (aB (aq xs) (aK i*8+1))),sI .u32 (az (aB (aq xs) (aK i*8+1+1))),sI .u32 (az (aB (aq xs) (aK i*8+1+1+1))),sI .i32 (az (aB (aq xs) (aK i*8+1+1+1+1))),AV.p (PV.ps (aD (aB (aq xs) (aK i*8+1+1+1+1+1))) (bh (aB (aq xs) (aK i*8+1+1+1+1+1))) (au (aB (aq xs) (aK i*8+1+1+1+1+1)))),AV.p (PV.ps (aD (aB (aq xs) (aK i*8+1+1+1+1+1+1))) (bh (aB (aq xs) (aK i*8+1+1+1+1+1+1))) (au (aB (aq xs) (aK i*8+1+1+1+1+1+1)))),AV.p (PV.ps (aD (aB (aq xs) (aK i*8+1+1+1+1+1+1+1))) (bh (aB (aq xs) (aK i*8+1+1+1+1+1+1+1))) (au (aB (aq xs) (aK i*8+1+1+1+1+1+1+1))))]=dR op r a b nn tg ll le)
 (.test (R.e != 0)
 (lI X R)
 (.need (sI .i64 (rn.wrap (R.nx+1))=sI rn (R.nx+1))
 (.call ⟨106,[.mp 0 0,.agg [sI .i64 op,sI .i64 r,sI .u32 a,sI .u32 b,sI .i32 nn,.p (.ps tg.length 1 (dw abb tg)),.p (.ps ll.length 8 (aq ll)),.p (.ps le.length 8 (aq le))],sI .i64 (R.nx+1)],[bf X.M X.tP X.tR X.own R.h 1 R.k R.e R.p (R.nx+1),.ob (aG.gr 185 true) (abG aa (abG AV.p R.cs))],.aA [],[bf X.M X.tP X.tR X.own R1.h 2 R1.k R1.e R1.p R1.nx,.dead,.ob (aG.gr 185 true) (abG AV.p R1.cs)]⟩
 (.need (sI .i64 (rn.wrap ((↑i:Int)+1))=sI rn (↑(i+1):Int))
 (.at (ak ab5 env 90 0 [.mp 0 0,.p (.ps xs.length 8 (aq xs)),sI .i64 (↑xs.length:Int),sI .i64 (↑(i+1):Int)] ([bf X.M X.tP X.tR X.own R1.h 2 R1.k R1.e R1.p R1.nx,.dead,.ob (aG.gr 185 true) (abG aa (abG aa (abG AV.p R1.cs)))]) 2 32)))))))))
 (lI X R))
theorem zk (X:Lx) (R:Rw) (R1:Rw) (R2:Rw) (R3:Rw) (R4:Rw) (R5:Rw) (R6:Rw) (R7:Rw) (xs:List Ins) (i:Nat) (op r a b nn:Int) (tg:List Int) (ll:List Ins) (le:List Ins):grow ab5 env (aak X R R1 R2 R3 R4 R5 R6 R7 xs i op r a b nn tg ll le) 1000000 true (ak ab5 env 90 0 ([AV.mp 0 0,aL xs,sI rn (↑xs.length:Int),sI rn (↑i:Int)]) (kU X R) 2 32) (aee X R R1 R2 R3 R4 R5 R6 R7 xs i op r a b nn tg ll le) atEnd=vW X R R1 R2 R3 R4 R5 R6 R7 xs i op r a b nn tg ll le:=by kernel_rfl
structure Wc (X:Lx) (V:kg):Prop where
 ret:X.tR=V.ret
 aef:V.ret≤1
 own:X.own=V.own
 ahA:V.own≤1000000000
 ty : ∀a:Nat,a<4294967296→match V.ty a with
  |some (p,r)=>r≤1∧an ab5 env 42 [.agg X.M.cells,sI .u32 a] [] (.aA [.agg [sI .i64 p,sI .i64 r],sB true]) []
  |none=>an ab5 env 42 [.agg X.M.cells,sI .u32 a] [] (.aA [.agg [sI .i64 0,sI .i64 0],sB false]) []
 mZ:X.M.mZ≤1000000000
 ind : ∀a:Nat,if 0<X.M.sy∧a<X.M.mZ then ∃p r:Nat,V.ind a=some (p,r)∧r≤1∧X.M.tJ.getD (a*2) .bK = .sc (.int .i64 p)∧X.M.tJ.getD (a*2+1) .bK = .sc (.int .i64 r) else V.ind a=none
 jB:X.M.jB=V.cQ.length
 glM:V.cQ.length≤1000000000
 gl : ∀(a:Nat) (b:Bool),V.cQ[a]? = some b→X.M.yY.getD (a*2+0) .bK = .sc (.bool b)
 me:V.mem=decide (0<X.M.tN)
def _root_.Go.Am.VR.and (v:VR) (F:Nat→Bool→Nat→VR):VR:=match v with
 |.bK e q=> .bK e q
 |.ok n d c=>F n d c
theorem lJ {q k n c:Nat} {d:Bool} {F:Nat→Bool→Nat→VR}:(dK q k n d fun m=> .ok m d c).and F=dK q k n d fun m=>F m d c:=by
 unfold dK;split<;>rfl
section
variable {X:Lx} {V:kg} {R:Rw} {o:List Fr} {t:Fr} {n c:Nat}
theorem zl {R1:Rw} {v:VR} {F:Nat→Bool→Nat→VR} {f:FuncId} {args:List AV} (h:dx o t R1 v) (hE : ∀R:Rw,R.e≠0→cT X f args R R)
  (hG : ∀n d c,v = .ok n d c→dS R1 o ⟨t.op,t.base,t.res,d⟩ n c → ∃R2,cT X f args R1 R2∧dx o t R2 (F n d c)) : ∃R2,cT X f args R1 R2∧dx o t R2 (v.and F):=by
 cases v with
 |bK e q=>exact⟨R1,hE R1 (by rw[h.1];exact h.2.1),h⟩
 |ok n d c=>exact hG _ _ _ rfl h
theorem JK {P Q q:Int} (he:R.e≠0):cT X 121 [.agg [sI .i64 P,sI .i64 Q],sI .i64 q] R R:=Q7 (tQ he) (QW he)
theorem Vi {op q:Int} (he:R.e≠0):cT X 137 [sI .i64 op,sI .i64 q] R R:=Q8 (Fv op) (tQ he) (QW he)
theorem zm (g:dS R o t n c) (hle:R.h+1≤c) (hc:c≤1000000000) (p r q:Nat) (hr:r≤1) :
  ∃R1 R2,cT X 117 [sI .i64 p,sI .i64 q] R R1∧cT X 118 [sI .i64 r,sI .i64 q] R1 R2∧dx o t R2 (dK q p n t.dead fun n1=> .ok (n1+r) t.dead c):=by
 obtain⟨R1,r1,a1,h1,x1⟩:=oH (X:=X) g p q
 have Si:=g.nx
 obtain⟨R2,r2,a2⟩:=zl (X:=X) (F:=fun m d c=> .ok (m+r) d c) (f:=118) (args:=[sI .i64 r,sI .i64 q]) a1 (fun R he=>QW he) (fun n' d c' hv g'=>by
  have:=g'.nx
  obtain⟨R2,r2,a2⟩:=Q6 (X:=X) g' r q (by omega) (by omega)
  exact⟨R2,r2,a2⟩)
 rw[lJ] at a2
 exact⟨R1,R2,r1,r2,a2⟩
theorem JL (g:dS R o t n c) (hle:R.h+1≤c) (hc:c≤1000000000) (p r q:Nat) (hr:r≤1) :
  ∃R',cT X 121 [.agg [sI .i64 p,sI .i64 r],sI .i64 q] R R'∧dx o t R' (dK q p n t.dead fun n1=> .ok (n1+r) t.dead c):=by
 obtain⟨R1,R2,r1,r2,a2⟩:=zm (X:=X) g hle hc p r q hr
 exact⟨R2,Q7 r1 r2,a2⟩
theorem Vj (g:dS R o t n c) (hle:R.h+1≤c) (hc:c≤1000000000) (op:Int) (q:Nat) :
  ∃R',cT X 137 [sI .i64 op,sI .i64 q] R R'∧dx o t R' (dK q (kR op) n t.dead fun n1=> .ok (n1+jh op) t.dead c):=by
 obtain⟨R1,R2,r1,r2,a2⟩:=zm (X:=X) g hle hc (kR op) (jh op) q (Lz op)
 exact⟨R2,Q8 (Fv op) r1 r2,a2⟩
theorem nY (g:dS R o t n c) (p q:Nat) :
  ∃R1 R2,cT X 117 [sI .i64 p,sI .i64 q] R R1∧cT X 114 [sI .i64 q] R1 R2∧dx o t R2 (dK q p n t.dead fun _=> .ok 0 true c):=by
 obtain⟨R1,r1,a1,h1,x1⟩:=oH (X:=X) g p q
 obtain⟨R2,r2,a2⟩:=zl (X:=X) (F:=fun _ _ c=> .ok 0 true c) (f:=114) (args:=[sI .i64 q]) a1 (fun R he=>QX he) (fun n' d c' hv g'=>by
  obtain⟨R2,r2,a2,_⟩:=Fo (X:=X) g' q
  exact⟨R2,r2,a2⟩)
 rw[lJ] at a2
 exact⟨R1,R2,r1,r2,a2⟩
theorem Vk (g:nV R o t n) {a k:Nat} (h:(bJ (o++[t]))[a]? = some k):k≤1:=by
 obtain⟨f,hf,hk,_⟩:=Wb h
 obtain⟨_,_,m3,m4⟩:=iV g.ok f (List.mem_of_getElem? hf)
 rw[hk];split<;>omega
def j4 (R:Rw) (e q:Int):Rw:=⟨R.h,R.k,R.cs,e,q,R.nx⟩
theorem j5 {R:Rw} {ec q:Int}:nW R true ec q=R:=by unfold nW;rw[if_pos (.inl rfl)]
theorem gL {R:Rw} {ec q:Int} (he:R.e=0) (Va:ec≠0):nW R false ec q=j4 R ec q:=by unfold nW j4;rw[if_neg (by simp[he,Va])]
theorem vX {R:Rw} {b:Bool} {ec q:Int} (he:R.e≠0):nW R b ec q=R:=by unfold nW;rw[if_pos (.inr (.inl he))]
theorem rX {R:Rw} {p:Prop} [Decidable p] {ec q:Int} (he:R.e=0) (Va:ec≠0):nW R (decide p) ec q=if p then R else j4 R ec q:=by
 by_cases h:p
 · rw[decide_eq_true h,j5,if_pos h]
 · rw[decide_eq_false h,gL he Va,if_neg h]
theorem BH (g:nV R o t n) (he:R.e=0) (a:Nat) (ha:a<4294967296) (q:Nat) :
  (∃k,(bJ (o++[t]))[a]? = some k∧k≤1∧Ask X 116 [sI .u32 a,sI .i64 q] (sI .i64 (k:Nat)) R R)∨((bJ (o++[t]))[a]? = none∧Ask X 116 [sI .u32 a,sI .i64 q] (sI .i64 (0:Nat)) R (j4 R 6 q)):=by
 have h:=tS (X:=X) g a ha q
 have Sx:(bJ (o++[t])).length=(o++[t]).length:=by simp[bJ]
 by_cases hlt:a<(o++[t]).length
 · have hs:(bJ (o++[t]))[a]? = some ((bJ (o++[t])).getD a 0):=by
    rw[cb,bm (by omega)];rfl
   rw[decide_eq_true hlt,j5] at h
   exact .inl ⟨_,hs,Vk g hs,h⟩
 · have hs:(bJ (o++[t]))[a]? = none:=dp (by omega)
   rw[decide_eq_false hlt,gL he (by decide),cb,hs] at h
   exact .inr ⟨hs,h⟩
variable {r b nn:Int} {tg:List Int} {ll le:List Ins}
theorem aal (g:dS R o t n c) (a:Nat) (ha:a<4294967296) : ∃R',cT X 106 [dR 12 r a b nn tg ll le,sI .i64 c] R R'∧dx o t R' (fW V (bJ (o++[t])) 12 a tg n t.dead c):=by
 have e1:fW V (bJ (o++[t])) 12 a tg n t.dead c=(match(bJ (o++[t]))[a]? with
  |none=> .bK 6 c
  |some k=>dK c k n t.dead fun _=> .ok 0 true c):=rfl
 rcases BH (X:=X) g.gY g.e a ha c with⟨k,hk,_,hA⟩ | ⟨hk,hA⟩
 · obtain⟨R1,R2,r1,r2,a2⟩:=nY (X:=X) g k c
   refine⟨R2,Ra hA r1 r2,?_⟩
   rw[e1,hk];exact a2
 · have hb:(j4 R 6 c).e≠0:=(by decide:(6:Int)≠0)
   refine⟨_,Ra hA (tQ hb) (QX hb),?_⟩
   rw[e1,hk]
   exact⟨rfl,by decide,rfl⟩
theorem Rh (g:dS R o t n c) (hle:R.h+1≤c) (hc:c≤1000000000) (a:Nat) (ha:a<4294967296) : ∃R',cT X 106 [dR 13 r a b nn tg ll le,sI .i64 c] R R'∧dx o t R' (fW V (bJ (o++[t])) 13 a tg n t.dead c):=by
 have e1:fW V (bJ (o++[t])) 13 a tg n t.dead c=(match(bJ (o++[t]))[a]? with
  |none=> .bK 6 c
  |some k=>dK c 1 n t.dead fun n1=>dK c k n1 t.dead fun n2=> .ok (n2+k) t.dead c):=rfl
 rcases BH (X:=X) g.gY g.e a ha c with⟨k,hk,hk1,hA⟩ | ⟨hk,hA⟩
 · obtain⟨R1,r1,a1,h1,x1⟩:=oH (X:=X) g 1 c
   have Si:=g.nx
   have step : ∀v,dx o t R1 v→(∀n' d c',v = .ok n' d c'→d=t.dead∧c'=c) → ∃R2 R3,cT X 117 [sI .i64 k,sI .i64 c] R1 R2∧cT X 118 [sI .i64 k,sI .i64 c] R2 R3∧dx o t R3 (v.and fun m d c=>dK c k m d fun n2=> .ok (n2+k) d c):=by
    intro v hv hd
    cases v with
    |bK e q=>
     have hb:R1.e≠0:=by rw[hv.1];exact hv.2.1
     exact⟨R1,R1,tQ hb,QW hb,hv⟩
    |ok m d c'=>
     obtain⟨rfl,rfl⟩:=hd _ _ _ rfl
     obtain⟨R2,R3,r2,r3,a3⟩:=zm (X:=X) (t:=⟨t.op,t.base,t.res,t.dead⟩) hv (by omega) hc k k c' hk1
     exact⟨R2,R3,r2,r3,a3⟩
   obtain⟨R2,R3,r2,r3,a3⟩:=step _ a1 (fun n' d c' hv=>by
    unfold dK at hv;split at hv
    · cases hv
    · cases hv;exact⟨rfl,rfl⟩)
   refine⟨R3,Fp hA r1 r2 r3,?_⟩
   rw[lJ] at a3
   rw[e1,hk];exact a3
 · have hb:(j4 R 6 c).e≠0:=(by decide:(6:Int)≠0)
   refine⟨_,Fp hA (tQ hb) (tQ hb) (QW hb),?_⟩
   rw[e1,hk]
   exact⟨rfl,by decide,rfl⟩
theorem Vl (hv:Wc X V) (g:dS R o t n c) (a:Nat) : ∃R',cT X 106 [dR 15 r a b nn tg ll le,sI .i64 c] R R'∧dx o t R' (fW V (bJ (o++[t])) 15 a tg n t.dead c):=by
 obtain⟨R1,R2,r1,r2,a2⟩:=nY (X:=X) g V.ret c
 rw[←hv.ret] at r1
 exact⟨R2,Vd r1 r2,a2⟩
theorem Ri (hv:Wc X V) (g:dS R o t n c) (hle:R.h+1≤c) (hc:c≤1000000000) (a:Nat) (ha:a<4294967296) : ∃R',cT X 106 [dR 16 r a b nn tg ll le,sI .i64 c] R R'∧dx o t R' (fW V (bJ (o++[t])) 16 a tg n t.dead c):=by
 have e1:fW V (bJ (o++[t])) 16 a tg n t.dead c=(match V.ty a with
  |none=> .bK 6 c
  |some (p,r)=>dK c p n t.dead fun n1=> .ok (n1+r) t.dead c):=rfl
 have h:=hv.ty a ha
 rw[e1]
 cases hty:V.ty a with
 |none=>
  rw[hty] at h
  have hb:(j4 R 6 c).e≠0:=(by decide:(6:Int)≠0)
  have hA:=fT (X:=X) (R:=R) false 6 c
  rw[gL g.e (by decide)] at hA
  exact⟨_,Fq h hA (JK hb),rfl,by decide,rfl⟩
 |some pr=>
  obtain⟨p,r'⟩:=pr
  rw[hty] at h
  have hA:=fT (X:=X) (R:=R) true 6 c
  rw[j5] at hA
  obtain⟨R2,r2,a2⟩:=JL (X:=X) g hle hc p r' c h.1
  exact⟨R2,Fq h.2 hA r2,a2⟩
theorem Vm (hv:Wc X V) (g:dS R o t n c) (hle:R.h+1≤c) (hc:c≤1000000000) (a:Nat) (ha:a<4294967296) : ∃R',cT X 106 [dR 17 r a b nn tg ll le,sI .i64 c] R R'∧dx o t R' (fW V (bJ (o++[t])) 17 a tg n t.dead c):=by
 have e1:fW V (bJ (o++[t])) 17 a tg n t.dead c=(match V.ind a with
  |none=> .bK 6 c
  |some (p,r)=>dK c 1 n t.dead fun n1=>dK c p n1 t.dead fun n2=> .ok (n2+r) t.dead c):=rfl
 have h:=hv.ind a
 have aeg:=hv.mZ
 rw[e1]
 have hb:(j4 R 6 c).e≠0:=(by decide:(6:Int)≠0)
 by_cases ht:0<X.M.sy
 · by_cases hlt:a<X.M.mZ
   · rw[if_pos ⟨ht,hlt⟩] at h
     obtain⟨p,r',h1,h2,h3,h4⟩:=h
     rw[h1]
     have hA:=fT (X:=X) (R:=R) true 6 c
     rw[j5] at hA
     obtain⟨R1,r1,a1,hh1,x1⟩:=oH (X:=X) g 1 c
     have Si:=g.nx
     obtain⟨R2,r2,a2⟩:=zl (X:=X) (F:=fun m d c=>dK c p m d fun n2=> .ok (n2+r') d c) (f:=121) (args:=[.agg [sI .i64 p,sI .i64 r'],sI .i64 c]) a1 (fun R he=>JK he) (fun n' d c' VX g'=>by
      have:=g'.nx
      have Wn:c'=c:=by omega
      subst Wn
      obtain⟨R2,r2,a2⟩:=JL (X:=X) g' (by omega) hc p r' c' h2
      exact⟨R2,r2,a2⟩)
     rw[lJ] at a2
     exact⟨R2,Ft ht aeg ⟨by omega,by omega⟩ (fun _=>⟨h3,h4⟩) (by rw[decide_eq_true (by omega)];exact hA) r1 (fun _=>r2) (fun hn=>absurd (by omega) hn),a2⟩
   · rw[if_neg (fun q=>hlt q.2)] at h
     rw[h]
     have hA:=fT (X:=X) (R:=R) false 6 c
     rw[gL g.e (by decide)] at hA
     exact⟨_,Ft (P:=0) (Q:=0) ht aeg ⟨by omega,by omega⟩ (fun q=>absurd q (by omega)) (by rw[decide_eq_false (by omega)];exact hA) (tQ hb) (fun q=>absurd q (by omega)) (fun _=>rfl),rfl,by decide,rfl⟩
 · rw[if_neg (fun q=>ht q.1)] at h
   rw[h]
   have hA:=fT (X:=X) (R:=R) false 6 c
   rw[gL g.e (by decide)] at hA
   exact⟨_,Rb (by omega) hA (tQ hb),rfl,by decide,rfl⟩
end
section
variable {X:Lx} {V:kg} {R R1 R2 R3:Rw} {o:List Fr} {t:Fr} {n c:Nat}
variable {op r a b nn q:Int} {tg:List Int} {ll le:List Ins}
theorem Vn (ho:op=32∨op=33∨op=34) (ha:0≤a∧a<4294967296) (h1:Ask X 120 [sB (decide (a<X.own)),sI .i64 6,sI .i64 q] (.aA []) R R1) (h2:cT X 137 [sI .i64 op,sI .i64 q] R1 R2) :
  cT X 122 [dR op r a b nn tg ll le,sI .i64 q] R R2:=by
 refine an.gK (rows:=[(122,53,sB true)]) ?_
 refine af aM (jZ X R R1 R2 R R R R R op r a b nn tg ll le q 0 true true) ?_
 have w1:afo.wrap a=a:=jl (by omega) (by omega)
 rcases ho with rfl | rfl | rfl <;>
 · simp only[kJ,ff,fj,fQ,fR,fS,bN,aC.ok,aF,w1,afW,oE,afn,false_implies,true_implies,true_and,and_true]
   exact⟨an.eF h1,an.eF h2⟩
theorem Rj {mu:Bool} (ha:0≤a∧a<4294967296) (hn:X.M.jB≤1000000000) (hlt:a<X.M.jB) (hc:X.M.yY.getD (a.toNat*2+0) .bK = .sc (.bool mu))
  (h1:Ask X 120 [sB mu,sI .i64 212,sI .i64 q] (.aA []) R R1) (h2:Ask X 120 [sB true,sI .i64 6,sI .i64 q] (.aA []) R1 R2) (h3:cT X 137 [sI .i64 36,sI .i64 q] R2 R3) :
  cT X 122 [dR 36 r a b nn tg ll le,sI .i64 q] R R3:=by
 refine an.gK (rows:=[(122,53,sB mu)]) ?_
 refine af aM (jZ X R R1 R2 R3 R R R R 36 r a b nn tg ll le q 0 true mu) ?_
 have w1:afo.wrap a=a:=jl (by omega) (by omega)
 have w2:afo.wrap (X.M.jB:Int)=X.M.jB:=jl (by omega) (by omega)
 have g1:decide (a<(X.M.jB:Int))=true:=decide_eq_true hlt
 have g2:dD mu mu=true:=(Ho _ _).2 rfl
 simp only[kJ,ff,fj,fQ,fR,fS,bN,aC.ok,aF,w1,w2,g1,g2,hc,isBool,bu,dX,bp,afW,oE,afn,false_implies,true_implies,true_and,and_true,aeU,ch,decide_eq_true_eq]
 exact⟨by omega,an.eF h1,an.eF h2,an.eF h3⟩
theorem Rk (ha:0≤a∧a<4294967296) (hn:X.M.jB≤1000000000) (hlt : ¬a<X.M.jB)
  (h1:Ask X 120 [sB false,sI .i64 6,sI .i64 q] (.aA []) R R1) (h3:cT X 137 [sI .i64 36,sI .i64 q] R1 R2) :
  cT X 122 [dR 36 r a b nn tg ll le,sI .i64 q] R R2:=by
 refine an.gK (rows:=[(122,53,sB true)]) ?_
 refine af aM (jZ X R R1 R2 R R R R R 36 r a b nn tg ll le q 0 true true) ?_
 have w1:afo.wrap a=a:=jl (by omega) (by omega)
 have w2:afo.wrap (X.M.jB:Int)=X.M.jB:=jl (by omega) (by omega)
 have g1:decide (a<(X.M.jB:Int))=false:=decide_eq_false hlt
 simp only[kJ,ff,fj,fQ,fR,fS,bN,aC.ok,aF,w1,w2,g1,afW,oE,afn,false_implies,true_implies,true_and,and_true]
 exact⟨an.eF h1,an.eF h3⟩
theorem Vo (ha:0≤a∧a<4294967296) (hn:X.M.jB≤1000000000)
  (h1:Ask X 120 [sB (decide (a<X.M.jB)),sI .i64 6,sI .i64 q] (.aA []) R R1) (h3:cT X 137 [sI .i64 35,sI .i64 q] R1 R2) :
  cT X 122 [dR 35 r a b nn tg ll le,sI .i64 q] R R2:=by
 refine an.gK (rows:=[(122,53,sB true)]) ?_
 refine af aM (jZ X R R1 R2 R R R R R 35 r a b nn tg ll le q 0 true true) ?_
 have w1:afo.wrap a=a:=jl (by omega) (by omega)
 have w2:afo.wrap (X.M.jB:Int)=X.M.jB:=jl (by omega) (by omega)
 simp only[kJ,ff,fj,fQ,fR,fS,bN,aC.ok,aF,w1,w2,afW,oE,afn,false_implies,true_implies,true_and,and_true]
 exact⟨an.eF h1,an.eF h3⟩
theorem Vp (ho:op=63∨op=64) (h1:Ask X 120 [sB (decide ((X.M.tN:Int)>0)),sI .i64 6,sI .i64 q] (.aA []) R R1) (h2:cT X 137 [sI .i64 op,sI .i64 q] R1 R2) :
  cT X 122 [dR op r a b nn tg ll le,sI .i64 q] R R2:=by
 refine an.gK (rows:=[(122,53,sB true)]) ?_
 refine af aM (jZ X R R1 R2 R R R R R op r a b nn tg ll le q 0 true true) ?_
 rcases ho with rfl | rfl <;>
 · simp only[kJ,ff,fj,fQ,fR,fS,bN,aC.ok,aF,afW,oE,afn,false_implies,true_implies,true_and,and_true]
   exact⟨an.eF h1,an.eF h2⟩
theorem aam (ho:Jn op=true) (h1:Ask X 120 [sB (decide ((X.M.tN:Int)>0)),sI .i64 6,sI .i64 q] (.aA []) R R1) (h2:Ask X 120 [sB (decide (a≤kS op)),sI .i64 211,sI .i64 q] (.aA []) R1 R2) (h3:cT X 137 [sI .i64 op,sI .i64 q] R2 R3) :
  cT X 122 [dR op r a b nn tg ll le,sI .i64 q] R R3:=by
 have hal:an ab5 env 127 [sI .i64 op] [] (.aA [sI .u32 (kS op),sB true]) []:=by
  have:=qg op
  rw[show rH op=true from ho] at this
  exact this
 have ho':=of_decide_eq_true ho
 refine an.gK (rows:=[(122,53,sB true)]) ?_
 refine af aM (jZ X R R1 R2 R3 R R R R op r a b nn tg ll le q (kS op) true true) ?_
 have e0:(op==32)=false:=by simp;omega
 have e1:(op==33)=false:=by simp;omega
 have e2:(op==34)=false:=by simp;omega
 have e3:(op==35)=false:=by simp;omega
 have e4:(op==36)=false:=by simp;omega
 have e5:(op==63)=false:=by simp;omega
 have e6:(op==64)=false:=by simp;omega
 simp only[kJ,ff,fj,fQ,fR,fS,bN,aC.ok,aF,e0,e1,e2,e3,e4,e5,e6,oE,afn,false_implies,true_implies,true_and,and_true]
 exact⟨an.eF hal,an.eF h1,an.eF h2,an.eF h3⟩
theorem Rl (ho:Jn op=false) (h32:op≠32∧op≠33∧op≠34∧op≠35∧op≠36∧op≠63∧op≠64) (h3:cT X 137 [sI .i64 op,sI .i64 q] R R1) :
  cT X 122 [dR op r a b nn tg ll le,sI .i64 q] R R1:=by
 have hal:an ab5 env 127 [sI .i64 op] [] (.aA [sI .u32 (kS op),sB false]) []:=by
  have:=qg op
  rw[show rH op=false from ho] at this
  exact this
 obtain⟨k0,k1,k2,k3,k4,k5,k6⟩:=h32
 refine an.gK (rows:=[(122,53,sB true)]) ?_
 refine af aM (jZ X R R1 R R R R R R op r a b nn tg ll le q (kS op) false true) ?_
 have e0:(op==32)=false:=by simpa using k0
 have e1:(op==33)=false:=by simpa using k1
 have e2:(op==34)=false:=by simpa using k2
 have e3:(op==35)=false:=by simpa using k3
 have e4:(op==36)=false:=by simpa using k4
 have e5:(op==63)=false:=by simpa using k5
 have e6:(op==64)=false:=by simpa using k6
 simp only[kJ,ff,fj,fQ,fR,fS,bN,aC.ok,aF,e0,e1,e2,e3,e4,e5,e6,oE,afn,false_implies,true_implies,true_and,and_true]
 exact⟨an.eF hal,an.eF h3⟩
def nZ (R:Rw) (e q:Int):Rw:=if e=0 then R else j4 R e q
theorem mK (g:dS R o t n c) (hle:R.h+1≤c) (hc:c≤1000000000) (op e:Int) :
  ∃R',cT X 137 [sI .i64 op,sI .i64 c] (nZ R e c) R'∧dx o t R' (if e≠0 then .bK e c else dK c (kR op) n t.dead fun n1=> .ok (n1+jh op) t.dead c):=by
 by_cases he:e=0
 · rw[nZ,if_pos he,if_neg (by simpa using he)]
   exact Vj g hle hc op c
 · rw[nZ,if_neg he,if_pos he]
   exact⟨_,Vi he,rfl,he,rfl⟩
theorem LS (hv:Wc X V) (g:dS R o t n c) (hle:R.h+1≤c) (hc:c≤1000000000) {op:Int} {a:Nat} (ha:a<4294967296) :
  ∃R',cT X 122 [dR op r a b nn tg ll le,sI .i64 c] R R'∧dx o t R' (if dG V op a≠0 then .bK (dG V op a) c else dK c (kR op) n t.dead fun n1=> .ok (n1+jh op) t.dead c):=by
 have haI:(0:Int)≤(a:Int)∧(a:Int)<4294967296:=⟨by omega,by omega⟩
 have hgN:X.M.jB≤1000000000:=by rw[hv.jB];exact hv.glM
 by_cases h1:op=32∨op=33∨op=34
 · have e1:dG V op a=if(a:Int)<V.own then 0 else 6:=by unfold dG;rw[if_pos h1]
   have hA:=fT (X:=X) (R:=R) (decide ((a:Int)<X.own)) 6 c
   rw[rX g.e (by decide)] at hA
   have hR:(if(a:Int)<X.own then R else j4 R 6 c)=nZ R (dG V op a) c:=by
    rw[e1,hv.own];by_cases hq:(a:Int)<V.own
    · rw[if_pos hq,if_pos hq];rfl
    · rw[if_neg hq,if_neg hq];rfl
   rw[hR] at hA
   obtain⟨R',r1,a1⟩:=mK (X:=X) g hle hc op (dG V op a)
   exact⟨R',Vn h1 haI hA r1,a1⟩
 by_cases h2:op=36
 · subst h2
   by_cases hlt:a<X.M.jB
   · have hg:a<V.cQ.length:=by rw[←hv.jB];exact hlt
     have hs:V.cQ[a]? = some V.cQ[a]:=bm hg
     have hcell:=hv.gl a _ hs
     have e1:dG V 36 a=if V.cQ[a]=true then 0 else 212:=by
      unfold dG
      rw[if_neg (by decide),if_pos rfl,aep,hs]
      cases V.cQ[a]<;>rfl
     have hA:=fT (X:=X) (R:=R) V.cQ[a] 212 c
     have hR:nW R V.cQ[a] 212 c=nZ R (dG V 36 a) c:=by
      rw[e1]
      cases V.cQ[a]
      · rw[gL g.e (by decide)];rfl
      · rw[j5];rfl
     rw[hR] at hA
     have hB:=fT (X:=X) (R:=nZ R (dG V 36 a) c) true 6 c
     rw[j5] at hB
     obtain⟨R',r1,a1⟩:=mK (X:=X) g hle hc 36 (dG V 36 a)
     exact⟨R',Rj haI hgN (by omega) (by rw[aep];exact hcell) hA hB r1,a1⟩
   · have hs:V.cQ[a]? = none:=dp (by rw[←hv.jB];omega)
     have e1:dG V 36 a=6:=by
      unfold dG
      rw[if_neg (by decide),if_pos rfl,aep,hs]
     have hA:=fT (X:=X) (R:=R) false 6 c
     rw[gL g.e (by decide),show j4 R 6 c=nZ R (dG V 36 a) c by rw[e1];rfl] at hA
     obtain⟨R',r1,a1⟩:=mK (X:=X) g hle hc 36 (dG V 36 a)
     exact⟨R',Rk haI hgN (by omega) hA r1,a1⟩
 by_cases h3:op=35
 · subst h3
   have e1:dG V 35 a=if(a:Int)<V.cQ.length then 0 else 6:=by unfold dG;rw[if_neg (by decide),if_neg (by decide),if_pos rfl]
   have hA:=fT (X:=X) (R:=R) (decide ((a:Int)<X.M.jB)) 6 c
   rw[rX g.e (by decide)] at hA
   have hR:(if(a:Int)<X.M.jB then R else j4 R 6 c)=nZ R (dG V 35 a) c:=by
    rw[e1,hv.jB];by_cases hq:(a:Int)<V.cQ.length
    · rw[if_pos hq,if_pos hq];rfl
    · rw[if_neg hq,if_neg hq];rfl
   rw[hR] at hA
   obtain⟨R',r1,a1⟩:=mK (X:=X) g hle hc 35 (dG V 35 a)
   exact⟨R',Vo haI hgN hA r1,a1⟩
 have hmA:=fT (X:=X) (R:=R) (decide ((X.M.tN:Int)>0)) 6 c
 rw[rX g.e (by decide)] at hmA
 have hmR:(if(X.M.tN:Int)>0 then R else j4 R 6 c)=if V.mem=true then R else j4 R 6 c:=by
  rw[hv.me]
  by_cases hq:0<X.M.tN
  · rw[if_pos (by omega),if_pos (by simpa using hq)]
  · rw[if_neg (by omega),if_neg (by simpa using hq)]
 rw[hmR] at hmA
 by_cases h4:op=63∨op=64
 · have e1:dG V op a=if V.mem=true then 0 else 6:=by unfold dG;rw[if_neg (by omega),if_neg h2,if_neg h3,if_pos h4]
   have hR:(if V.mem=true then R else j4 R 6 c)=nZ R (dG V op a) c:=by
    rw[e1];by_cases hq:V.mem=true
    · rw[if_pos hq,if_pos hq];rfl
    · rw[if_neg hq,if_neg hq];rfl
   rw[hR] at hmA
   obtain⟨R',r1,a1⟩:=mK (X:=X) g hle hc op (dG V op a)
   exact⟨R',Vp h4 hmA r1,a1⟩
 by_cases h5:Jn op=true
 · have e1:dG V op a=if V.mem=true then(if kS op<a then 211 else 0) else 6:=by unfold dG;rw[if_neg (by omega),if_neg h2,if_neg h3,if_neg h4,if_pos h5]
   have hB:=fT (X:=X) (R:=if V.mem=true then R else j4 R 6 c) (decide ((a:Int)≤kS op)) 211 c
   have hR:nW (if V.mem=true then R else j4 R 6 c) (decide ((a:Int)≤kS op)) 211 c=nZ R (dG V op a) c:=by
    rw[e1]
    by_cases hq:V.mem=true
    · rw[if_pos hq,if_pos hq,rX g.e (by decide)]
      by_cases hz:(a:Int)≤kS op
      · rw[if_pos hz,if_neg (by omega)];rfl
      · rw[if_neg hz,if_pos (by omega)];rfl
    · rw[if_neg hq,if_neg hq,vX (by decide:(6:Int)≠0)];rfl
   rw[hR] at hB
   obtain⟨R',r1,a1⟩:=mK (X:=X) g hle hc op (dG V op a)
   exact⟨R',aam h5 hmA hB r1,a1⟩
 · have e1:dG V op a=0:=by unfold dG;rw[if_neg (by omega),if_neg h2,if_neg h3,if_neg h4,if_neg h5]
   obtain⟨R',r1,a1⟩:=mK (X:=X) g hle hc op (dG V op a)
   rw[show nZ R (dG V op a) c=R by rw[e1];rfl] at r1
   exact⟨R',Rl (by simpa using h5) (by omega) r1,a1⟩
end
section
variable {X:Lx} {V:kg} {R:Rw} {o:List Fr} {t:Fr} {n c:Nat}
variable {r a b nn:Int} {tg:List Int} {ll le:List Ins}
theorem nV.bK (g:nV R o t n) (e q:Int):nV (j4 R e q) o t n:=⟨g.h,g.k,g.cs,g.ok⟩
def HD (R:Rw) (jw:Bool) (e q:Int):Rw:=if jw=true then R else j4 R e q
theorem rY (g:nV R o t n) (he:R.e=0) (jw:Bool) (x:Int) (hx:0≤x∧x<4294967296) (q:Nat) :
  Ask X 116 [sI .u32 x,sI .i64 q] (sI .i64 ((bJ (o++[t])).getD x.toNat 0:Nat)) (HD R jw 6 q) (HD R (jw&&decide (x<(o++[t]).length)) 6 q):=by
 obtain⟨m,rfl⟩:=ah4 hx.1
 have hd:decide ((m:Int)<((o++[t]).length:Int))=decide (m<(o++[t]).length):=by congr 1;exact propext (by omega)
 cases jw with
 |true=>
  have h:=tS (X:=X) g m (by omega) q
  have e1:nW R (decide (m<(o++[t]).length)) 6 q=HD R (true&&decide ((m:Int)<((o++[t]).length:Int))) 6 q:=by
   rw[rX he (by decide),ae2,hd,HD]
   by_cases hq:m<(o++[t]).length
   · rw[if_pos hq,if_pos (decide_eq_true hq)]
   · rw[if_neg hq,if_neg (by simpa using hq)]
  rw[e1] at h
  exact h
 |false=>
  have h:=tS (X:=X) (g.bK 6 q) m (by omega) q
  rw[vX (by decide:(6:Int)≠0)] at h
  exact h
def zn (ls:List Nat) (l:List Int):List PV:=l.map fun x=> .sc (.int .i64 (ls.getD x.toNat 0:Nat))
theorem Rm (ls:List Nat) (l:List Int) {i:Nat} (h:i<l.length):(zn ls l).getD i .bK = .sc (.int .i64 (ls.getD (l.getD i 0).toNat 0:Nat)):=by
 rw[zn,cb,List.getElem?_map,bm h]
 simp[cb,bm h]
def Fz (R:Rw) (jw same:Bool) (q:Int):Rw:=HD (HD R same 214 q) jw 6 q
theorem Vq (he:R.e=0) (jw same y:Bool) (q:Int):Ask X 120 [sB y,sI .i64 214,sI .i64 q] (.aA []) (Fz R jw same q) (Fz R jw (same&&y) q):=by
 have h:=fT (X:=X) (R:=Fz R jw same q) y 214 q
 have e1:nW (Fz R jw same q) y 214 q=Fz R jw (same&&y) q:=by
  cases jw with
  |false=>
   have e (z:Bool):Fz R false z q=j4 (HD R z 214 q) 6 q:=rfl
   rw[e,vX (R:=j4 (HD R same 214 q) 6 q) (by decide:(6:Int)≠0),e]
   cases same<;>cases y<;>rfl
  |true=>
   have e0:Fz R true false q=j4 R 214 q:=rfl
   have e1:Fz R true true q=R:=rfl
   cases same with
   |false=>rw[e0,vX (R:=j4 R 214 q) (by decide:(214:Int)≠0),ahF,e0]
   |true=>
    rw[e1,ae2]
    cases y with
    |true=>rw[j5,e1]
    |false=>rw[gL he (by decide),e0]
 rw[e1] at h
 exact h
theorem Vr (g:dS R o t n c) (jw same:Bool) (k:Nat) :
  ∃R1 R2 R3,cT X 117 [sI .i64 (1:Nat),sI .i64 c] (Fz R jw same c) R1∧cT X 117 [sI .i64 k,sI .i64 c] R1 R2∧cT X 114 [sI .i64 c] R2 R3 ∧
   dx o t R3 (if jw=false then .bK 6 c else if same=false then .bK 214 c else dK c 1 n t.dead fun n1=>dK c k n1 t.dead fun _=> .ok 0 true c):=by
 cases jw with
 |false=>
  have hb:(Fz R false same c).e≠0:=(by decide:(6:Int)≠0)
  exact⟨_,_,_,tQ hb,tQ hb,QX hb,rfl,by decide,rfl⟩
 |true=>cases same with
  |false=>
   have hb:(Fz R true false c).e≠0:=(by decide:(214:Int)≠0)
   exact⟨_,_,_,tQ hb,tQ hb,QX hb,rfl,by decide,rfl⟩
  |true=>
   obtain⟨R1,r1,a1,h1,x1⟩:=oH (X:=X) g 1 c
   have Si:=g.nx
   have step : ∀v,dx o t R1 v→(∀n' d c',v = .ok n' d c'→d=t.dead∧c'=c) → ∃R2 R3,cT X 117 [sI .i64 k,sI .i64 c] R1 R2∧cT X 114 [sI .i64 c] R2 R3∧dx o t R3 (v.and fun m d c=>dK c k m d fun _=> .ok 0 true c):=by
    intro v hv hd
    cases v with
    |bK e q=>
     have hb:R1.e≠0:=by rw[hv.1];exact hv.2.1
     exact⟨R1,R1,tQ hb,QX hb,hv⟩
    |ok m d c'=>
     obtain⟨rfl,rfl⟩:=hd _ _ _ rfl
     obtain⟨R2,R3,r2,r3,a3⟩:=nY (X:=X) (t:=⟨t.op,t.base,t.res,t.dead⟩) hv k c'
     exact⟨R2,R3,r2,r3,a3⟩
   obtain⟨R2,R3,r2,r3,a3⟩:=step _ a1 (fun n' d c' hv=>by
    unfold dK at hv;split at hv
    · cases hv
    · cases hv;exact⟨rfl,rfl⟩)
   rw[lJ] at a3
   exact⟨R1,R2,R3,r1,r2,r3,a3⟩
abbrev i14 (r a b nn:Int) (tg:List Int) (ll le:List Ins):aU:= .pc [.sc (.int .i64 14),.sc (.int .i64 r),.sc (.int .u32 a),.sc (.int .u32 b),.sc (.int .i32 nn),.ps tg.length 1 (dw .u32 tg),.ps ll.length 8 (aq ll),.ps le.length 8 (aq le)]
theorem LU (he:R.e=0) (jw:Bool) (ls:List Nat) (v q:Nat) (hlen:tg.length≤1000000000) {R1 R2 R3:Rw}
  (r1:cT X 117 [sI .i64 (1:Nat),sI .i64 q] (Fz R jw (tg.all fun x=>ls.getD x.toNat 0==v) q) R1) (r2:cT X 117 [sI .i64 v,sI .i64 q] R1 R2) (r3:cT X 114 [sI .i64 q] R2 R3) :
  ∀(m i:Nat),i+m=tg.length→bR ab5 env (ak ab5 env 119 2 [.mp 0 0,sI .i64 q,sI .i64 v,.os (some 2) tg.length 1 (zn ls tg),sI .i64 tg.length,sI .i64 i]
   (eK X (Fz R jw ((tg.take i).all fun x=>ls.getD x.toNat 0==v) q)++[.tok]) 2 55) (.ret (.aA []) (kU X R3)):=by
 intro m
 induction m with
 |zero=>
  intro i hi
  have VN:tg.take i=tg:=dk (by omega)
  rw[VN]
  refine ah aM (Fy X (Fz R jw (tg.all fun x=>ls.getD x.toNat 0==v) q) R1 R2 R3 R R R R q v 0 i tg.length (zn ls tg)) ?_
  have g1:decide ((i:Int)<(tg.length:Int))=false:=by simp;omega
  simp only[De,bN,aC.ok,aF,g1,oE,false_implies,true_implies,true_and,and_true]
  exact⟨r1,r2,r3⟩
 |succ m ih=>
  intro i hi
  have hlt:i<tg.length:=by omega
  have hih:=ih (i+1) (by omega)
  have Wu:tg.take (i+1)=tg.take i++[tg.getD i 0]:=by
   rw[agQ,bm hlt,cb,bm hlt];rfl
  rw[Wu,ag7,ag8,ahz,aeU] at hih
  have hA:=Vq (X:=X) he jw ((tg.take i).all fun x=>ls.getD x.toNat 0==v) (ls.getD (tg.getD i 0).toNat 0==v) q
  refine ah aM (Fy X _ (Fz R jw (((tg.take i).all fun x=>ls.getD x.toNat 0==v)&&(ls.getD (tg.getD i 0).toNat 0==v)) q) R R R R R R q v (ls.getD (tg.getD i 0).toNat 0:Nat) i tg.length (zn ls tg)) ?_
  have g1:decide ((i:Int)<(tg.length:Int))=true:=by simp;omega
  have hm:=Rm ls tg hlt
  have hy:(((ls.getD (tg.getD i 0).toNat 0:Nat):Int)==(v:Int))=(ls.getD (tg.getD i 0).toNat 0==v):=by
   rw[Bool.eq_iff_iff,beq_iff_eq,beq_iff_eq];omega
  have w1:rn.wrap ((i:Int)+1)=((i+1:Nat):Int):=by rw[aO (by omega) (by omega)];rfl
  simp only[De,bN,aC.ok,aF,g1,w1,aep,aeX,hm,isInt,az,ik,hy,bp,afn,false_implies,true_implies,true_and,and_true,aeU,ch,decide_eq_true_eq]
  exact⟨by omega,hA,hih⟩
theorem LV (g:dS R o t n c) (ha:0≤a∧a<4294967296) (V6 : ∀x∈tg,0≤x∧x<4294967296) (hlen:tg.length≤1000000000) {R1 R2 R3:Rw}
  (r1:cT X 117 [sI .i64 (1:Nat),sI .i64 c] (Fz R ((tg.all fun x=>decide (x<(o++[t]).length))&&decide (a<(o++[t]).length)) (tg.all fun x=>(bJ (o++[t])).getD x.toNat 0==(bJ (o++[t])).getD a.toNat 0) c) R1)
  (r2:cT X 117 [sI .i64 ((bJ (o++[t])).getD a.toNat 0:Nat),sI .i64 c] R1 R2) (r3:cT X 114 [sI .i64 c] R2 R3) :
  ∀(m i:Nat),i+m=tg.length→1≤i→bR ab5 env (ak ab5 env 119 0 [.mp 0 0,sI .i64 c,.mp 2 0,.os (some 3) i 1 (zn (bJ (o++[t])) (tg.take i)),tgA tg,sI .i64 tg.length,sI .i64 i]
   (eK X (HD R ((tg.take i).all fun x=>decide (x<(o++[t]).length)) 6 c)++[i14 r a b nn tg ll le,.tok]) 2 55) (.ret (.aA []) (kU X R3)):=by
 intro m
 induction m with
 |zero=>
  intro i hi h1
  have VN:tg.take i=tg:=dk (by omega)
  obtain rfl:i=tg.length:=by omega
  rw[VN]
  have hA:=rY (X:=X) g.gY g.e (tg.all fun x=>decide (x<(o++[t]).length)) a ha c
  have MV:=LU (X:=X) g.e ((tg.all fun x=>decide (x<(o++[t]).length))&&decide (a<(o++[t]).length)) (bJ (o++[t])) ((bJ (o++[t])).getD a.toNat 0) c hlen r1 r2 r3 tg.length 0 (by omega)
  have hz:Fz R ((tg.all fun x=>decide (x<(o++[t]).length))&&decide (a<(o++[t]).length)) ((tg.take 0).all fun x=>(bJ (o++[t])).getD x.toNat 0==(bJ (o++[t])).getD a.toNat 0) c =
    HD R ((tg.all fun x=>decide (x<(o++[t]).length))&&decide (a<(o++[t]).length)) 6 c:=rfl
  rw[hz] at MV
  refine ah aM (Fx X _ (HD R ((tg.all fun x=>decide (x<(o++[t]).length))&&decide (a<(o++[t]).length)) 6 c) R R R R R R r a b nn tg ll le c tg.length tg.length (zn (bJ (o++[t])) tg) 0 ((bJ (o++[t])).getD a.toNat 0:Nat)) ?_
  have g1:decide ((tg.length:Int)<(tg.length:Int))=false:=by simp
  simp only[Dd,bN,aC.ok,aF,g1,oE,false_implies,true_implies,true_and,and_true]
  exact⟨hA,MV⟩
 |succ m ih=>
  intro i hi h1
  have hlt:i<tg.length:=by omega
  have hih:=ih (i+1) (by omega) (by omega)
  have Wu:tg.take (i+1)=tg.take i++[tg.getD i 0]:=by
   rw[agQ,bm hlt,cb,bm hlt];rfl
  have hmem:tg.getD i 0∈tg:=by rw[cb,bm hlt];exact List.getElem_mem hlt
  rw[Wu,ag7,ag8,ahz,aeU] at hih
  have WO:zn (bJ (o++[t])) (tg.take i++[tg.getD i 0])=zn (bJ (o++[t])) (tg.take i)++[.sc (.int .i64 ((bJ (o++[t])).getD (tg.getD i 0).toNat 0:Nat))]:=by simp[zn]
  rw[WO] at hih
  have hA:=rY (X:=X) g.gY g.e ((tg.take i).all fun x=>decide (x<(o++[t]).length)) (tg.getD i 0) (V6 _ hmem) c
  refine ah aM (Fx X _ (HD R (((tg.take i).all fun x=>decide (x<(o++[t]).length))&&decide (tg.getD i 0<(o++[t]).length)) 6 c) R R R R R R r a b nn tg ll le c i i (zn (bJ (o++[t])) (tg.take i)) (tg.getD i 0) ((bJ (o++[t])).getD (tg.getD i 0).toNat 0:Nat)) ?_
  have g1:decide ((i:Int)<(tg.length:Int))=true:=by simp;omega
  have w1:rn.wrap ((i:Int)+1)=((i+1:Nat):Int):=by rw[aO (by omega) (by omega)];rfl
  have Ee:ef=70368744177664:=rfl
  simp only[Dd,bN,aC.ok,aF,g1,w1,aep,aeX,xX,xW,bp,afn,false_implies,true_implies,true_and,and_true,aeU,ch,decide_eq_true_eq,aeT]
  exact⟨by omega,hlt,hA,⟨by omega,by omega⟩,hih⟩
theorem LW (g:dS R o t n c) (ha:0≤a∧a<4294967296) (V6 : ∀x∈tg,0≤x∧x<4294967296) (hlen:tg.length≤1000000000) :
  ∃R',cT X 119 [dR 14 r a b nn tg ll le,sI .i64 c] R R'∧dx o t R' (fW V (bJ (o++[t])) 14 a tg n t.dead c):=by
 have Sx:(bJ (o++[t])).length=(o++[t]).length:=by simp[bJ]
 obtain⟨R1,R2,R3,r1,r2,r3,a3⟩:=Vr (X:=X) g ((tg.all fun x=>decide (x<(o++[t]).length))&&decide (a<(o++[t]).length)) (tg.all fun x=>(bJ (o++[t])).getD x.toNat 0==(bJ (o++[t])).getD a.toNat 0) ((bJ (o++[t])).getD a.toNat 0)
 refine⟨R3,?_,?_⟩
 · refine af aM (Rf X R R R R R R R R r a b nn tg ll le c) ?_
   simp only[JI,bN,aC.ok,aF]
   cases Vs:tg with
   |nil=>
    subst Vs
    have hA:=rY (X:=X) g.gY g.e true a ha c
    have h2:bR ab5 env (ak ab5 env 119 2 [.mp 0 0,sI .i64 c,sI .i64 ((bJ (o++[t])).getD a.toNat 0:Nat),.os none 0 0 [],sI .i64 0,sI .i64 (0:Nat)] (eK X (HD R (true&&decide (a<(o++[t]).length)) 6 c)) 2 55) (.ret (.aA []) (kU X R3)):=by
     refine ah aM (Rg X _ R1 R2 R3 R R R R c ((bJ (o++[t])).getD a.toNat 0:Nat) 0 0 0 []) ?_
     simp only[JJ,aC.ok,aF,oE,false_implies,true_implies,true_and,and_true]
     exact⟨r1,r2,r3⟩
    refine ah aM (Fw X R (HD R (true&&decide (a<(o++[t]).length)) 6 c) R R R R R R r a b nn [] ll le c 0 0 [] 0 ((bJ (o++[t])).getD a.toNat 0:Nat)) ?_
    simp only[Dc,bN,aC.ok,aF,List.length_nil]
    refine⟨fun hq=>absurd hq (by decide),fun _=>⟨hA,h2⟩⟩
   |cons x l=>
    have hlt:0<tg.length:=by rw[Vs];simp
    have hA:=rY (X:=X) g.gY g.e true x (V6 x (by rw[Vs];simp)) c
    have pS:=LV (X:=X) (r:=r) (b:=b) (nn:=nn) (ll:=ll) (le:=le) g ha V6 hlen r1 r2 r3 (tg.length-1) 1 (by omega) (by omega)
    rw[Vs] at pS
    have hT:(List.take 1 (x::l)).all (fun x=>decide (x<((o++[t]).length:Int)))=(true&&decide (x<((o++[t]).length:Int))):=by simp
    rw[hT] at pS
    refine ah aM (Fw X R (HD R (true&&decide (x<(o++[t]).length)) 6 c) R R R R R R r a b nn (x::l) ll le c 0 0 [] x ((bJ (o++[t])).getD x.toNat 0:Nat)) ?_
    have g1:decide (((0:Nat):Int)<(((x::l).length:Nat):Int))=true:=by simp
    have Ee:ef=70368744177664:=rfl
    have hgd:(x::l).getD 0 0=x:=rfl
    simp only[Dc,bN,aC.ok,aF,g1,aep,Nat.zero_mul,xX,xW,hgd,bp,afn,false_implies,true_implies,true_and,and_true,aeU,ch,decide_eq_true_eq,aeT]
    refine⟨by simp,by simp,hA,?_⟩
    first | exact⟨rfl,pS⟩ | exact⟨by omega,rfl,pS⟩ | exact pS
 · have e1:fW V (bJ (o++[t])) 14 a tg n t.dead c=(match Zz (bJ (o++[t])) tg a with
    |.inl e=> .bK e c
    |.inr k=>dK c 1 n t.dead fun n1=>dK c k n1 t.dead fun _=> .ok 0 true c):=rfl
   rw[e1]
   unfold Zz
   rw[Sx]
   by_cases hall:(tg.all fun x=>decide (x<((o++[t]).length:Int)))=true
   · rw[if_neg (by rw[hall];decide)]
     rw[hall,ae2] at a3
     by_cases hlt:a<((o++[t]).length:Int)
     · have hs:(bJ (o++[t]))[a.toNat]? = some ((bJ (o++[t])).getD a.toNat 0):=by
        rw[cb,bm (by omega)];rfl
       rw[hs]
       rw[decide_eq_true hlt,if_neg (by decide)] at a3
       dsimp only
       by_cases hsame:(tg.all fun x=>(bJ (o++[t])).getD x.toNat 0==(bJ (o++[t])).getD a.toNat 0)=true
       · rw[if_pos hsame]
         rw[hsame,if_neg (by decide)] at a3
         exact a3
       · rw[if_neg hsame]
         rw[if_pos (by simpa using hsame)] at a3
         exact a3
     · have hs:(bJ (o++[t]))[a.toNat]? = none:=dp (by omega)
       rw[hs]
       rw[decide_eq_false hlt,if_pos rfl] at a3
       exact a3
   · have hall:(tg.all fun x=>decide (x<((o++[t]).length:Int)))=false:=by simpa using hall
     rw[hall,ahF,if_pos rfl] at a3
     rw[if_pos hall]
     exact a3
end
end Go.Proofs.YtjfgfhaoeicpdaaGreatDoor.N
end
