import Derived.Test.YtdmmllcjgjmbbaaGreatDoorMJ
import Derived.Test.YtdmmllcjgjmbbaaGreatDoorMO
import Derived.Test.YtdmmllcjgjmbbaaGreatDoorMR
open Go.Proofs.Tryz renaming prog→acb
open Go.IntKind renaming i64→sb,u32→abY,u64→ae6,i32→aeW
open List renaming map→ab6,getElem?_eq_getElem→cb,getD_eq_getElem?_getD→ch,getElem?_eq_none→dt,range'→xi,take_of_length_le→dq,take_add_one→afr,all_append→afs,all_cons→aft,all_nil→afu
open Nat renaming lt_or_ge→fg,mul_one→aeR,ble_eq→aeN
open Bool renaming false_eq_true→pb,true_eq_false→ae5,and_eq_true→c8,and_true→aeq,true_and→aeM,not_eq_true'→im,false_and→afv
open Int renaming toNat_natCast→acy,reduceBEq→afq,eq_ofNat_of_zero_le→afw
open Go.Value renaming int→sT
noncomputable section
section
set_option linter.unusedSimpArgs false
namespace Go.Proofs.YtdmmllcjgjmbbaaGreatDoor.N
open Go Go.Am
def I0 (_:FuncId) (_:List AV) (_:Mem):Option (AV×Mem):=none
def XL:bH:=aT I0 aA [] [(184,2,3),(177,0,1),(177,0,2),(177,0,3),(177,0,4),(177,0,5),(177,0,6),(177,0,7),(177,0,8),(177,0,9),(177,0,10),(177,0,11),(177,0,12),(177,0,13),(177,0,14),(177,0,15),(177,0,16),(177,0,17),(177,0,18),(177,0,19)] []
def abc:Sc:=(.yes (.no (.no (.no (.no (.no (.no (.no (.no (.no (.no (.no (.no (.no (.no (.no (.no (.no (.no (.no .fin))))))))))))))))))))
def I1 (op:Int):az:=
 (.must (decide (op<0))
 (.must (!(op==1))
 (.must (!(op==26))
 (.must (!(op==33))
 (.must (!(op==36))
 (.must (!(op==27))
 (.must (!(op==32))
 (.must (!(op==35))
 (.must (!(op==63))
 (.must (!(op==65))
 (.must (!(op==34))
 (.must (!(op==40))
 (.must (!(op==44))
 (.must (!(op==45))
 (.must (!(op==46))
 (.must (!(op==47))
 (.must (!(op==64))
 (.must (!(op==54))
 (.must (!(op==58))
 (.must (!(op==59))
 (.out (.ret (.au [sI .i64 0,sI .i64 0,sB false]) []))))))))))))))))))))))
theorem Pm (op:Int):aG acb env XL 1000000 177 ([sI sb op]) ([]) abc=I1 op:=by kernel_rfl
def XM:bH:=aT I0 aA [] [(184,2,3),(184,0,0),(177,0,1),(177,0,2),(177,0,3),(177,0,4),(177,0,5),(177,0,6),(177,0,7),(177,0,8),(177,0,9),(177,0,10),(177,0,11),(177,0,12),(177,0,13),(177,0,14),(177,0,15),(177,0,16),(177,0,17),(177,0,18),(177,0,19)] []
def abd:Sc:=(.no (.yes (.no (.no (.no (.no (.no (.no (.no (.no (.no (.no (.no (.no (.no (.no (.no (.no (.no (.no (.no .fin)))))))))))))))))))))
def I2 (op:Int):az:=
 (.must (!(decide (op<0)))
 (.must (decide (op>120))
 (.must (!(op==1))
 (.must (!(op==26))
 (.must (!(op==33))
 (.must (!(op==36))
 (.must (!(op==27))
 (.must (!(op==32))
 (.must (!(op==35))
 (.must (!(op==63))
 (.must (!(op==65))
 (.must (!(op==34))
 (.must (!(op==40))
 (.must (!(op==44))
 (.must (!(op==45))
 (.must (!(op==46))
 (.must (!(op==47))
 (.must (!(op==64))
 (.must (!(op==54))
 (.must (!(op==58))
 (.must (!(op==59))
 (.out (.ret (.au [sI .i64 0,sI .i64 0,sB false]) [])))))))))))))))))))))))
theorem Pn (op:Int):aG acb env XM 1000000 177 ([sI sb op]) ([]) abd=I2 op:=by kernel_rfl
abbrev shV (op:Int):AV:= .au [sI .i64 (lu op),sI .i64 (jt op),sB (yG op)]
theorem I3 {op:Int} (h:op<0∨120<op):shV op = .au [sI .i64 0,sI .i64 0,sB false]:=by
 have h1:lu op=0:=by
  unfold lu
  rw[if_neg (by omega),if_neg (by omega),if_neg (by omega)]
 have h2:jt op=0:=by
  unfold jt
  rw[if_neg (by omega)]
 have h3:yG op=false:=by
  unfold yG
  rw[h1,h2]
  simp only[decide_eq_false_iff_not]
  omega
 rw[shV,h1,h2,h3]
 rfl
def arN (n:Nat):Int:=if n=69∨n=103∨n=104∨n=105 then 1 else if(70≤n∧n≤79)∨(106≤n∧n≤120) then 2 else 0
def Ys:bQ:=⟨188,[],[],.agg ((List.range 121).map fun n=>sI .i64 (arN n)),[]⟩
theorem arD:an acb env Ys.g Ys.args Ys.m Ys.v Ys.m':=bT aM (K:=[]) fq (n:=1000000) (by kernel_rfl)
def arK:List bQ:=[Ys]
theorem abe:dY acb env arK:=cU arD fq
def oC (n:Nat):Bool:=
 match Ci acb env arK 100000 177 [sI .i64 n] [] with
 |some (.ret v m)=>ej v (shV n)&&qJ m []
 |_=>false
theorem S0:(xi 0 31).all oC=true:=by kernel_rfl
theorem S1:(xi 31 30).all oC=true:=by kernel_rfl
theorem S2:(xi 61 30).all oC=true:=by kernel_rfl
theorem S3:(xi 91 30).all oC=true:=by kernel_rfl
theorem GU {n:Nat} (h:n<121):oC n=true:=by
 have get : ∀a k,(xi a k).all oC=true→a≤n→n<a+k→oC n=true:=fun a k ha h1 h2=>List.all_eq_true.1 ha n (List.mem_range'_1.2 ⟨h1,h2⟩)
 rcases fg n 31 with q | q
 · exact get 0 31 S0 (by omega) (by omega)
 rcases fg n 61 with q | q
 · exact get 31 30 S1 (by omega) (by omega)
 rcases fg n 91 with q | q
 · exact get 61 30 S2 (by omega) (by omega)
 · exact get 91 30 S3 (by omega) (by omega)
theorem E1 (op:Int):an acb env 177 [sI .i64 op] [] (shV op) []:=by
 by_cases h0:op<0
 · rw[I3 (.inl h0)]
   refine af aM (Pm op) ?_
   simp only[I1,az.ok,im,beq_eq_false_iff_ne,decide_eq_true_eq,decide_eq_false_iff_not]
   repeat' first | exact True.intro | exact rfl | apply And.intro
   all_goals omega
 · by_cases h1:120<op
   · rw[I3 (.inr h1)]
     refine af aM (Pn op) ?_
     simp only[I2,az.ok,im,beq_eq_false_iff_ne,decide_eq_false_iff_not,decide_eq_true_eq]
     repeat' first | exact True.intro | exact rfl | apply And.intro
     all_goals omega
   · obtain⟨n,rfl⟩:=afw (by omega:0≤op)
     have hr:=GU (n:=n) (by omega)
     unfold oC at hr
     split at hr
     · rename_i v m hx
       rw[c8] at hr
       rw[kO hr.1,lH hr.2] at hx
       exact bT aM abe hx
     · cases hr
end Go.Proofs.YtdmmllcjgjmbbaaGreatDoor.N
end
section
set_option linter.unusedSimpArgs false
set_option linter.unusedVariables false
namespace Go.Proofs.YtdmmllcjgjmbbaaGreatDoor.N
open Go Go.Am
abbrev tgA (tg:List Int):AV:= .p (.ps tg.length 1 (dZ .u32 tg))
def tbS (X:Lx) (R R1 R2 R3 R4 R5 R6 R7:Rw) (r a b nn:Int) (tg:List Int) (ll le:List Ins) (q:Int) (i k:Nat) (ms:List PV) (t v:Int):FuncId→Nat→Nat→Option (AV→AV):=cM [(133,5,1,sI .u32 t),(133,7,0,sI .i64 ((i+1:Nat):Int))]
def tmS (X:Lx) (R R1 R2 R3 R4 R5 R6 R7:Rw) (q n x:Int) (i k:Nat) (ms:List PV):FuncId→Nat→Nat→Option (AV→AV):=cM [(133,11,1,sI .i64 x),(133,13,0,sI .i64 ((i+1:Nat):Int))]
def liS (X:Lx) (R R1 R2 R3 R4 R5 R6 R7:Rw) (xs:List Ins) (i:Nat) (op r a b nn:Int) (tg:List Int) (ll le:List Ins):FuncId→Nat→Nat→Option (AV→AV):=cM [(84,3,1,dO op r a b nn tg ll le),(84,5,4,sI .i64 (R.nx+1)),(84,7,0,sI .i64 ((i+1:Nat):Int))]
def XN:bH:=aT aH aA [(133,0),(133,2)] [] []
def abf:Sc:= .fin
def I4 (X:Lx) (R:Rw) (R1:Rw) (R2:Rw) (R3:Rw) (R4:Rw) (R5:Rw) (R6:Rw) (R7:Rw) (r a b nn:Int) (tg:List Int) (ll:List Ins) (le:List Ins) (q:Int):az:=
 (.at (ak acb env 133 0 [.mp 0 0,sI .i64 q,.mp 2 0,xQ,.p (.ps tg.length 1 (dZ abY tg)),sI .i64 (↑tg.length:Int),sI .i64 0] ([aV X.M X.tP X.tR X.own R.h 1 R.k R.e R.p R.nx,.ob (aD.gr 160 true) (ab6 aa (ab6 AV.p R.cs)),.pc [sP 14,sP r,.sc (.int .u32 a),.sc (.int .u32 b),.sc (.int .i32 nn),.ps tg.length 1 (dZ abY tg),.ps ll.length 8 (aq ll),.ps le.length 8 (aq le)]]) 2 55))
theorem Po (X:Lx) (R:Rw) (R1:Rw) (R2:Rw) (R3:Rw) (R4:Rw) (R5:Rw) (R6:Rw) (R7:Rw) (r a b nn:Int) (tg:List Int) (ll:List Ins) (le:List Ins) (q:Int):aG acb env XN 1000000 133 ([AV.mp 0 0,dO 14 r a b nn tg ll le,sI sb q]) (eK X R) abf=I4 X R R1 R2 R3 R4 R5 R6 R7 r a b nn tg ll le q:=by kernel_rfl
def XO (X:Lx) (R:Rw) (R1:Rw) (R2:Rw) (R3:Rw) (R4:Rw) (R5:Rw) (R6:Rw) (R7:Rw) (r a b nn:Int) (tg:List Int) (ll:List Ins) (le:List Ins) (q:Int) (i:Nat) (k:Nat) (ms:List PV) (t v:Int):bH:=gx aH aA [(133,0),(133,2)] [(133,0,1)] [(133,5,0),(133,5,1)] (tbS X R R1 R2 R3 R4 R5 R6 R7 r a b nn tg ll le q i k ms t v)
def abg (X:Lx) (R:Rw) (R1:Rw) (R2:Rw) (R3:Rw) (R4:Rw) (R5:Rw) (R6:Rw) (R7:Rw) (r a b nn:Int) (tg:List Int) (ll:List Ins) (le:List Ins) (q:Int) (i:Nat) (k:Nat) (ms:List PV) (t v:Int):Sc:=(.fork (.ans 130 (sI .i64 v) ([aV X.M X.tP X.tR X.own R1.h 1 R1.k R1.e R1.p R1.nx,.ob (aD.gr 160 true) (ab6 AV.p R1.cs)]) .fin) (.ans 130 (sI .i64 v) ([aV X.M X.tP X.tR X.own R1.h 1 R1.k R1.e R1.p R1.nx,.ob (aD.gr 160 true) (ab6 AV.p R1.cs)]) .fin))
def C0 (X:Lx) (R:Rw) (R1:Rw) (R2:Rw) (R3:Rw) (R4:Rw) (R5:Rw) (R6:Rw) (R7:Rw) (r a b nn:Int) (tg:List Int) (ll:List Ins) (le:List Ins) (q:Int) (i:Nat) (k:Nat) (ms:List PV) (t v:Int):az:=
 (.test (decide ((↑i:Int)<(↑tg.length:Int)))
 (.must (aW (↑i:Int) tg.length&&true&&true)
 (.must (isInt abY (aF (dZ abY tg) (aJ i*1))&&true)
 (.need (sI .u32 (av (aF (dZ abY tg) (aJ i*1)))=sI abY t)
 (.call ⟨130,[.mp 0 0,sI .u32 t,sI .i64 q],[aV X.M X.tP X.tR X.own R.h 1 R.k R.e R.p R.nx,.ob (aD.gr 160 true) (ab6 aa (ab6 AV.p R.cs))],sI .i64 v,[aV X.M X.tP X.tR X.own R1.h 1 R1.k R1.e R1.p R1.nx,.ob (aD.gr 160 true) (ab6 AV.p R1.cs)]⟩
 (.need (sI .i64 (sb.wrap ((↑i:Int)+1))=sI sb (↑(i+1):Int))
 (.at (ak acb env 133 0 [.mp 0 0,sI .i64 q,.mp 2 0,.os (some 3) 1 1 [sP v],.p (.ps tg.length 1 (dZ abY tg)),sI .i64 (↑tg.length:Int),sI .i64 (↑(i+1):Int)] ([aV X.M X.tP X.tR X.own R1.h 1 R1.k R1.e R1.p R1.nx,.ob (aD.gr 160 true) (ab6 aa (ab6 aa (ab6 AV.p R1.cs))),.pc [sP 14,sP r,.sc (.int .u32 a),.sc (.int .u32 b),.sc (.int .i32 nn),.ps tg.length 1 (dZ abY tg),.ps ll.length 8 (aq ll),.ps le.length 8 (aq le)],.tok]) 2 55)))))))
 (.call ⟨130,[.mp 0 0,sI .u32 a,sI .i64 q],[aV X.M X.tP X.tR X.own R.h 1 R.k R.e R.p R.nx,.ob (aD.gr 160 true) (ab6 aa (ab6 AV.p R.cs))],sI .i64 v,[aV X.M X.tP X.tR X.own R1.h 1 R1.k R1.e R1.p R1.nx,.ob (aD.gr 160 true) (ab6 AV.p R1.cs)]⟩
 (.at (ak acb env 133 2 [.mp 0 0,sI .i64 q,sI .i64 v,xQ,sI .i64 0,sI .i64 0] ([aV X.M X.tP X.tR X.own R1.h 1 R1.k R1.e R1.p R1.nx,.ob (aD.gr 160 true) (ab6 aa (ab6 aa (ab6 AV.p R1.cs)))]) 2 55))))
theorem E2 (X:Lx) (R:Rw) (R1:Rw) (R2:Rw) (R3:Rw) (R4:Rw) (R5:Rw) (R6:Rw) (R7:Rw) (r a b nn:Int) (tg:List Int) (ll:List Ins) (le:List Ins) (q:Int) (i:Nat) (k:Nat) (ms:List PV) (t v:Int):grow acb env (XO X R R1 R2 R3 R4 R5 R6 R7 r a b nn tg ll le q i k ms t v) 1000000 true (ak acb env 133 0 ([AV.mp 0 0,sI sb q,AV.mp 2 0,AV.os Option.none 0 0 [],tgA tg,sI sb (↑tg.length:Int),sI sb (↑i:Int)]) (eK X R++[aU.pc [PV.sc (sT sb 14),PV.sc (sT sb r),PV.sc (sT abY a),PV.sc (sT abY b),PV.sc (sT aeW nn),PV.ps tg.length 1 (dZ abY tg),PV.ps ll.length 8 (aq ll),PV.ps le.length 8 (aq le)]]) 2 55) (abg X R R1 R2 R3 R4 R5 R6 R7 r a b nn tg ll le q i k ms t v) atEnd=C0 X R R1 R2 R3 R4 R5 R6 R7 r a b nn tg ll le q i k ms t v:=by kernel_rfl
def XP (X:Lx) (R:Rw) (R1:Rw) (R2:Rw) (R3:Rw) (R4:Rw) (R5:Rw) (R6:Rw) (R7:Rw) (r a b nn:Int) (tg:List Int) (ll:List Ins) (le:List Ins) (q:Int) (i:Nat) (k:Nat) (ms:List PV) (t v:Int):bH:=gx aH aA [(133,0),(133,2)] [(133,0,1)] [(133,5,0),(133,5,1),(133,6,6)] (tbS X R R1 R2 R3 R4 R5 R6 R7 r a b nn tg ll le q i k ms t v)
def abh (X:Lx) (R:Rw) (R1:Rw) (R2:Rw) (R3:Rw) (R4:Rw) (R5:Rw) (R6:Rw) (R7:Rw) (r a b nn:Int) (tg:List Int) (ll:List Ins) (le:List Ins) (q:Int) (i:Nat) (k:Nat) (ms:List PV) (t v:Int):Sc:=(.fork (.ans 130 (sI .i64 v) ([aV X.M X.tP X.tR X.own R1.h 1 R1.k R1.e R1.p R1.nx,.ob (aD.gr 160 true) (ab6 AV.p R1.cs)]) .fin) (.ans 130 (sI .i64 v) ([aV X.M X.tP X.tR X.own R1.h 1 R1.k R1.e R1.p R1.nx,.ob (aD.gr 160 true) (ab6 AV.p R1.cs)]) .fin))
def C1 (X:Lx) (R:Rw) (R1:Rw) (R2:Rw) (R3:Rw) (R4:Rw) (R5:Rw) (R6:Rw) (R7:Rw) (r a b nn:Int) (tg:List Int) (ll:List Ins) (le:List Ins) (q:Int) (i:Nat) (k:Nat) (ms:List PV) (t v:Int):az:=
 (.test (decide ((↑i:Int)<(↑tg.length:Int)))
 (.must (aW (↑i:Int) tg.length&&true&&true)
 (.must (isInt abY (aF (dZ abY tg) (aJ i*1))&&true)
 (.need (sI .u32 (av (aF (dZ abY tg) (aJ i*1)))=sI abY t)
 (.call ⟨130,[.mp 0 0,sI .u32 t,sI .i64 q],[aV X.M X.tP X.tR X.own R.h 1 R.k R.e R.p R.nx,.ob (aD.gr 160 true) (ab6 aa (ab6 AV.p R.cs))],sI .i64 v,[aV X.M X.tP X.tR X.own R1.h 1 R1.k R1.e R1.p R1.nx,.ob (aD.gr 160 true) (ab6 AV.p R1.cs)]⟩
 (.must (((k+1)*8).ble gi&&(k+1).ble gi&&true)
 (.need (sI .i64 (sb.wrap ((↑i:Int)+1))=sI sb (↑(i+1):Int))
 (.at (ak acb env 133 0 [.mp 0 0,sI .i64 q,.mp 2 0,.os (some 3) (k+1) 1 (ms++[sP v]),.p (.ps tg.length 1 (dZ abY tg)),sI .i64 (↑tg.length:Int),sI .i64 (↑(i+1):Int)] ([aV X.M X.tP X.tR X.own R1.h 1 R1.k R1.e R1.p R1.nx,.ob (aD.gr 160 true) (ab6 aa (ab6 aa (ab6 AV.p R1.cs))),.pc [sP 14,sP r,.sc (.int .u32 a),.sc (.int .u32 b),.sc (.int .i32 nn),.ps tg.length 1 (dZ abY tg),.ps ll.length 8 (aq ll),.ps le.length 8 (aq le)],.tok]) 2 55))))))))
 (.call ⟨130,[.mp 0 0,sI .u32 a,sI .i64 q],[aV X.M X.tP X.tR X.own R.h 1 R.k R.e R.p R.nx,.ob (aD.gr 160 true) (ab6 aa (ab6 AV.p R.cs))],sI .i64 v,[aV X.M X.tP X.tR X.own R1.h 1 R1.k R1.e R1.p R1.nx,.ob (aD.gr 160 true) (ab6 AV.p R1.cs)]⟩
 (.at (ak acb env 133 2 [.mp 0 0,sI .i64 q,sI .i64 v,.os (some 2) k 1 ms,sI .i64 (↑k:Int),sI .i64 0] ([aV X.M X.tP X.tR X.own R1.h 1 R1.k R1.e R1.p R1.nx,.ob (aD.gr 160 true) (ab6 aa (ab6 aa (ab6 AV.p R1.cs))),.tok]) 2 55))))
theorem E3 (X:Lx) (R:Rw) (R1:Rw) (R2:Rw) (R3:Rw) (R4:Rw) (R5:Rw) (R6:Rw) (R7:Rw) (r a b nn:Int) (tg:List Int) (ll:List Ins) (le:List Ins) (q:Int) (i:Nat) (k:Nat) (ms:List PV) (t v:Int):grow acb env (XP X R R1 R2 R3 R4 R5 R6 R7 r a b nn tg ll le q i k ms t v) 1000000 true (ak acb env 133 0 ([AV.mp 0 0,sI sb q,AV.mp 2 0,AV.os (Option.some 3) k 1 ms,tgA tg,sI sb (↑tg.length:Int),sI sb (↑i:Int)]) (eK X R++[aU.pc [PV.sc (sT sb 14),PV.sc (sT sb r),PV.sc (sT abY a),PV.sc (sT abY b),PV.sc (sT aeW nn),PV.ps tg.length 1 (dZ abY tg),PV.ps ll.length 8 (aq ll),PV.ps le.length 8 (aq le)],aU.tok]) 2 55) (abh X R R1 R2 R3 R4 R5 R6 R7 r a b nn tg ll le q i k ms t v) atEnd=C1 X R R1 R2 R3 R4 R5 R6 R7 r a b nn tg ll le q i k ms t v:=by kernel_rfl
def XQ (X:Lx) (R:Rw) (R1:Rw) (R2:Rw) (R3:Rw) (R4:Rw) (R5:Rw) (R6:Rw) (R7:Rw) (q n x:Int) (i:Nat) (k:Nat) (ms:List PV):bH:=gx aH aA [(133,0),(133,2)] [] [] (tmS X R R1 R2 R3 R4 R5 R6 R7 q n x i k ms)
def abi (X:Lx) (R:Rw) (R1:Rw) (R2:Rw) (R3:Rw) (R4:Rw) (R5:Rw) (R6:Rw) (R7:Rw) (q n x:Int) (i:Nat) (k:Nat) (ms:List PV):Sc:=(.ans 131 (.au []) ([aV X.M X.tP X.tR X.own R1.h 2 R1.k R1.e R1.p R1.nx,.dead,.ob (aD.gr 160 true) (ab6 AV.p R1.cs)]) (.ans 131 (.au []) ([aV X.M X.tP X.tR X.own R2.h 2 R2.k R2.e R2.p R2.nx,.dead,.ob (aD.gr 160 true) (ab6 AV.p R2.cs)]) (.ans 128 (.au []) ([aV X.M X.tP X.tR X.own R3.h 2 R3.k R3.e R3.p R3.nx,.dead,.ob (aD.gr 160 true) (ab6 AV.p R3.cs)]) .fin)))
def I5 (X:Lx) (R:Rw) (R1:Rw) (R2:Rw) (R3:Rw) (R4:Rw) (R5:Rw) (R6:Rw) (R7:Rw) (q n x:Int) (i:Nat) (k:Nat) (ms:List PV):az:=
 (.call ⟨131,[.mp 0 0,sI .i64 1,sI .i64 q],[aV X.M X.tP X.tR X.own R.h 1 R.k R.e R.p R.nx,.ob (aD.gr 160 true) (ab6 aa (ab6 AV.p R.cs))],.au [],[aV X.M X.tP X.tR X.own R1.h 2 R1.k R1.e R1.p R1.nx,.dead,.ob (aD.gr 160 true) (ab6 AV.p R1.cs)]⟩
 (.call ⟨131,[.mp 0 0,sI .i64 n,sI .i64 q],[aV X.M X.tP X.tR X.own R1.h 1 R1.k R1.e R1.p R1.nx,.ob (aD.gr 160 true) (ab6 aa (ab6 aa (ab6 AV.p R1.cs)))],.au [],[aV X.M X.tP X.tR X.own R2.h 2 R2.k R2.e R2.p R2.nx,.dead,.ob (aD.gr 160 true) (ab6 AV.p R2.cs)]⟩
 (.call ⟨128,[.mp 0 0,sI .i64 q],[aV X.M X.tP X.tR X.own R2.h 1 R2.k R2.e R2.p R2.nx,.ob (aD.gr 160 true) (ab6 aa (ab6 aa (ab6 AV.p R2.cs)))],.au [],[aV X.M X.tP X.tR X.own R3.h 2 R3.k R3.e R3.p R3.nx,.dead,.ob (aD.gr 160 true) (ab6 AV.p R3.cs)]⟩
 (.out (.ret (.au []) [aV X.M X.tP X.tR X.own R3.h 2 R3.k R3.e R3.p R3.nx,.dead,.ob (aD.gr 160 true) (ab6 aa (ab6 aa (ab6 AV.p R3.cs)))])))))
theorem Pp (X:Lx) (R:Rw) (R1:Rw) (R2:Rw) (R3:Rw) (R4:Rw) (R5:Rw) (R6:Rw) (R7:Rw) (q n x:Int) (i:Nat) (k:Nat) (ms:List PV):grow acb env (XQ X R R1 R2 R3 R4 R5 R6 R7 q n x i k ms) 1000000 true (ak acb env 133 2 ([AV.mp 0 0,sI sb q,sI sb n,AV.os Option.none 0 0 [],sI sb 0,sI sb (↑i:Int)]) (eK X R) 2 55) (abi X R R1 R2 R3 R4 R5 R6 R7 q n x i k ms) atEnd=I5 X R R1 R2 R3 R4 R5 R6 R7 q n x i k ms:=by kernel_rfl
def XR (X:Lx) (R:Rw) (R1:Rw) (R2:Rw) (R3:Rw) (R4:Rw) (R5:Rw) (R6:Rw) (R7:Rw) (q n x:Int) (i:Nat) (k:Nat) (ms:List PV):bH:=gx aH aA [(133,0),(133,2)] [(133,0,3)] [(133,11,0),(133,11,1)] (tmS X R R1 R2 R3 R4 R5 R6 R7 q n x i k ms)
def abj (X:Lx) (R:Rw) (R1:Rw) (R2:Rw) (R3:Rw) (R4:Rw) (R5:Rw) (R6:Rw) (R7:Rw) (q n x:Int) (i:Nat) (k:Nat) (ms:List PV):Sc:=(.fork (.ans 134 (.au []) ([aV X.M X.tP X.tR X.own R1.h 1 R1.k R1.e R1.p R1.nx,.ob (aD.gr 160 true) (ab6 AV.p R1.cs)]) .fin) (.ans 131 (.au []) ([aV X.M X.tP X.tR X.own R1.h 2 R1.k R1.e R1.p R1.nx,.dead,.ob (aD.gr 160 true) (ab6 AV.p R1.cs)]) (.ans 131 (.au []) ([aV X.M X.tP X.tR X.own R2.h 2 R2.k R2.e R2.p R2.nx,.dead,.ob (aD.gr 160 true) (ab6 AV.p R2.cs)]) (.ans 128 (.au []) ([aV X.M X.tP X.tR X.own R3.h 2 R3.k R3.e R3.p R3.nx,.dead,.ob (aD.gr 160 true) (ab6 AV.p R3.cs)]) .fin))))
def C2 (X:Lx) (R:Rw) (R1:Rw) (R2:Rw) (R3:Rw) (R4:Rw) (R5:Rw) (R6:Rw) (R7:Rw) (q n x:Int) (i:Nat) (k:Nat) (ms:List PV):az:=
 (.test (decide ((↑i:Int)<(↑k:Int)))
 (.must (aW (↑i:Int) k&&true&&true)
 (.must (isInt sb (aF ms (aJ i*1))&&true)
 (.need (sI .i64 (av (aF ms (aJ i*1)))=sI sb x)
 (.call ⟨134,[.mp 0 0,.p (.sc (.bool (x==n))),sI .i64 214,sI .i64 q],[aV X.M X.tP X.tR X.own R.h 1 R.k R.e R.p R.nx,.ob (aD.gr 160 true) (ab6 aa (ab6 AV.p R.cs))],.au [],[aV X.M X.tP X.tR X.own R1.h 1 R1.k R1.e R1.p R1.nx,.ob (aD.gr 160 true) (ab6 AV.p R1.cs)]⟩
 (.need (sI .i64 (sb.wrap ((↑i:Int)+1))=sI sb (↑(i+1):Int))
 (.at (ak acb env 133 2 [.mp 0 0,sI .i64 q,sI .i64 n,.os (some 2) k 1 ms,sI .i64 (↑k:Int),sI .i64 (↑(i+1):Int)] ([aV X.M X.tP X.tR X.own R1.h 1 R1.k R1.e R1.p R1.nx,.ob (aD.gr 160 true) (ab6 aa (ab6 aa (ab6 AV.p R1.cs))),.tok]) 2 55)))))))
 (.call ⟨131,[.mp 0 0,sI .i64 1,sI .i64 q],[aV X.M X.tP X.tR X.own R.h 1 R.k R.e R.p R.nx,.ob (aD.gr 160 true) (ab6 aa (ab6 AV.p R.cs))],.au [],[aV X.M X.tP X.tR X.own R1.h 2 R1.k R1.e R1.p R1.nx,.dead,.ob (aD.gr 160 true) (ab6 AV.p R1.cs)]⟩
 (.call ⟨131,[.mp 0 0,sI .i64 n,sI .i64 q],[aV X.M X.tP X.tR X.own R1.h 1 R1.k R1.e R1.p R1.nx,.ob (aD.gr 160 true) (ab6 aa (ab6 aa (ab6 AV.p R1.cs)))],.au [],[aV X.M X.tP X.tR X.own R2.h 2 R2.k R2.e R2.p R2.nx,.dead,.ob (aD.gr 160 true) (ab6 AV.p R2.cs)]⟩
 (.call ⟨128,[.mp 0 0,sI .i64 q],[aV X.M X.tP X.tR X.own R2.h 1 R2.k R2.e R2.p R2.nx,.ob (aD.gr 160 true) (ab6 aa (ab6 aa (ab6 AV.p R2.cs)))],.au [],[aV X.M X.tP X.tR X.own R3.h 2 R3.k R3.e R3.p R3.nx,.dead,.ob (aD.gr 160 true) (ab6 AV.p R3.cs)]⟩
 (.out (.ret (.au []) [aV X.M X.tP X.tR X.own R3.h 2 R3.k R3.e R3.p R3.nx,.dead,.ob (aD.gr 160 true) (ab6 aa (ab6 aa (ab6 AV.p R3.cs)))]))))))
theorem E4 (X:Lx) (R:Rw) (R1:Rw) (R2:Rw) (R3:Rw) (R4:Rw) (R5:Rw) (R6:Rw) (R7:Rw) (q n x:Int) (i:Nat) (k:Nat) (ms:List PV):grow acb env (XR X R R1 R2 R3 R4 R5 R6 R7 q n x i k ms) 1000000 true (ak acb env 133 2 ([AV.mp 0 0,sI sb q,sI sb n,AV.os (Option.some 2) k 1 ms,sI sb (↑k:Int),sI sb (↑i:Int)]) (eK X R++[aU.tok]) 2 55) (abj X R R1 R2 R3 R4 R5 R6 R7 q n x i k ms) atEnd=C2 X R R1 R2 R3 R4 R5 R6 R7 q n x i k ms:=by kernel_rfl
def XS:bH:=aT aH aA [(84,0)] [] []
def abk:Sc:= .fin
def vL (X:Lx) (R:Rw) (R1:Rw) (R2:Rw) (R3:Rw) (R4:Rw) (R5:Rw) (R6:Rw) (R7:Rw) (xs:List Ins):az:=
 (.at (ak acb env 84 0 [.mp 0 0,.p (.ps xs.length 8 (aq xs)),sI .i64 (↑xs.length:Int),sI .i64 0] ([aV X.M X.tP X.tR X.own R.h 1 R.k R.e R.p R.nx,.ob (aD.gr 160 true) (ab6 aa (ab6 AV.p R.cs))]) 2 32))
theorem yT (X:Lx) (R:Rw) (R1:Rw) (R2:Rw) (R3:Rw) (R4:Rw) (R5:Rw) (R6:Rw) (R7:Rw) (xs:List Ins):aG acb env XS 1000000 84 ([AV.mp 0 0,aL xs]) (eK X R) abk=vL X R R1 R2 R3 R4 R5 R6 R7 xs:=by kernel_rfl
def XT (X:Lx) (R:Rw) (R1:Rw) (R2:Rw) (R3:Rw) (R4:Rw) (R5:Rw) (R6:Rw) (R7:Rw) (xs:List Ins) (i:Nat) (op r a b nn:Int) (tg:List Int) (ll:List Ins) (le:List Ins):bH:=gx aH aA [(84,0)] [(84,0,1),(84,0,2)] [(84,3,0),(84,3,1)] (liS X R R1 R2 R3 R4 R5 R6 R7 xs i op r a b nn tg ll le)
def abl (X:Lx) (R:Rw) (R1:Rw) (R2:Rw) (R3:Rw) (R4:Rw) (R5:Rw) (R6:Rw) (R7:Rw) (xs:List Ins) (i:Nat) (op r a b nn:Int) (tg:List Int) (ll:List Ins) (le:List Ins):Sc:=(.fork (.fork .fin (.ans 116 (.au []) ([aV X.M X.tP X.tR X.own R1.h 2 R1.k R1.e R1.p R1.nx,.dead,.ob (aD.gr 160 true) (ab6 AV.p R1.cs)]) .fin)) .fin)
def jO (X:Lx) (R:Rw):az:=
 (.out (.ret (.au []) [aV X.M X.tP X.tR X.own R.h 1 R.k R.e R.p R.nx,.ob (aD.gr 160 true) (ab6 aa (ab6 AV.p R.cs))]))
def sw (X:Lx) (R:Rw) (R1:Rw) (R2:Rw) (R3:Rw) (R4:Rw) (R5:Rw) (R6:Rw) (R7:Rw) (xs:List Ins) (i:Nat) (op r a b nn:Int) (tg:List Int) (ll:List Ins) (le:List Ins):az:=
 (.test (decide ((↑i:Int)<(↑xs.length:Int)))
 (.must (aW (↑i:Int) xs.length&&true&&true)
 (.must (isInt sb (aF (aq xs) (aJ i*8))&&(isInt sb (aF (aq xs) (aJ i*8+1))&&(isInt abY (aF (aq xs) (aJ i*8+1+1))&&(isInt abY (aF (aq xs) (aJ i*8+1+1+1))&&(isInt aeW (aF (aq xs) (aJ i*8+1+1+1+1))&&(bB (aF (aq xs) (aJ i*8+1+1+1+1+1))&&(bB (aF (aq xs) (aJ i*8+1+1+1+1+1+1))&&(bB (aF (aq xs) (aJ i*8+1+1+1+1+1+1+1))&&true)))))))&&true)
 (.need (AV.agg [sI .i64 (av (aF (aq xs) (aJ i*8))),sI .i64 (av (aF (aq xs) (aJ i*8+1))),sI .u32 (av (aF (aq xs) (aJ i*8+1+1))),sI .u32 (av (aF (aq xs) (aJ i*8+1+1+1))),sI .i32 (av (aF (aq xs) (aJ i*8+1+1+1+1))),AV.p (PV.ps (aE (aF (aq xs) (aJ i*8+1+1+1+1+1))) (bC (aF (aq xs) (aJ i*8+1+1+1+1+1))) (aB (aF (aq xs) (aJ i*8+1+1+1+1+1)))),AV.p (PV.ps (aE (aF (aq xs) (aJ i*8+1+1+1+1+1+1))) (bC (aF (aq xs) (aJ i*8+1+1+1+1+1+1))) (aB (aF (aq xs) (aJ i*8+1+1+1+1+1+1)))),AV.p (PV.ps (aE (aF (aq xs) (aJ i*8+1+1+1+1+1+1+1))) (bC (aF (aq xs) (aJ i*8+1+1+1+1+1+1+1))) (aB (aF (aq xs) (aJ i*8+1+1+1+1+1+1+1))))]=dO op r a b nn tg ll le)
 (.test (R.e != 0)
 (jO X R)
 (.need (sI .i64 (sb.wrap (R.nx+1))=sI sb (R.nx+1))
 (.call ⟨116,[.mp 0 0,.agg [sI .i64 op,sI .i64 r,sI .u32 a,sI .u32 b,sI .i32 nn,.p (.ps tg.length 1 (dZ abY tg)),.p (.ps ll.length 8 (aq ll)),.p (.ps le.length 8 (aq le))],sI .i64 (R.nx+1)],[aV X.M X.tP X.tR X.own R.h 1 R.k R.e R.p (R.nx+1),.ob (aD.gr 160 true) (ab6 aa (ab6 AV.p R.cs))],.au [],[aV X.M X.tP X.tR X.own R1.h 2 R1.k R1.e R1.p R1.nx,.dead,.ob (aD.gr 160 true) (ab6 AV.p R1.cs)]⟩
 (.need (sI .i64 (sb.wrap ((↑i:Int)+1))=sI sb (↑(i+1):Int))
 (.at (ak acb env 84 0 [.mp 0 0,.p (.ps xs.length 8 (aq xs)),sI .i64 (↑xs.length:Int),sI .i64 (↑(i+1):Int)] ([aV X.M X.tP X.tR X.own R1.h 2 R1.k R1.e R1.p R1.nx,.dead,.ob (aD.gr 160 true) (ab6 aa (ab6 aa (ab6 AV.p R1.cs)))]) 2 32)))))))))
 (jO X R))
theorem sx (X:Lx) (R:Rw) (R1:Rw) (R2:Rw) (R3:Rw) (R4:Rw) (R5:Rw) (R6:Rw) (R7:Rw) (xs:List Ins) (i:Nat) (op r a b nn:Int) (tg:List Int) (ll:List Ins) (le:List Ins):grow acb env (XT X R R1 R2 R3 R4 R5 R6 R7 xs i op r a b nn tg ll le) 1000000 true (ak acb env 84 0 ([AV.mp 0 0,aL xs,sI sb (↑xs.length:Int),sI sb (↑i:Int)]) (eK X R) 2 32) (abl X R R1 R2 R3 R4 R5 R6 R7 xs i op r a b nn tg ll le) atEnd=sw X R R1 R2 R3 R4 R5 R6 R7 xs i op r a b nn tg ll le:=by kernel_rfl
def XU (X:Lx) (R:Rw) (R1:Rw) (R2:Rw) (R3:Rw) (R4:Rw) (R5:Rw) (R6:Rw) (R7:Rw) (xs:List Ins) (i:Nat) (op r a b nn:Int) (tg:List Int) (ll:List Ins) (le:List Ins):bH:=gx aH aA [(84,0)] [(84,0,1),(84,0,2)] [(84,3,0),(84,3,1)] (liS X R R1 R2 R3 R4 R5 R6 R7 xs i op r a b nn tg ll le)
def abm (X:Lx) (R:Rw) (R1:Rw) (R2:Rw) (R3:Rw) (R4:Rw) (R5:Rw) (R6:Rw) (R7:Rw) (xs:List Ins) (i:Nat) (op r a b nn:Int) (tg:List Int) (ll:List Ins) (le:List Ins):Sc:=(.fork (.fork .fin (.ans 116 (.au []) ([aV X.M X.tP X.tR X.own R1.h 2 R1.k R1.e R1.p R1.nx,.dead,.ob (aD.gr 160 true) (ab6 AV.p R1.cs)]) .fin)) .fin)
def lZ (X:Lx) (R:Rw):az:=
 (.out (.ret (.au []) [aV X.M X.tP X.tR X.own R.h 2 R.k R.e R.p R.nx,.dead,.ob (aD.gr 160 true) (ab6 aa (ab6 AV.p R.cs))]))
def vN (X:Lx) (R:Rw) (R1:Rw) (R2:Rw) (R3:Rw) (R4:Rw) (R5:Rw) (R6:Rw) (R7:Rw) (xs:List Ins) (i:Nat) (op r a b nn:Int) (tg:List Int) (ll:List Ins) (le:List Ins):az:=
 (.test (decide ((↑i:Int)<(↑xs.length:Int)))
 (.must (aW (↑i:Int) xs.length&&true&&true)
 (.must (isInt sb (aF (aq xs) (aJ i*8))&&(isInt sb (aF (aq xs) (aJ i*8+1))&&(isInt abY (aF (aq xs) (aJ i*8+1+1))&&(isInt abY (aF (aq xs) (aJ i*8+1+1+1))&&(isInt aeW (aF (aq xs) (aJ i*8+1+1+1+1))&&(bB (aF (aq xs) (aJ i*8+1+1+1+1+1))&&(bB (aF (aq xs) (aJ i*8+1+1+1+1+1+1))&&(bB (aF (aq xs) (aJ i*8+1+1+1+1+1+1+1))&&true)))))))&&true)
 (.need (AV.agg [sI .i64 (av (aF (aq xs) (aJ i*8))),sI .i64 (av (aF (aq xs) (aJ i*8+1))),sI .u32 (av (aF (aq xs) (aJ i*8+1+1))),sI .u32 (av (aF (aq xs) (aJ i*8+1+1+1))),sI .i32 (av (aF (aq xs) (aJ i*8+1+1+1+1))),AV.p (PV.ps (aE (aF (aq xs) (aJ i*8+1+1+1+1+1))) (bC (aF (aq xs) (aJ i*8+1+1+1+1+1))) (aB (aF (aq xs) (aJ i*8+1+1+1+1+1)))),AV.p (PV.ps (aE (aF (aq xs) (aJ i*8+1+1+1+1+1+1))) (bC (aF (aq xs) (aJ i*8+1+1+1+1+1+1))) (aB (aF (aq xs) (aJ i*8+1+1+1+1+1+1)))),AV.p (PV.ps (aE (aF (aq xs) (aJ i*8+1+1+1+1+1+1+1))) (bC (aF (aq xs) (aJ i*8+1+1+1+1+1+1+1))) (aB (aF (aq xs) (aJ i*8+1+1+1+1+1+1+1))))]=dO op r a b nn tg ll le)
 (.test (R.e != 0)
 (lZ X R)
 (.need (sI .i64 (sb.wrap (R.nx+1))=sI sb (R.nx+1))
 (.call ⟨116,[.mp 0 0,.agg [sI .i64 op,sI .i64 r,sI .u32 a,sI .u32 b,sI .i32 nn,.p (.ps tg.length 1 (dZ abY tg)),.p (.ps ll.length 8 (aq ll)),.p (.ps le.length 8 (aq le))],sI .i64 (R.nx+1)],[aV X.M X.tP X.tR X.own R.h 1 R.k R.e R.p (R.nx+1),.ob (aD.gr 160 true) (ab6 aa (ab6 AV.p R.cs))],.au [],[aV X.M X.tP X.tR X.own R1.h 2 R1.k R1.e R1.p R1.nx,.dead,.ob (aD.gr 160 true) (ab6 AV.p R1.cs)]⟩
 (.need (sI .i64 (sb.wrap ((↑i:Int)+1))=sI sb (↑(i+1):Int))
 (.at (ak acb env 84 0 [.mp 0 0,.p (.ps xs.length 8 (aq xs)),sI .i64 (↑xs.length:Int),sI .i64 (↑(i+1):Int)] ([aV X.M X.tP X.tR X.own R1.h 2 R1.k R1.e R1.p R1.nx,.dead,.ob (aD.gr 160 true) (ab6 aa (ab6 aa (ab6 AV.p R1.cs)))]) 2 32)))))))))
 (lZ X R))
theorem yU (X:Lx) (R:Rw) (R1:Rw) (R2:Rw) (R3:Rw) (R4:Rw) (R5:Rw) (R6:Rw) (R7:Rw) (xs:List Ins) (i:Nat) (op r a b nn:Int) (tg:List Int) (ll:List Ins) (le:List Ins):grow acb env (XU X R R1 R2 R3 R4 R5 R6 R7 xs i op r a b nn tg ll le) 1000000 true (ak acb env 84 0 ([AV.mp 0 0,aL xs,sI sb (↑xs.length:Int),sI sb (↑i:Int)]) (lC X R) 2 32) (abm X R R1 R2 R3 R4 R5 R6 R7 xs i op r a b nn tg ll le) atEnd=vN X R R1 R2 R3 R4 R5 R6 R7 xs i op r a b nn tg ll le:=by kernel_rfl
structure TU (X:Lx) (V:jH):Prop where
 ret:X.tR=V.ret
 abn:V.ret≤1
 own:X.own=V.own
 aen:V.own≤1000000000
 ty : ∀a:Nat,a<4294967296→match V.ty a with
  |some (p,r)=>r≤1∧an acb env 8 [.agg X.M.cells,sI .u32 a] [] (.au [.agg [sI .i64 p,sI .i64 r],sB true]) []
  |none=>an acb env 8 [.agg X.M.cells,sI .u32 a] [] (.au [.agg [sI .i64 0,sI .i64 0],sB false]) []
 ny:X.M.ny≤1000000000
 ind : ∀a:Nat,if 0<X.M.sL∧a<X.M.ny then ∃p r:Nat,V.ind a=some (p,r)∧r≤1∧X.M.tS.getD (a*2) .bw = .sc (.int .i64 p)∧X.M.tS.getD (a*2+1) .bw = .sc (.int .i64 r) else V.ind a=none
 jN:X.M.jN=V.dg.length
 glM:V.dg.length≤1000000000
 gl : ∀(a:Nat) (b:Bool),V.dg[a]? = some b→X.M.yJ.getD (a*2+0) .bw = .sc (.bool b)
 me:V.mem=decide (0<X.M.tU)
def _root_.Go.Am.VR.and (v:VR) (F:Nat→Bool→Nat→VR):VR:=match v with
 |.bw e q=> .bw e q
 |.ok n d c=>F n d c
theorem l7 {q k n c:Nat} {d:Bool} {F:Nat→Bool→Nat→VR}:(dF q k n d fun m=> .ok m d c).and F=dF q k n d fun m=>F m d c:=by
 unfold dF;split<;>rfl
section
variable {X:Lx} {V:jH} {R:Rw} {o:List Fr} {t:Fr} {n c:Nat}
theorem yV {R1:Rw} {v:VR} {F:Nat→Bool→Nat→VR} {f:FuncId} {args:List AV} (h:dj o t R1 v) (hE : ∀R:Rw,R.e≠0→cQ X f args R R)
  (hG : ∀n d c,v = .ok n d c→dP R1 o ⟨t.op,t.base,t.res,d⟩ n c → ∃R2,cQ X f args R1 R2∧dj o t R2 (F n d c)) : ∃R2,cQ X f args R1 R2∧dj o t R2 (v.and F):=by
 cases v with
 |bw e q=>exact⟨R1,hE R1 (by rw[h.1];exact h.2.1),h⟩
 |ok n d c=>exact hG _ _ _ rfl h
theorem I6 {P Q q:Int} (he:R.e≠0):cQ X 135 [.agg [sI .i64 P,sI .i64 Q],sI .i64 q] R R:=Pe (tW he) (O3 he)
theorem S4 {op q:Int} (he:R.e≠0):cQ X 163 [sI .i64 op,sI .i64 q] R R:=Pf (E1 op) (tW he) (O3 he)
theorem yW (g:dP R o t n c) (hle:R.h+1≤c) (hc:c≤1000000000) (p r q:Nat) (hr:r≤1) :
  ∃R1 R2,cQ X 131 [sI .i64 p,sI .i64 q] R R1∧cQ X 132 [sI .i64 r,sI .i64 q] R1 R2∧dj o t R2 (dF q p n t.dead fun n1=> .ok (n1+r) t.dead c):=by
 obtain⟨R1,r1,a1,h1,x1⟩:=o9 (X:=X) g p q
 have P0:=g.nx
 obtain⟨R2,r2,a2⟩:=yV (X:=X) (F:=fun m d c=> .ok (m+r) d c) (f:=132) (args:=[sI .i64 r,sI .i64 q]) a1 (fun R he=>O3 he) (fun n' d c' hv g'=>by
  have:=g'.nx
  obtain⟨R2,r2,a2⟩:=Pd (X:=X) g' r q (by omega) (by omega)
  exact⟨R2,r2,a2⟩)
 rw[l7] at a2
 exact⟨R1,R2,r1,r2,a2⟩
theorem I7 (g:dP R o t n c) (hle:R.h+1≤c) (hc:c≤1000000000) (p r q:Nat) (hr:r≤1) :
  ∃R',cQ X 135 [.agg [sI .i64 p,sI .i64 r],sI .i64 q] R R'∧dj o t R' (dF q p n t.dead fun n1=> .ok (n1+r) t.dead c):=by
 obtain⟨R1,R2,r1,r2,a2⟩:=yW (X:=X) g hle hc p r q hr
 exact⟨R2,Pe r1 r2,a2⟩
theorem S5 (g:dP R o t n c) (hle:R.h+1≤c) (hc:c≤1000000000) (op:Int) (q:Nat) :
  ∃R',cQ X 163 [sI .i64 op,sI .i64 q] R R'∧dj o t R' (dF q (lu op) n t.dead fun n1=> .ok (n1+jt op) t.dead c):=by
 obtain⟨R1,R2,r1,r2,a2⟩:=yW (X:=X) g hle hc (lu op) (jt op) q (Kd op)
 exact⟨R2,Pf (E1 op) r1 r2,a2⟩
theorem oD (g:dP R o t n c) (p q:Nat) :
  ∃R1 R2,cQ X 131 [sI .i64 p,sI .i64 q] R R1∧cQ X 128 [sI .i64 q] R1 R2∧dj o t R2 (dF q p n t.dead fun _=> .ok 0 true c):=by
 obtain⟨R1,r1,a1,h1,x1⟩:=o9 (X:=X) g p q
 obtain⟨R2,r2,a2⟩:=yV (X:=X) (F:=fun _ _ c=> .ok 0 true c) (f:=128) (args:=[sI .i64 q]) a1 (fun R he=>O4 he) (fun n' d c' hv g'=>by
  obtain⟨R2,r2,a2,_⟩:=EX (X:=X) g' q
  exact⟨R2,r2,a2⟩)
 rw[l7] at a2
 exact⟨R1,R2,r1,r2,a2⟩
theorem S6 (g:oA R o t n) {a k:Nat} (h:(bt (o++[t]))[a]? = some k):k≤1:=by
 obtain⟨f,hf,hk,_⟩:=TT h
 obtain⟨_,_,m3,m4⟩:=jh g.ok f (List.mem_of_getElem? hf)
 rw[hk];split<;>omega
def kB (R:Rw) (e q:Int):Rw:=⟨R.h,R.k,R.cs,e,q,R.nx⟩
theorem kC {R:Rw} {ec q:Int}:oB R true ec q=R:=by unfold oB;rw[if_pos (.inl rfl)]
theorem gW {R:Rw} {ec q:Int} (he:R.e=0) (SW:ec≠0):oB R false ec q=kB R ec q:=by unfold oB kB;rw[if_neg (by simp[he,SW])]
theorem vO {R:Rw} {b:Bool} {ec q:Int} (he:R.e≠0):oB R b ec q=R:=by unfold oB;rw[if_pos (.inr (.inl he))]
theorem sy {R:Rw} {p:Prop} [Decidable p] {ec q:Int} (he:R.e=0) (SW:ec≠0):oB R (decide p) ec q=if p then R else kB R ec q:=by
 by_cases h:p
 · rw[decide_eq_true h,kC,if_pos h]
 · rw[decide_eq_false h,gW he SW,if_neg h]
theorem Bu (g:oA R o t n) (he:R.e=0) (a:Nat) (ha:a<4294967296) (q:Nat) :
  (∃k,(bt (o++[t]))[a]? = some k∧k≤1∧Ask X 130 [sI .u32 a,sI .i64 q] (sI .i64 (k:Nat)) R R)∨((bt (o++[t]))[a]? = none∧Ask X 130 [sI .u32 a,sI .i64 q] (sI .i64 (0:Nat)) R (kB R 6 q)):=by
 have h:=tX (X:=X) g a ha q
 have Qc:(bt (o++[t])).length=(o++[t]).length:=by simp[bt]
 by_cases hlt:a<(o++[t]).length
 · have hs:(bt (o++[t]))[a]? = some ((bt (o++[t])).getD a 0):=by
    rw[ch,cb (by omega)];rfl
   rw[decide_eq_true hlt,kC] at h
   exact .inl ⟨_,hs,S6 g hs,h⟩
 · have hs:(bt (o++[t]))[a]? = none:=dt (by omega)
   rw[decide_eq_false hlt,gW he (by decide),ch,hs] at h
   exact .inr ⟨hs,h⟩
variable {r b nn:Int} {tg:List Int} {ll le:List Ins}
theorem XV (g:dP R o t n c) (a:Nat) (ha:a<4294967296) : ∃R',cQ X 116 [dO 12 r a b nn tg ll le,sI .i64 c] R R'∧dj o t R' (gj V (bt (o++[t])) 12 a tg n t.dead c):=by
 have e1:gj V (bt (o++[t])) 12 a tg n t.dead c=(match(bt (o++[t]))[a]? with
  |none=> .bw 6 c
  |some k=>dF c k n t.dead fun _=> .ok 0 true c):=rfl
 rcases Bu (X:=X) g.iy g.e a ha c with⟨k,hk,_,hA⟩ | ⟨hk,hA⟩
 · obtain⟨R1,R2,r1,r2,a2⟩:=oD (X:=X) g k c
   refine⟨R2,Ph hA r1 r2,?_⟩
   rw[e1,hk];exact a2
 · have hb:(kB R 6 c).e≠0:=(by decide:(6:Int)≠0)
   refine⟨_,Ph hA (tW hb) (O4 hb),?_⟩
   rw[e1,hk]
   exact⟨rfl,by decide,rfl⟩
theorem Pq (g:dP R o t n c) (hle:R.h+1≤c) (hc:c≤1000000000) (a:Nat) (ha:a<4294967296) : ∃R',cQ X 116 [dO 13 r a b nn tg ll le,sI .i64 c] R R'∧dj o t R' (gj V (bt (o++[t])) 13 a tg n t.dead c):=by
 have e1:gj V (bt (o++[t])) 13 a tg n t.dead c=(match(bt (o++[t]))[a]? with
  |none=> .bw 6 c
  |some k=>dF c 1 n t.dead fun n1=>dF c k n1 t.dead fun n2=> .ok (n2+k) t.dead c):=rfl
 rcases Bu (X:=X) g.iy g.e a ha c with⟨k,hk,hk1,hA⟩ | ⟨hk,hA⟩
 · obtain⟨R1,r1,a1,h1,x1⟩:=o9 (X:=X) g 1 c
   have P0:=g.nx
   have step : ∀v,dj o t R1 v→(∀n' d c',v = .ok n' d c'→d=t.dead∧c'=c) → ∃R2 R3,cQ X 131 [sI .i64 k,sI .i64 c] R1 R2∧cQ X 132 [sI .i64 k,sI .i64 c] R2 R3∧dj o t R3 (v.and fun m d c=>dF c k m d fun n2=> .ok (n2+k) d c):=by
    intro v hv hd
    cases v with
    |bw e q=>
     have hb:R1.e≠0:=by rw[hv.1];exact hv.2.1
     exact⟨R1,R1,tW hb,O3 hb,hv⟩
    |ok m d c'=>
     obtain⟨rfl,rfl⟩:=hd _ _ _ rfl
     obtain⟨R2,R3,r2,r3,a3⟩:=yW (X:=X) (t:=⟨t.op,t.base,t.res,t.dead⟩) hv (by omega) hc k k c' hk1
     exact⟨R2,R3,r2,r3,a3⟩
   obtain⟨R2,R3,r2,r3,a3⟩:=step _ a1 (fun n' d c' hv=>by
    unfold dF at hv;split at hv
    · cases hv
    · cases hv;exact⟨rfl,rfl⟩)
   refine⟨R3,EY hA r1 r2 r3,?_⟩
   rw[l7] at a3
   rw[e1,hk];exact a3
 · have hb:(kB R 6 c).e≠0:=(by decide:(6:Int)≠0)
   refine⟨_,EY hA (tW hb) (tW hb) (O3 hb),?_⟩
   rw[e1,hk]
   exact⟨rfl,by decide,rfl⟩
theorem S7 (hv:TU X V) (g:dP R o t n c) (a:Nat) : ∃R',cQ X 116 [dO 15 r a b nn tg ll le,sI .i64 c] R R'∧dj o t R' (gj V (bt (o++[t])) 15 a tg n t.dead c):=by
 obtain⟨R1,R2,r1,r2,a2⟩:=oD (X:=X) g V.ret c
 rw[←hv.ret] at r1
 exact⟨R2,SZ r1 r2,a2⟩
theorem Pr (hv:TU X V) (g:dP R o t n c) (hle:R.h+1≤c) (hc:c≤1000000000) (a:Nat) (ha:a<4294967296) : ∃R',cQ X 116 [dO 16 r a b nn tg ll le,sI .i64 c] R R'∧dj o t R' (gj V (bt (o++[t])) 16 a tg n t.dead c):=by
 have e1:gj V (bt (o++[t])) 16 a tg n t.dead c=(match V.ty a with
  |none=> .bw 6 c
  |some (p,r)=>dF c p n t.dead fun n1=> .ok (n1+r) t.dead c):=rfl
 have h:=hv.ty a ha
 rw[e1]
 cases hty:V.ty a with
 |none=>
  rw[hty] at h
  have hb:(kB R 6 c).e≠0:=(by decide:(6:Int)≠0)
  have hA:=gd (X:=X) (R:=R) false 6 c
  rw[gW g.e (by decide)] at hA
  exact⟨_,EZ h hA (I6 hb),rfl,by decide,rfl⟩
 |some pr=>
  obtain⟨p,r'⟩:=pr
  rw[hty] at h
  have hA:=gd (X:=X) (R:=R) true 6 c
  rw[kC] at hA
  obtain⟨R2,r2,a2⟩:=I7 (X:=X) g hle hc p r' c h.1
  exact⟨R2,EZ h.2 hA r2,a2⟩
theorem S8 (hv:TU X V) (g:dP R o t n c) (hle:R.h+1≤c) (hc:c≤1000000000) (a:Nat) (ha:a<4294967296) : ∃R',cQ X 116 [dO 17 r a b nn tg ll le,sI .i64 c] R R'∧dj o t R' (gj V (bt (o++[t])) 17 a tg n t.dead c):=by
 have e1:gj V (bt (o++[t])) 17 a tg n t.dead c=(match V.ind a with
  |none=> .bw 6 c
  |some (p,r)=>dF c 1 n t.dead fun n1=>dF c p n1 t.dead fun n2=> .ok (n2+r) t.dead c):=rfl
 have h:=hv.ind a
 have abo:=hv.ny
 rw[e1]
 have hb:(kB R 6 c).e≠0:=(by decide:(6:Int)≠0)
 by_cases ht:0<X.M.sL
 · by_cases hlt:a<X.M.ny
   · rw[if_pos ⟨ht,hlt⟩] at h
     obtain⟨p,r',h1,h2,h3,h4⟩:=h
     rw[h1]
     have hA:=gd (X:=X) (R:=R) true 6 c
     rw[kC] at hA
     obtain⟨R1,r1,a1,hh1,x1⟩:=o9 (X:=X) g 1 c
     have P0:=g.nx
     obtain⟨R2,r2,a2⟩:=yV (X:=X) (F:=fun m d c=>dF c p m d fun n2=> .ok (n2+r') d c) (f:=135) (args:=[.agg [sI .i64 p,sI .i64 r'],sI .i64 c]) a1 (fun R he=>I6 he) (fun n' d c' TD g'=>by
      have:=g'.nx
      have T2:c'=c:=by omega
      subst T2
      obtain⟨R2,r2,a2⟩:=I7 (X:=X) g' (by omega) hc p r' c' h2
      exact⟨R2,r2,a2⟩)
     rw[l7] at a2
     exact⟨R2,E0 ht abo ⟨by omega,by omega⟩ (fun _=>⟨h3,h4⟩) (by rw[decide_eq_true (by omega)];exact hA) r1 (fun _=>r2) (fun hn=>absurd (by omega) hn),a2⟩
   · rw[if_neg (fun q=>hlt q.2)] at h
     rw[h]
     have hA:=gd (X:=X) (R:=R) false 6 c
     rw[gW g.e (by decide)] at hA
     exact⟨_,E0 (P:=0) (Q:=0) ht abo ⟨by omega,by omega⟩ (fun q=>absurd q (by omega)) (by rw[decide_eq_false (by omega)];exact hA) (tW hb) (fun q=>absurd q (by omega)) (fun _=>rfl),rfl,by decide,rfl⟩
 · rw[if_neg (fun q=>ht q.1)] at h
   rw[h]
   have hA:=gd (X:=X) (R:=R) false 6 c
   rw[gW g.e (by decide)] at hA
   exact⟨_,Pj (by omega) hA (tW hb),rfl,by decide,rfl⟩
end
end Go.Proofs.YtdmmllcjgjmbbaaGreatDoor.N
end
section
set_option linter.unusedSimpArgs false
namespace Go.Proofs.YtdmmllcjgjmbbaaGreatDoor.N
open Go Go.Am
section
variable {X:Lx} {V:jH} {R R1 R2 R3:Rw} {o:List Fr} {t:Fr} {n c:Nat}
variable {op r a b nn q:Int} {tg:List Int} {ll le:List Ins}
theorem S9 (ho:op=32∨op=33∨op=34) (ha:0≤a∧a<4294967296) (h1:Ask X 134 [sB (decide (a<X.own)),sI .i64 6,sI .i64 q] (.au []) R R1) (h2:cQ X 163 [sI .i64 op,sI .i64 q] R1 R2) :
  cQ X 136 [dO op r a b nn tg ll le,sI .i64 q] R R2:=by
 refine an.gV (rows:=[(136,53,sB true)]) ?_
 refine af aM (kr X R R1 R2 R R R R R op r a b nn tg ll le q 0 true true) ?_
 have w1:ae6.wrap a=a:=jw (by omega) (by omega)
 rcases ho with rfl | rfl | rfl <;>
 · simp only[kX,fA,fB,fX,fY,fZ,bF,az.ok,aC,w1,afq,pb,ae5,false_implies,true_implies,true_and,and_true]
   exact⟨an.eG h1,an.eG h2⟩
theorem Pu {mu:Bool} (ha:0≤a∧a<4294967296) (hn:X.M.jN≤1000000000) (hlt:a<X.M.jN) (hc:X.M.yJ.getD (a.toNat*2+0) .bw = .sc (.bool mu))
  (h1:Ask X 134 [sB mu,sI .i64 212,sI .i64 q] (.au []) R R1) (h2:Ask X 134 [sB true,sI .i64 6,sI .i64 q] (.au []) R1 R2) (h3:cQ X 163 [sI .i64 36,sI .i64 q] R2 R3) :
  cQ X 136 [dO 36 r a b nn tg ll le,sI .i64 q] R R3:=by
 refine an.gV (rows:=[(136,53,sB mu)]) ?_
 refine af aM (kr X R R1 R2 R3 R R R R 36 r a b nn tg ll le q 0 true mu) ?_
 have w1:ae6.wrap a=a:=jw (by omega) (by omega)
 have w2:ae6.wrap (X.M.jN:Int)=X.M.jN:=jw (by omega) (by omega)
 have g1:decide (a<(X.M.jN:Int))=true:=decide_eq_true hlt
 have g2:eL mu mu=true:=(GF _ _).2 rfl
 simp only[kX,fA,fB,fX,fY,fZ,bF,az.ok,aC,w1,w2,g1,g2,hc,isBool,bD,dW,aW,afq,pb,ae5,false_implies,true_implies,true_and,and_true,aeq,c8,decide_eq_true_eq]
 exact⟨by omega,an.eG h1,an.eG h2,an.eG h3⟩
theorem Pv (ha:0≤a∧a<4294967296) (hn:X.M.jN≤1000000000) (hlt : ¬a<X.M.jN)
  (h1:Ask X 134 [sB false,sI .i64 6,sI .i64 q] (.au []) R R1) (h3:cQ X 163 [sI .i64 36,sI .i64 q] R1 R2) :
  cQ X 136 [dO 36 r a b nn tg ll le,sI .i64 q] R R2:=by
 refine an.gV (rows:=[(136,53,sB true)]) ?_
 refine af aM (kr X R R1 R2 R R R R R 36 r a b nn tg ll le q 0 true true) ?_
 have w1:ae6.wrap a=a:=jw (by omega) (by omega)
 have w2:ae6.wrap (X.M.jN:Int)=X.M.jN:=jw (by omega) (by omega)
 have g1:decide (a<(X.M.jN:Int))=false:=decide_eq_false hlt
 simp only[kX,fA,fB,fX,fY,fZ,bF,az.ok,aC,w1,w2,g1,afq,pb,ae5,false_implies,true_implies,true_and,and_true]
 exact⟨an.eG h1,an.eG h3⟩
theorem Ta (ha:0≤a∧a<4294967296) (hn:X.M.jN≤1000000000)
  (h1:Ask X 134 [sB (decide (a<X.M.jN)),sI .i64 6,sI .i64 q] (.au []) R R1) (h3:cQ X 163 [sI .i64 35,sI .i64 q] R1 R2) :
  cQ X 136 [dO 35 r a b nn tg ll le,sI .i64 q] R R2:=by
 refine an.gV (rows:=[(136,53,sB true)]) ?_
 refine af aM (kr X R R1 R2 R R R R R 35 r a b nn tg ll le q 0 true true) ?_
 have w1:ae6.wrap a=a:=jw (by omega) (by omega)
 have w2:ae6.wrap (X.M.jN:Int)=X.M.jN:=jw (by omega) (by omega)
 simp only[kX,fA,fB,fX,fY,fZ,bF,az.ok,aC,w1,w2,afq,pb,ae5,false_implies,true_implies,true_and,and_true]
 exact⟨an.eG h1,an.eG h3⟩
theorem Tb (ho:op=63∨op=64) (h1:Ask X 134 [sB (decide ((X.M.tU:Int)>0)),sI .i64 6,sI .i64 q] (.au []) R R1) (h2:cQ X 163 [sI .i64 op,sI .i64 q] R1 R2) :
  cQ X 136 [dO op r a b nn tg ll le,sI .i64 q] R R2:=by
 refine an.gV (rows:=[(136,53,sB true)]) ?_
 refine af aM (kr X R R1 R2 R R R R R op r a b nn tg ll le q 0 true true) ?_
 rcases ho with rfl | rfl <;>
 · simp only[kX,fA,fB,fX,fY,fZ,bF,az.ok,aC,afq,pb,ae5,false_implies,true_implies,true_and,and_true]
   exact⟨an.eG h1,an.eG h2⟩
theorem XW (ho:IE op=true) (h1:Ask X 134 [sB (decide ((X.M.tU:Int)>0)),sI .i64 6,sI .i64 q] (.au []) R R1) (h2:Ask X 134 [sB (decide (a≤lz op)),sI .i64 211,sI .i64 q] (.au []) R1 R2) (h3:cQ X 163 [sI .i64 op,sI .i64 q] R2 R3) :
  cQ X 136 [dO op r a b nn tg ll le,sI .i64 q] R R3:=by
 have hal:an acb env 162 [sI .i64 op] [] (.au [sI .u32 (lz op),sB true]) []:=by
  have:=qv op
  rw[show rV op=true from ho] at this
  exact this
 have ho':=of_decide_eq_true ho
 refine an.gV (rows:=[(136,53,sB true)]) ?_
 refine af aM (kr X R R1 R2 R3 R R R R op r a b nn tg ll le q (lz op) true true) ?_
 have e0:(op==32)=false:=by simp;omega
 have e1:(op==33)=false:=by simp;omega
 have e2:(op==34)=false:=by simp;omega
 have e3:(op==35)=false:=by simp;omega
 have e4:(op==36)=false:=by simp;omega
 have e5:(op==63)=false:=by simp;omega
 have e6:(op==64)=false:=by simp;omega
 simp only[kX,fA,fB,fX,fY,fZ,bF,az.ok,aC,e0,e1,e2,e3,e4,e5,e6,pb,ae5,false_implies,true_implies,true_and,and_true]
 exact⟨an.eG hal,an.eG h1,an.eG h2,an.eG h3⟩
theorem Pw (ho:IE op=false) (h32:op≠32∧op≠33∧op≠34∧op≠35∧op≠36∧op≠63∧op≠64) (h3:cQ X 163 [sI .i64 op,sI .i64 q] R R1) :
  cQ X 136 [dO op r a b nn tg ll le,sI .i64 q] R R1:=by
 have hal:an acb env 162 [sI .i64 op] [] (.au [sI .u32 (lz op),sB false]) []:=by
  have:=qv op
  rw[show rV op=false from ho] at this
  exact this
 obtain⟨k0,k1,k2,k3,k4,k5,k6⟩:=h32
 refine an.gV (rows:=[(136,53,sB true)]) ?_
 refine af aM (kr X R R1 R R R R R R op r a b nn tg ll le q (lz op) false true) ?_
 have e0:(op==32)=false:=by simpa using k0
 have e1:(op==33)=false:=by simpa using k1
 have e2:(op==34)=false:=by simpa using k2
 have e3:(op==35)=false:=by simpa using k3
 have e4:(op==36)=false:=by simpa using k4
 have e5:(op==63)=false:=by simpa using k5
 have e6:(op==64)=false:=by simpa using k6
 simp only[kX,fA,fB,fX,fY,fZ,bF,az.ok,aC,e0,e1,e2,e3,e4,e5,e6,pb,ae5,false_implies,true_implies,true_and,and_true]
 exact⟨an.eG hal,an.eG h3⟩
def oF (R:Rw) (e q:Int):Rw:=if e=0 then R else kB R e q
theorem mX (g:dP R o t n c) (hle:R.h+1≤c) (hc:c≤1000000000) (op e:Int) :
  ∃R',cQ X 163 [sI .i64 op,sI .i64 c] (oF R e c) R'∧dj o t R' (if e≠0 then .bw e c else dF c (lu op) n t.dead fun n1=> .ok (n1+jt op) t.dead c):=by
 by_cases he:e=0
 · rw[oF,if_pos he,if_neg (by simpa using he)]
   exact S5 g hle hc op c
 · rw[oF,if_neg he,if_pos he]
   exact⟨_,S4 he,rfl,he,rfl⟩
theorem Kv (hv:TU X V) (g:dP R o t n c) (hle:R.h+1≤c) (hc:c≤1000000000) {op:Int} {a:Nat} (ha:a<4294967296) :
  ∃R',cQ X 136 [dO op r a b nn tg ll le,sI .i64 c] R R'∧dj o t R' (if dG V op a≠0 then .bw (dG V op a) c else dF c (lu op) n t.dead fun n1=> .ok (n1+jt op) t.dead c):=by
 have haI:(0:Int)≤(a:Int)∧(a:Int)<4294967296:=⟨by omega,by omega⟩
 have hgN:X.M.jN≤1000000000:=by rw[hv.jN];exact hv.glM
 by_cases h1:op=32∨op=33∨op=34
 · have e1:dG V op a=if(a:Int)<V.own then 0 else 6:=by unfold dG;rw[if_pos h1]
   have hA:=gd (X:=X) (R:=R) (decide ((a:Int)<X.own)) 6 c
   rw[sy g.e (by decide)] at hA
   have hR:(if(a:Int)<X.own then R else kB R 6 c)=oF R (dG V op a) c:=by
    rw[e1,hv.own];by_cases hq:(a:Int)<V.own
    · rw[if_pos hq,if_pos hq];rfl
    · rw[if_neg hq,if_neg hq];rfl
   rw[hR] at hA
   obtain⟨R',r1,a1⟩:=mX (X:=X) g hle hc op (dG V op a)
   exact⟨R',S9 h1 haI hA r1,a1⟩
 by_cases h2:op=36
 · subst h2
   by_cases hlt:a<X.M.jN
   · have hg:a<V.dg.length:=by rw[←hv.jN];exact hlt
     have hs:V.dg[a]? = some V.dg[a]:=cb hg
     have hcell:=hv.gl a _ hs
     have e1:dG V 36 a=if V.dg[a]=true then 0 else 212:=by
      unfold dG
      rw[if_neg (by decide),if_pos rfl,acy,hs]
      cases V.dg[a]<;>rfl
     have hA:=gd (X:=X) (R:=R) V.dg[a] 212 c
     have hR:oB R V.dg[a] 212 c=oF R (dG V 36 a) c:=by
      rw[e1]
      cases V.dg[a]
      · rw[gW g.e (by decide)];rfl
      · rw[kC];rfl
     rw[hR] at hA
     have hB:=gd (X:=X) (R:=oF R (dG V 36 a) c) true 6 c
     rw[kC] at hB
     obtain⟨R',r1,a1⟩:=mX (X:=X) g hle hc 36 (dG V 36 a)
     exact⟨R',Pu haI hgN (by omega) (by rw[acy];exact hcell) hA hB r1,a1⟩
   · have hs:V.dg[a]? = none:=dt (by rw[←hv.jN];omega)
     have e1:dG V 36 a=6:=by
      unfold dG
      rw[if_neg (by decide),if_pos rfl,acy,hs]
     have hA:=gd (X:=X) (R:=R) false 6 c
     rw[gW g.e (by decide),show kB R 6 c=oF R (dG V 36 a) c by rw[e1];rfl] at hA
     obtain⟨R',r1,a1⟩:=mX (X:=X) g hle hc 36 (dG V 36 a)
     exact⟨R',Pv haI hgN (by omega) hA r1,a1⟩
 by_cases h3:op=35
 · subst h3
   have e1:dG V 35 a=if(a:Int)<V.dg.length then 0 else 6:=by unfold dG;rw[if_neg (by decide),if_neg (by decide),if_pos rfl]
   have hA:=gd (X:=X) (R:=R) (decide ((a:Int)<X.M.jN)) 6 c
   rw[sy g.e (by decide)] at hA
   have hR:(if(a:Int)<X.M.jN then R else kB R 6 c)=oF R (dG V 35 a) c:=by
    rw[e1,hv.jN];by_cases hq:(a:Int)<V.dg.length
    · rw[if_pos hq,if_pos hq];rfl
    · rw[if_neg hq,if_neg hq];rfl
   rw[hR] at hA
   obtain⟨R',r1,a1⟩:=mX (X:=X) g hle hc 35 (dG V 35 a)
   exact⟨R',Ta haI hgN hA r1,a1⟩
 have hmA:=gd (X:=X) (R:=R) (decide ((X.M.tU:Int)>0)) 6 c
 rw[sy g.e (by decide)] at hmA
 have hmR:(if(X.M.tU:Int)>0 then R else kB R 6 c)=if V.mem=true then R else kB R 6 c:=by
  rw[hv.me]
  by_cases hq:0<X.M.tU
  · rw[if_pos (by omega),if_pos (by simpa using hq)]
  · rw[if_neg (by omega),if_neg (by simpa using hq)]
 rw[hmR] at hmA
 by_cases h4:op=63∨op=64
 · have e1:dG V op a=if V.mem=true then 0 else 6:=by unfold dG;rw[if_neg (by omega),if_neg h2,if_neg h3,if_pos h4]
   have hR:(if V.mem=true then R else kB R 6 c)=oF R (dG V op a) c:=by
    rw[e1];by_cases hq:V.mem=true
    · rw[if_pos hq,if_pos hq];rfl
    · rw[if_neg hq,if_neg hq];rfl
   rw[hR] at hmA
   obtain⟨R',r1,a1⟩:=mX (X:=X) g hle hc op (dG V op a)
   exact⟨R',Tb h4 hmA r1,a1⟩
 by_cases h5:IE op=true
 · have e1:dG V op a=if V.mem=true then(if lz op<a then 211 else 0) else 6:=by unfold dG;rw[if_neg (by omega),if_neg h2,if_neg h3,if_neg h4,if_pos h5]
   have hB:=gd (X:=X) (R:=if V.mem=true then R else kB R 6 c) (decide ((a:Int)≤lz op)) 211 c
   have hR:oB (if V.mem=true then R else kB R 6 c) (decide ((a:Int)≤lz op)) 211 c=oF R (dG V op a) c:=by
    rw[e1]
    by_cases hq:V.mem=true
    · rw[if_pos hq,if_pos hq,sy g.e (by decide)]
      by_cases hz:(a:Int)≤lz op
      · rw[if_pos hz,if_neg (by omega)];rfl
      · rw[if_neg hz,if_pos (by omega)];rfl
    · rw[if_neg hq,if_neg hq,vO (by decide:(6:Int)≠0)];rfl
   rw[hR] at hB
   obtain⟨R',r1,a1⟩:=mX (X:=X) g hle hc op (dG V op a)
   exact⟨R',XW h5 hmA hB r1,a1⟩
 · have e1:dG V op a=0:=by unfold dG;rw[if_neg (by omega),if_neg h2,if_neg h3,if_neg h4,if_neg h5]
   obtain⟨R',r1,a1⟩:=mX (X:=X) g hle hc op (dG V op a)
   rw[show oF R (dG V op a) c=R by rw[e1];rfl] at r1
   exact⟨R',Pw (by simpa using h5) (by omega) r1,a1⟩
end
end Go.Proofs.YtdmmllcjgjmbbaaGreatDoor.N
end
section
set_option linter.unusedSimpArgs false
namespace Go.Proofs.YtdmmllcjgjmbbaaGreatDoor.N
open Go Go.Am
section
variable {X:Lx} {V:jH} {R:Rw} {o:List Fr} {t:Fr} {n c:Nat}
variable {r a b nn:Int} {tg:List Int} {ll le:List Ins}
theorem oA.bw (g:oA R o t n) (e q:Int):oA (kB R e q) o t n:=⟨g.h,g.k,g.cs,g.ok⟩
def GV (R:Rw) (jK:Bool) (e q:Int):Rw:=if jK=true then R else kB R e q
theorem sA (g:oA R o t n) (he:R.e=0) (jK:Bool) (x:Int) (hx:0≤x∧x<4294967296) (q:Nat) :
  Ask X 130 [sI .u32 x,sI .i64 q] (sI .i64 ((bt (o++[t])).getD x.toNat 0:Nat)) (GV R jK 6 q) (GV R (jK&&decide (x<(o++[t]).length)) 6 q):=by
 obtain⟨m,rfl⟩:=afw hx.1
 have hd:decide ((m:Int)<((o++[t]).length:Int))=decide (m<(o++[t]).length):=by congr 1;exact propext (by omega)
 cases jK with
 |true=>
  have h:=tX (X:=X) g m (by omega) q
  have e1:oB R (decide (m<(o++[t]).length)) 6 q=GV R (true&&decide ((m:Int)<((o++[t]).length:Int))) 6 q:=by
   rw[sy he (by decide),aeM,hd,GV]
   by_cases hq:m<(o++[t]).length
   · rw[if_pos hq,if_pos (decide_eq_true hq)]
   · rw[if_neg hq,if_neg (by simpa using hq)]
  rw[e1] at h
  exact h
 |false=>
  have h:=tX (X:=X) (g.bw 6 q) m (by omega) q
  rw[vO (by decide:(6:Int)≠0)] at h
  exact h
def yX (ls:List Nat) (l:List Int):List PV:=l.map fun x=> .sc (.int .i64 (ls.getD x.toNat 0:Nat))
theorem Px (ls:List Nat) (l:List Int) {i:Nat} (h:i<l.length):(yX ls l).getD i .bw = .sc (.int .i64 (ls.getD (l.getD i 0).toNat 0:Nat)):=by
 rw[yX,ch,List.getElem?_map,cb h]
 simp[ch,cb h]
def E5 (R:Rw) (jK same:Bool) (q:Int):Rw:=GV (GV R same 214 q) jK 6 q
theorem Tc (he:R.e=0) (jK same y:Bool) (q:Int):Ask X 134 [sB y,sI .i64 214,sI .i64 q] (.au []) (E5 R jK same q) (E5 R jK (same&&y) q):=by
 have h:=gd (X:=X) (R:=E5 R jK same q) y 214 q
 have e1:oB (E5 R jK same q) y 214 q=E5 R jK (same&&y) q:=by
  cases jK with
  |false=>
   have e (z:Bool):E5 R false z q=kB (GV R z 214 q) 6 q:=rfl
   rw[e,vO (R:=kB (GV R same 214 q) 6 q) (by decide:(6:Int)≠0),e]
   cases same<;>cases y<;>rfl
  |true=>
   have e0:E5 R true false q=kB R 214 q:=rfl
   have e1:E5 R true true q=R:=rfl
   cases same with
   |false=>rw[e0,vO (R:=kB R 214 q) (by decide:(214:Int)≠0),afv,e0]
   |true=>
    rw[e1,aeM]
    cases y with
    |true=>rw[kC,e1]
    |false=>rw[gW he (by decide),e0]
 rw[e1] at h
 exact h
theorem Td (g:dP R o t n c) (jK same:Bool) (k:Nat) :
  ∃R1 R2 R3,cQ X 131 [sI .i64 (1:Nat),sI .i64 c] (E5 R jK same c) R1∧cQ X 131 [sI .i64 k,sI .i64 c] R1 R2∧cQ X 128 [sI .i64 c] R2 R3 ∧
   dj o t R3 (if jK=false then .bw 6 c else if same=false then .bw 214 c else dF c 1 n t.dead fun n1=>dF c k n1 t.dead fun _=> .ok 0 true c):=by
 cases jK with
 |false=>
  have hb:(E5 R false same c).e≠0:=(by decide:(6:Int)≠0)
  exact⟨_,_,_,tW hb,tW hb,O4 hb,rfl,by decide,rfl⟩
 |true=>cases same with
  |false=>
   have hb:(E5 R true false c).e≠0:=(by decide:(214:Int)≠0)
   exact⟨_,_,_,tW hb,tW hb,O4 hb,rfl,by decide,rfl⟩
  |true=>
   obtain⟨R1,r1,a1,h1,x1⟩:=o9 (X:=X) g 1 c
   have P0:=g.nx
   have step : ∀v,dj o t R1 v→(∀n' d c',v = .ok n' d c'→d=t.dead∧c'=c) → ∃R2 R3,cQ X 131 [sI .i64 k,sI .i64 c] R1 R2∧cQ X 128 [sI .i64 c] R2 R3∧dj o t R3 (v.and fun m d c=>dF c k m d fun _=> .ok 0 true c):=by
    intro v hv hd
    cases v with
    |bw e q=>
     have hb:R1.e≠0:=by rw[hv.1];exact hv.2.1
     exact⟨R1,R1,tW hb,O4 hb,hv⟩
    |ok m d c'=>
     obtain⟨rfl,rfl⟩:=hd _ _ _ rfl
     obtain⟨R2,R3,r2,r3,a3⟩:=oD (X:=X) (t:=⟨t.op,t.base,t.res,t.dead⟩) hv k c'
     exact⟨R2,R3,r2,r3,a3⟩
   obtain⟨R2,R3,r2,r3,a3⟩:=step _ a1 (fun n' d c' hv=>by
    unfold dF at hv;split at hv
    · cases hv
    · cases hv;exact⟨rfl,rfl⟩)
   rw[l7] at a3
   exact⟨R1,R2,R3,r1,r2,r3,a3⟩
abbrev i14 (r a b nn:Int) (tg:List Int) (ll le:List Ins):aU:= .pc [.sc (.int .i64 14),.sc (.int .i64 r),.sc (.int .u32 a),.sc (.int .u32 b),.sc (.int .i32 nn),.ps tg.length 1 (dZ .u32 tg),.ps ll.length 8 (aq ll),.ps le.length 8 (aq le)]
theorem Kw (he:R.e=0) (jK:Bool) (ls:List Nat) (v q:Nat) (hlen:tg.length≤1000000000) {R1 R2 R3:Rw}
  (r1:cQ X 131 [sI .i64 (1:Nat),sI .i64 q] (E5 R jK (tg.all fun x=>ls.getD x.toNat 0==v) q) R1) (r2:cQ X 131 [sI .i64 v,sI .i64 q] R1 R2) (r3:cQ X 128 [sI .i64 q] R2 R3) :
  ∀(m i:Nat),i+m=tg.length→cO acb env (ak acb env 133 2 [.mp 0 0,sI .i64 q,sI .i64 v,.os (some 2) tg.length 1 (yX ls tg),sI .i64 tg.length,sI .i64 i]
   (eK X (E5 R jK ((tg.take i).all fun x=>ls.getD x.toNat 0==v) q)++[.tok]) 2 55) (.ret (.au []) (lC X R3)):=by
 intro m
 induction m with
 |zero=>
  intro i hi
  have Tu:tg.take i=tg:=dq (by omega)
  rw[Tu]
  refine aj aM (E4 X (E5 R jK (tg.all fun x=>ls.getD x.toNat 0==v) q) R1 R2 R3 R R R R q v 0 i tg.length (yX ls tg)) ?_
  have g1:decide ((i:Int)<(tg.length:Int))=false:=by simp;omega
  simp only[C2,bF,az.ok,aC,g1,pb,false_implies,true_implies,true_and,and_true]
  exact⟨r1,r2,r3⟩
 |succ m ih=>
  intro i hi
  have hlt:i<tg.length:=by omega
  have Yt:=ih (i+1) (by omega)
  have T6:tg.take (i+1)=tg.take i++[tg.getD i 0]:=by
   rw[afr,cb hlt,ch,cb hlt];rfl
  rw[T6,afs,aft,afu,aeq] at Yt
  have hA:=Tc (X:=X) he jK ((tg.take i).all fun x=>ls.getD x.toNat 0==v) (ls.getD (tg.getD i 0).toNat 0==v) q
  refine aj aM (E4 X _ (E5 R jK (((tg.take i).all fun x=>ls.getD x.toNat 0==v)&&(ls.getD (tg.getD i 0).toNat 0==v)) q) R R R R R R q v (ls.getD (tg.getD i 0).toNat 0:Nat) i tg.length (yX ls tg)) ?_
  have g1:decide ((i:Int)<(tg.length:Int))=true:=by simp;omega
  have hm:=Px ls tg hlt
  have hy:(((ls.getD (tg.getD i 0).toNat 0:Nat):Int)==(v:Int))=(ls.getD (tg.getD i 0).toNat 0==v):=by
   rw[Bool.eq_iff_iff,beq_iff_eq,beq_iff_eq];omega
  have w1:sb.wrap ((i:Int)+1)=((i+1:Nat):Int):=by rw[aN (by omega) (by omega)];rfl
  simp only[C2,bF,az.ok,aC,g1,w1,acy,aeR,hm,isInt,av,ik,hy,aW,ae5,false_implies,true_implies,true_and,and_true,aeq,c8,decide_eq_true_eq]
  exact⟨by omega,hA,Yt⟩
theorem Kx (g:dP R o t n c) (ha:0≤a∧a<4294967296) (TM : ∀x∈tg,0≤x∧x<4294967296) (hlen:tg.length≤1000000000) {R1 R2 R3:Rw}
  (r1:cQ X 131 [sI .i64 (1:Nat),sI .i64 c] (E5 R ((tg.all fun x=>decide (x<(o++[t]).length))&&decide (a<(o++[t]).length)) (tg.all fun x=>(bt (o++[t])).getD x.toNat 0==(bt (o++[t])).getD a.toNat 0) c) R1)
  (r2:cQ X 131 [sI .i64 ((bt (o++[t])).getD a.toNat 0:Nat),sI .i64 c] R1 R2) (r3:cQ X 128 [sI .i64 c] R2 R3) :
  ∀(m i:Nat),i+m=tg.length→1≤i→cO acb env (ak acb env 133 0 [.mp 0 0,sI .i64 c,.mp 2 0,.os (some 3) i 1 (yX (bt (o++[t])) (tg.take i)),tgA tg,sI .i64 tg.length,sI .i64 i]
   (eK X (GV R ((tg.take i).all fun x=>decide (x<(o++[t]).length)) 6 c)++[i14 r a b nn tg ll le,.tok]) 2 55) (.ret (.au []) (lC X R3)):=by
 intro m
 induction m with
 |zero=>
  intro i hi h1
  have Tu:tg.take i=tg:=dq (by omega)
  obtain rfl:i=tg.length:=by omega
  rw[Tu]
  have hA:=sA (X:=X) g.iy g.e (tg.all fun x=>decide (x<(o++[t]).length)) a ha c
  have Ls:=Kw (X:=X) g.e ((tg.all fun x=>decide (x<(o++[t]).length))&&decide (a<(o++[t]).length)) (bt (o++[t])) ((bt (o++[t])).getD a.toNat 0) c hlen r1 r2 r3 tg.length 0 (by omega)
  have hz:E5 R ((tg.all fun x=>decide (x<(o++[t]).length))&&decide (a<(o++[t]).length)) ((tg.take 0).all fun x=>(bt (o++[t])).getD x.toNat 0==(bt (o++[t])).getD a.toNat 0) c =
    GV R ((tg.all fun x=>decide (x<(o++[t]).length))&&decide (a<(o++[t]).length)) 6 c:=rfl
  rw[hz] at Ls
  refine aj aM (E3 X _ (GV R ((tg.all fun x=>decide (x<(o++[t]).length))&&decide (a<(o++[t]).length)) 6 c) R R R R R R r a b nn tg ll le c tg.length tg.length (yX (bt (o++[t])) tg) 0 ((bt (o++[t])).getD a.toNat 0:Nat)) ?_
  have g1:decide ((tg.length:Int)<(tg.length:Int))=false:=by simp
  simp only[C1,bF,az.ok,aC,g1,pb,false_implies,true_implies,true_and,and_true]
  exact⟨hA,Ls⟩
 |succ m ih=>
  intro i hi h1
  have hlt:i<tg.length:=by omega
  have Yt:=ih (i+1) (by omega) (by omega)
  have T6:tg.take (i+1)=tg.take i++[tg.getD i 0]:=by
   rw[afr,cb hlt,ch,cb hlt];rfl
  have hmem:tg.getD i 0∈tg:=by rw[ch,cb hlt];exact List.getElem_mem hlt
  rw[T6,afs,aft,afu,aeq] at Yt
  have Uq:yX (bt (o++[t])) (tg.take i++[tg.getD i 0])=yX (bt (o++[t])) (tg.take i)++[.sc (.int .i64 ((bt (o++[t])).getD (tg.getD i 0).toNat 0:Nat))]:=by simp[yX]
  rw[Uq] at Yt
  have hA:=sA (X:=X) g.iy g.e ((tg.take i).all fun x=>decide (x<(o++[t]).length)) (tg.getD i 0) (TM _ hmem) c
  refine aj aM (E3 X _ (GV R (((tg.take i).all fun x=>decide (x<(o++[t]).length))&&decide (tg.getD i 0<(o++[t]).length)) 6 c) R R R R R R r a b nn tg ll le c i i (yX (bt (o++[t])) (tg.take i)) (tg.getD i 0) ((bt (o++[t])).getD (tg.getD i 0).toNat 0:Nat)) ?_
  have g1:decide ((i:Int)<(tg.length:Int))=true:=by simp;omega
  have w1:sb.wrap ((i:Int)+1)=((i+1:Nat):Int):=by rw[aN (by omega) (by omega)];rfl
  have Cr:gi=70368744177664:=rfl
  simp only[C1,bF,az.ok,aC,g1,w1,acy,aeR,xN,xM,aW,ae5,false_implies,true_implies,true_and,and_true,aeq,c8,decide_eq_true_eq,aeN]
  exact⟨by omega,hlt,hA,⟨by omega,by omega⟩,Yt⟩
theorem Ky (g:dP R o t n c) (ha:0≤a∧a<4294967296) (TM : ∀x∈tg,0≤x∧x<4294967296) (hlen:tg.length≤1000000000) :
  ∃R',cQ X 133 [dO 14 r a b nn tg ll le,sI .i64 c] R R'∧dj o t R' (gj V (bt (o++[t])) 14 a tg n t.dead c):=by
 have Qc:(bt (o++[t])).length=(o++[t]).length:=by simp[bt]
 obtain⟨R1,R2,R3,r1,r2,r3,a3⟩:=Td (X:=X) g ((tg.all fun x=>decide (x<(o++[t]).length))&&decide (a<(o++[t]).length)) (tg.all fun x=>(bt (o++[t])).getD x.toNat 0==(bt (o++[t])).getD a.toNat 0) ((bt (o++[t])).getD a.toNat 0)
 refine⟨R3,?_,?_⟩
 · refine af aM (Po X R R R R R R R R r a b nn tg ll le c) ?_
   simp only[I4,bF,az.ok,aC]
   cases Te:tg with
   |nil=>
    subst Te
    have hA:=sA (X:=X) g.iy g.e true a ha c
    have h2:cO acb env (ak acb env 133 2 [.mp 0 0,sI .i64 c,sI .i64 ((bt (o++[t])).getD a.toNat 0:Nat),.os none 0 0 [],sI .i64 0,sI .i64 (0:Nat)] (eK X (GV R (true&&decide (a<(o++[t]).length)) 6 c)) 2 55) (.ret (.au []) (lC X R3)):=by
     refine aj aM (Pp X _ R1 R2 R3 R R R R c ((bt (o++[t])).getD a.toNat 0:Nat) 0 0 0 []) ?_
     simp only[I5,az.ok,aC,pb,false_implies,true_implies,true_and,and_true]
     exact⟨r1,r2,r3⟩
    refine aj aM (E2 X R (GV R (true&&decide (a<(o++[t]).length)) 6 c) R R R R R R r a b nn [] ll le c 0 0 [] 0 ((bt (o++[t])).getD a.toNat 0:Nat)) ?_
    simp only[C0,bF,az.ok,aC,List.length_nil]
    refine⟨fun hq=>absurd hq (by decide),fun _=>⟨hA,h2⟩⟩
   |cons x l=>
    have hlt:0<tg.length:=by rw[Te];simp
    have hA:=sA (X:=X) g.iy g.e true x (TM x (by rw[Te];simp)) c
    have qe:=Kx (X:=X) (r:=r) (b:=b) (nn:=nn) (ll:=ll) (le:=le) g ha TM hlen r1 r2 r3 (tg.length-1) 1 (by omega) (by omega)
    rw[Te] at qe
    have hT:(List.take 1 (x::l)).all (fun x=>decide (x<((o++[t]).length:Int)))=(true&&decide (x<((o++[t]).length:Int))):=by simp
    rw[hT] at qe
    refine aj aM (E2 X R (GV R (true&&decide (x<(o++[t]).length)) 6 c) R R R R R R r a b nn (x::l) ll le c 0 0 [] x ((bt (o++[t])).getD x.toNat 0:Nat)) ?_
    have g1:decide (((0:Nat):Int)<(((x::l).length:Nat):Int))=true:=by simp
    have Cr:gi=70368744177664:=rfl
    have hgd:(x::l).getD 0 0=x:=rfl
    simp only[C0,bF,az.ok,aC,g1,acy,Nat.zero_mul,xN,xM,hgd,aW,ae5,false_implies,true_implies,true_and,and_true,aeq,c8,decide_eq_true_eq,aeN]
    refine⟨by simp,by simp,hA,?_⟩
    first | exact⟨rfl,qe⟩ | exact⟨by omega,rfl,qe⟩ | exact qe
 · have e1:gj V (bt (o++[t])) 14 a tg n t.dead c=(match W8 (bt (o++[t])) tg a with
    |.inl e=> .bw e c
    |.inr k=>dF c 1 n t.dead fun n1=>dF c k n1 t.dead fun _=> .ok 0 true c):=rfl
   rw[e1]
   unfold W8
   rw[Qc]
   by_cases hall:(tg.all fun x=>decide (x<((o++[t]).length:Int)))=true
   · rw[if_neg (by rw[hall];decide)]
     rw[hall,aeM] at a3
     by_cases hlt:a<((o++[t]).length:Int)
     · have hs:(bt (o++[t]))[a.toNat]? = some ((bt (o++[t])).getD a.toNat 0):=by
        rw[ch,cb (by omega)];rfl
       rw[hs]
       rw[decide_eq_true hlt,if_neg (by decide)] at a3
       dsimp only
       by_cases hsame:(tg.all fun x=>(bt (o++[t])).getD x.toNat 0==(bt (o++[t])).getD a.toNat 0)=true
       · rw[if_pos hsame]
         rw[hsame,if_neg (by decide)] at a3
         exact a3
       · rw[if_neg hsame]
         rw[if_pos (by simpa using hsame)] at a3
         exact a3
     · have hs:(bt (o++[t]))[a.toNat]? = none:=dt (by omega)
       rw[hs]
       rw[decide_eq_false hlt,if_pos rfl] at a3
       exact a3
   · have hall:(tg.all fun x=>decide (x<((o++[t]).length:Int)))=false:=by simpa using hall
     rw[hall,afv,if_pos rfl] at a3
     rw[if_pos hall]
     exact a3
end
end Go.Proofs.YtdmmllcjgjmbbaaGreatDoor.N
end
