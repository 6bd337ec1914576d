import Derived.Test.YtddfgnmjecogdaaDoorMI
open Nat renaming pow_le_pow_right→Wf,mul_le_mul_left→Wg,min_eq_left→rp,beq→be
open Go.Value renaming int→yb
open Go.IntKind renaming i64→vj,u64→Wh,u8→V8,u32→VO,i32→V9
open Go.Proofs.Tryd renaming prog→ae
open Go.Fn renaming func→V2
open BitVec renaming ofInt→du,toNat_ofInt→Wc
open Min renaming min→V3
open List renaming getD_eq_getElem?_getD→dt,getElem?_eq_getElem→dp,getElem_mem→fw
open Int renaming toNat_natCast→V5
open Bool renaming false_eq_true→rh,true_eq_false→Wa,and_eq_true→dv,and_true→Wi,not_false→rk,not_true→UU
noncomputable section
section
set_option linter.unusedSimpArgs false
set_option linter.unusedVariables false
namespace Go.Proofs.YtddfgnmjecogdaaDoor.N
open Go Go.Am
def SM (k:Nat) (B:List PV) (at_ i acc:Nat) (c gM:Int):FuncId→Nat→Nat→Option (AV→AV):=eF [(78,9,5,sI .u8 c),(78,12,7,sI .u64 gM),(78,15,0,sI .i64 ((i+1:Nat):Int)),(78,7,2,sI .i64 ((at_+i:Nat):Int)),(78,9,3,sI .i64 ((at_+i:Nat):Int)),(78,11,2,sI .i64 ((at_+i:Nat):Int)),(78,14,7,sI .i64 ((at_+i+1:Nat):Int)),(78,14,3,sI .i64 ((7*(i+1):Nat):Int))]
def Qp (k:Nat) (B:List PV) (at_ bits many next e fa:Int) (f:FuncId) (_:List AV) (m:Mem):Option (AV×Mem):=cond (be f 78) (some (.bk [sI .u64 bits,sI .i64 many,sI .i64 next,.agg [sI .i64 e,sI .i64 fa]],[])) none
def Pj:gQ:=fy dY cC [(78,1)] [(78,2,3),(78,0,0)] []
def RG:Sc:=(.fork (.lit .fin) .fin)
def xh:aN:=
 (.out (Out.ret (AV.bk [AV.p (PV.sc (yb Wh 0)),AV.p (PV.sc (yb vj 0)),AV.p (PV.sc (yb vj 0)),AV.agg [AV.p (PV.sc (yb vj 5)),AV.p (PV.sc (yb vj 0))]]) []))
def HW (k:Nat) (B:List PV) (at_:Int):aN:=
 (.test (decide (at_<0))
  (xh)
  (.test (decide (at_>(↑k:Int)))
   (xh)
   (.at (aj ae env 78 1 [AV.p (PV.ps k 1 B),AV.p (PV.sc (yb vj at_)),AV.fn (V2 79) [] [],AV.p (PV.sc (yb Wh 0)),AV.mp 0 0,AV.p (PV.sc (yb vj 0))] ([aH.pc [PV.sc (yb vj 0),PV.sc (yb vj 0)]]) 0 79))))
theorem Kc (k:Nat) (B:List PV) (at_:Int):dF ae env Pj 1000000 78 ([AV.p (PV.ps k 1 B),sI vj at_,AV.fn (V2 79) [] []]) ([]) RG=HW k B at_:=by kernel_rfl
def MV:gQ:=fy dY cC [(78,1)] [(78,2,3),(78,0,0)] []
def Pk:Sc:=(.fork (.lit .fin) .fin)
def sW:aN:=
 (.out (Out.ret (AV.bk [AV.p (PV.sc (yb Wh 0)),AV.p (PV.sc (yb vj 0)),AV.p (PV.sc (yb vj 0)),AV.agg [AV.p (PV.sc (yb vj 5)),AV.p (PV.sc (yb vj 0))]]) []))
def Ez (k:Nat) (B:List PV) (at_:Int):aN:=
 (.test (decide (at_<0))
  (sW)
  (.test (decide (at_>(↑k:Int)))
   (sW)
   (.at (aj ae env 78 1 [AV.p (PV.ps k 1 B),AV.p (PV.sc (yb vj at_)),AV.fn (V2 83) [] [],AV.p (PV.sc (yb Wh 0)),AV.mp 0 0,AV.p (PV.sc (yb vj 0))] ([aH.pc [PV.sc (yb vj 0),PV.sc (yb vj 0)]]) 0 79))))
theorem HX (k:Nat) (B:List PV) (at_:Int):dF ae env MV 1000000 78 ([AV.p (PV.ps k 1 B),sI vj at_,AV.fn (V2 83) [] []]) ([]) Pk=Ez k B at_:=by kernel_rfl
def Pm (k:Nat) (B:List PV) (at_:Nat) (i:Nat) (acc:Nat) (c:Int) (gM:Int):gQ:=pY dY cC [(78,1)] [(78,0,2),(78,0,3),(78,10,3),(78,10,6),(78,0,4),(78,0,5)] [(78,9,4),(78,9,5),(78,12,6)] (SM k B at_ i acc c gM)
def RH:Sc:=(.fork (.fork .fin (.fork (.fork (.lit .fin) (.fork .fin (.yes .fin))) (.lit .fin))) .fin)
def hU (at_:Nat) (i:Nat) (gM:Int):aN:=
 (.need (AV.p (PV.sc (yb vj (vj.wrap (7*vj.wrap ((↑i:Int)+1)))))=sI vj (↑(7*(i+1)):Int)) (.need (AV.p (PV.sc (yb vj (vj.wrap (vj.wrap ((↑at_:Int)+(↑i:Int))+1))))=sI vj (↑(at_+i+1):Int)) (.out (Out.ret (AV.bk [AV.p (PV.sc (yb Wh gM)),AV.p (PV.sc (yb vj (↑(7*(i+1)):Int))),AV.p (PV.sc (yb vj (↑(at_+i+1):Int))),AV.agg [AV.p (PV.sc (yb vj 0)),AV.p (PV.sc (yb vj 0))]]) []))))
def ia (at_:Nat) (i:Nat):aN:=
 (.need (AV.p (PV.sc (yb vj (vj.wrap ((↑at_:Int)+(↑i:Int)))))=sI vj (↑(at_+i):Int)) (.out (Out.ret (AV.bk [AV.p (PV.sc (yb Wh 0)),AV.p (PV.sc (yb vj 0)),AV.p (PV.sc (yb vj 0)),AV.agg [AV.p (PV.sc (yb vj 4)),AV.p (PV.sc (yb vj (↑(at_+i):Int)))]]) [])))
def nY (k:Nat) (B:List PV) (at_:Nat) (i:Nat) (acc:Nat) (c:Int) (gM:Int):aN:=
 (.test (decide ((↑i:Int)<5))
  (.need (AV.p (PV.sc (yb vj (vj.wrap ((↑at_:Int)+(↑i:Int)))))=sI vj (↑(at_+i):Int))
   (.test (decide ((↑(at_+i):Int)≥(↑k:Int)))
    (.out (Out.ret (AV.bk [AV.p (PV.sc (yb Wh 0)),AV.p (PV.sc (yb vj 0)),AV.p (PV.sc (yb vj 0)),AV.agg [AV.p (PV.sc (yb vj 4)),AV.p (PV.sc (yb vj (↑k:Int)))]]) []))
    (.need (AV.p (PV.sc (yb vj (vj.wrap ((↑at_:Int)+(↑i:Int)))))=sI vj (↑(at_+i):Int))
     (.must (eW (↑(at_+i):Int) k&&true&&true)
      (.must (isInt V8 (bA B ((↑(at_+i):Int).toNat*1))&&true)
       (.need (AV.p (PV.sc (yb V8 (aS (bA B ((↑(at_+i):Int).toNat*1)))))=sI V8 c)
        (.test ((↑i:Int)==4)
         (.test (decide (c≥128))
          (ia at_ i)
          (.test (!decide (c≤15))
           (ia at_ i)
           (.must (decide (0≤vj.wrap (7*(↑i:Int)))&&true)
            (.need (AV.p (PV.sc (yb Wh (Wh.wrap (↑(du 64 (↑acc:Int)|||du 64 (Wh.wrap (Wh.wrap (V8.wrap (↑(du 8 c&&&du 8 127).toNat:Int))*2 ^ V3 (vj.wrap (7*(↑i:Int))).toNat 64))).toNat:Int))))=sI Wh gM)
             (.must (decide (c<128))
              (hU at_ i gM))))))
         (.must (decide (0≤vj.wrap (7*(↑i:Int)))&&true)
          (.need (AV.p (PV.sc (yb Wh (Wh.wrap (↑(du 64 (↑acc:Int)|||du 64 (Wh.wrap (Wh.wrap (V8.wrap (↑(du 8 c&&&du 8 127).toNat:Int))*2 ^ V3 (vj.wrap (7*(↑i:Int))).toNat 64))).toNat:Int))))=sI Wh gM)
           (.test (decide (c<128))
            (hU at_ i gM)
            (.need (AV.p (PV.sc (yb vj (vj.wrap ((↑i:Int)+1))))=sI vj (↑(i+1):Int))
             (.at (aj ae env 78 1 [AV.p (PV.ps k 1 B),AV.p (PV.sc (yb vj (↑at_:Int))),AV.fn (V2 79) [] [],AV.p (PV.sc (yb Wh gM)),AV.mp 0 0,AV.p (PV.sc (yb vj (↑(i+1):Int)))] ([aH.pc [PV.sc (yb vj 0),PV.sc (yb vj 0)]]) 0 79)))))))))))))
  (.out (Out.ret (AV.bk [AV.p (PV.sc (yb Wh 0)),AV.p (PV.sc (yb vj 0)),AV.p (PV.sc (yb vj 0)),AV.agg [AV.p (PV.sc (yb vj 4)),AV.p (PV.sc (yb vj (vj.wrap (vj.wrap ((↑at_:Int)+5)-1))))]]) [])))
theorem AU (k:Nat) (B:List PV) (at_:Nat) (i:Nat) (acc:Nat) (c:Int) (gM:Int):grow ae env (Pm k B at_ i acc c gM) 1000000 true (aj ae env 78 1 ([AV.p (PV.ps k 1 B),sI vj (↑at_:Int),AV.fn (V2 79) [] [],sI Wh (↑acc:Int),AV.mp 0 0,sI vj (↑i:Int)]) ([aH.pc [PV.sc (yb vj 0),PV.sc (yb vj 0)]]) 0 79) RH atEnd=nY k B at_ i acc c gM:=by kernel_rfl
def MW (k:Nat) (B:List PV) (at_:Nat) (i:Nat) (acc:Nat) (c:Int) (gM:Int):gQ:=pY dY cC [(78,1)] [(78,0,2),(78,0,3),(78,10,3),(78,10,6),(83,2,3),(78,0,5),(78,0,4)] [(78,9,4),(78,9,5),(78,12,6)] (SM k B at_ i acc c gM)
def Pn:Sc:=(.fork (.fork .fin (.fork (.fork (.lit .fin) (.fork (.lit (.yes .fin)) (.fork .fin (.yes .fin)))) (.lit .fin))) .fin)
def eS (at_:Nat) (i:Nat) (gM:Int):aN:=
 (.need (AV.p (PV.sc (yb vj (vj.wrap (7*vj.wrap ((↑i:Int)+1)))))=sI vj (↑(7*(i+1)):Int)) (.need (AV.p (PV.sc (yb vj (vj.wrap (vj.wrap ((↑at_:Int)+(↑i:Int))+1))))=sI vj (↑(at_+i+1):Int)) (.out (Out.ret (AV.bk [AV.p (PV.sc (yb Wh gM)),AV.p (PV.sc (yb vj (↑(7*(i+1)):Int))),AV.p (PV.sc (yb vj (↑(at_+i+1):Int))),AV.agg [AV.p (PV.sc (yb vj 0)),AV.p (PV.sc (yb vj 0))]]) []))))
def eT (at_:Nat) (i:Nat) (acc:Nat) (c:Int) (gM:Int):aN:=
 (.must (decide (0≤vj.wrap (7*(↑i:Int)))&&true) (.need (AV.p (PV.sc (yb Wh (Wh.wrap (↑(du 64 (↑acc:Int)|||du 64 (Wh.wrap (Wh.wrap (V8.wrap (↑(du 8 c&&&du 8 127).toNat:Int))*2 ^ V3 (vj.wrap (7*(↑i:Int))).toNat 64))).toNat:Int))))=sI Wh gM) (.must (decide (c<128)) (eS at_ i gM))))
def eU (at_:Nat) (i:Nat):aN:=
 (.need (AV.p (PV.sc (yb vj (vj.wrap ((↑at_:Int)+(↑i:Int)))))=sI vj (↑(at_+i):Int)) (.out (Out.ret (AV.bk [AV.p (PV.sc (yb Wh 0)),AV.p (PV.sc (yb vj 0)),AV.p (PV.sc (yb vj 0)),AV.agg [AV.p (PV.sc (yb vj 4)),AV.p (PV.sc (yb vj (↑(at_+i):Int)))]]) [])))
def jt (k:Nat) (B:List PV) (at_:Nat) (i:Nat) (acc:Nat) (c:Int) (gM:Int):aN:=
 (.test (decide ((↑i:Int)<5))
  (.need (AV.p (PV.sc (yb vj (vj.wrap ((↑at_:Int)+(↑i:Int)))))=sI vj (↑(at_+i):Int))
   (.test (decide ((↑(at_+i):Int)≥(↑k:Int)))
    (.out (Out.ret (AV.bk [AV.p (PV.sc (yb Wh 0)),AV.p (PV.sc (yb vj 0)),AV.p (PV.sc (yb vj 0)),AV.agg [AV.p (PV.sc (yb vj 4)),AV.p (PV.sc (yb vj (↑k:Int)))]]) []))
    (.need (AV.p (PV.sc (yb vj (vj.wrap ((↑at_:Int)+(↑i:Int)))))=sI vj (↑(at_+i):Int))
     (.must (eW (↑(at_+i):Int) k&&true&&true)
      (.must (isInt V8 (bA B ((↑(at_+i):Int).toNat*1))&&true)
       (.need (AV.p (PV.sc (yb V8 (aS (bA B ((↑(at_+i):Int).toNat*1)))))=sI V8 c)
        (.test ((↑i:Int)==4)
         (.test (decide (c≥128))
          (eU at_ i)
          (.test (decide (c≤7))
           (eT at_ i acc c gM)
           (.test (!decide (c≥120))
            (eU at_ i)
            (eT at_ i acc c gM))))
         (.must (decide (0≤vj.wrap (7*(↑i:Int)))&&true)
          (.need (AV.p (PV.sc (yb Wh (Wh.wrap (↑(du 64 (↑acc:Int)|||du 64 (Wh.wrap (Wh.wrap (V8.wrap (↑(du 8 c&&&du 8 127).toNat:Int))*2 ^ V3 (vj.wrap (7*(↑i:Int))).toNat 64))).toNat:Int))))=sI Wh gM)
           (.test (decide (c<128))
            (eS at_ i gM)
            (.need (AV.p (PV.sc (yb vj (vj.wrap ((↑i:Int)+1))))=sI vj (↑(i+1):Int))
             (.at (aj ae env 78 1 [AV.p (PV.ps k 1 B),AV.p (PV.sc (yb vj (↑at_:Int))),AV.fn (V2 83) [] [],AV.p (PV.sc (yb Wh gM)),AV.mp 0 0,AV.p (PV.sc (yb vj (↑(i+1):Int)))] ([aH.pc [PV.sc (yb vj 0),PV.sc (yb vj 0)]]) 0 79)))))))))))))
  (.out (Out.ret (AV.bk [AV.p (PV.sc (yb Wh 0)),AV.p (PV.sc (yb vj 0)),AV.p (PV.sc (yb vj 0)),AV.agg [AV.p (PV.sc (yb vj 4)),AV.p (PV.sc (yb vj (vj.wrap (vj.wrap ((↑at_:Int)+5)-1))))]]) [])))
theorem xj (k:Nat) (B:List PV) (at_:Nat) (i:Nat) (acc:Nat) (c:Int) (gM:Int):grow ae env (MW k B at_ i acc c gM) 1000000 true (aj ae env 78 1 ([AV.p (PV.ps k 1 B),sI vj (↑at_:Int),AV.fn (V2 83) [] [],sI Wh (↑acc:Int),AV.mp 0 0,sI vj (↑i:Int)]) ([aH.pc [PV.sc (yb vj 0),PV.sc (yb vj 0)]]) 0 79) Pn atEnd=jt k B at_ i acc c gM:=by kernel_rfl
def Po (k:Nat) (B:List PV) (at_:Int) (bits:Int) (many:Int) (next:Int) (e:Int) (fa:Int):gQ:=fy (Qp k B at_ bits many next e fa) (Qp k B at_ bits many next e fa) [] [] []
def RI:Sc:= .fin
def HY (k:Nat) (B:List PV) (at_:Int) (bits:Int) (many:Int) (next:Int) (e:Int) (fa:Int):aN:=
 (.call ⟨78,[AV.p (PV.ps k 1 B),AV.p (PV.sc (yb vj at_)),AV.fn (V2 79) [] []],[],AV.bk [AV.p (PV.sc (yb Wh bits)),AV.p (PV.sc (yb vj many)),AV.p (PV.sc (yb vj next)),AV.agg [AV.p (PV.sc (yb vj e)),AV.p (PV.sc (yb vj fa))]],[]⟩
  (.out (Out.ret (AV.bk [AV.p (PV.sc (yb VO (VO.wrap bits))),AV.p (PV.sc (yb vj next)),AV.agg [AV.p (PV.sc (yb vj e)),AV.p (PV.sc (yb vj fa))]]) [])))
theorem Kd (k:Nat) (B:List PV) (at_:Int) (bits:Int) (many:Int) (next:Int) (e:Int) (fa:Int):dF ae env (Po k B at_ bits many next e fa) 1000000 61 ([AV.p (PV.ps k 1 B),sI vj at_]) ([]) RI=HY k B at_ bits many next e fa:=by kernel_rfl
def Pp (k:Nat) (B:List PV) (at_:Int) (bits:Int) (many:Int) (next:Int) (e:Int) (fa:Int):gQ:=fy (Qp k B at_ bits many next e fa) (Qp k B at_ bits many next e fa) [] [(64,0,0)] [(64,0,1)]
def RJ:Sc:= .fin
def HZ (k:Nat) (B:List PV) (at_:Int) (bits:Int) (many:Int) (next:Int) (e:Int) (fa:Int):aN:=
 (.call ⟨78,[AV.p (PV.ps k 1 B),AV.p (PV.sc (yb vj at_)),AV.fn (V2 83) [] []],[],AV.bk [AV.p (PV.sc (yb Wh bits)),AV.p (PV.sc (yb vj many)),AV.p (PV.sc (yb vj next)),AV.agg [AV.p (PV.sc (yb vj e)),AV.p (PV.sc (yb vj fa))]],[]⟩
  (.test (e != 0)
   (.must true
    (.must true
     (.out (Out.ret (AV.bk [AV.p (PV.sc (yb V9 0)),AV.p (PV.sc (yb vj 0)),AV.agg [AV.p (PV.sc (yb vj e)),AV.p (PV.sc (yb vj fa))]]) []))))
   (.must (decide (0≤vj.wrap (64-many))&&true&&(decide (0≤vj.wrap (64-many))&&true&&true)&&true)
    (.must true
     (.out (Out.ret (AV.bk [AV.p (PV.sc (yb V9 (V9.wrap ((vj.wrap (Wh.wrap (bits*2 ^ V3 (vj.wrap (64-many)).toNat 64))).fdiv (2 ^ V3 (vj.wrap (64-many)).toNat 64))))),AV.p (PV.sc (yb vj next)),AV.agg [AV.p (PV.sc (yb vj e)),AV.p (PV.sc (yb vj fa))]]) []))))))
theorem Ke (k:Nat) (B:List PV) (at_:Int) (bits:Int) (many:Int) (next:Int) (e:Int) (fa:Int):dF ae env (Pp k B at_ bits many next e fa) 1000000 64 ([AV.p (PV.ps k 1 B),sI vj at_]) ([]) RJ=HZ k B at_ bits many next e fa:=by kernel_rfl
inductive GR where
 |ok (bits many next:Nat)
 |eJ (e fa:Nat)
def GR.bits:GR→Nat | .ok b _ _=>b | .eJ .. =>0
def GR.many:GR→Nat | .ok _ m _=>m | .eJ .. =>0
def GR.next:GR→Nat | .ok _ _ n=>n | .eJ .. =>0
def GR.e:GR→Nat | .ok .. =>0 | .eJ e _=>e
def GR.fa:GR→Nat | .ok .. =>0 | .eJ _ f=>f
def GR.av (r:GR):AV:= .bk [sI .u64 r.bits,sI .i64 r.many,sI .i64 r.next,.agg [sI .i64 r.e,sI .i64 r.fa]]
def gN (last:Nat→Bool) (b:List Nat) (p:Nat):Nat→Nat→Nat→GR
 |0,_,_=> .eJ 4 (p+4)
 |f+1,i,acc=>
  if b.length≤p+i then .eJ 4 b.length
  else if i=4∧(128≤b.getD (p+i) 0∨last (b.getD (p+i) 0)=false) then .eJ 4 (p+i)
  else if b.getD (p+i) 0<128 then .ok (acc+b.getD (p+i) 0%128*128 ^ i) (7*(i+1)) (p+i+1)
  else gN last b p f (i+1) (acc+b.getD (p+i) 0%128*128 ^ i)
def fU (c:Nat):Bool:=decide (c≤15)
def iY (c:Nat):Bool:=decide (c≤7)||decide (120≤c)
theorem H6 {b:List Nat} {n:Nat} (h:n<b.length):(bt b).getD (n*1) .eJ = .sc (.int .u8 ((b.getD n 0:Nat):Int)):=by
 simp[bt,dt,h]
theorem Cp {n:Int} (h0:0≤n) (h1:n<18446744073709551616):Wh.wrap n=n:=by rw[OY];omega
theorem Kf : ∀c:Nat,c<256→(du 8 (c:Int)&&&du 8 127).toNat=c%128:=by decide +kernel
theorem Kg {acc m k:Nat} (h:acc<2 ^ k) (hk:k≤28) (hm:m<128):(du 64 (acc:Int)|||du 64 ((m*2 ^ k:Nat):Int)).toNat=acc+m*2 ^ k:=by
 have hp:(2:Nat) ^ k≤2 ^ 28:=Wf (by decide) hk
 have TW:(2:Nat) ^ 28=268435456:=by decide
 have hmk:m*2 ^ k<128*268435456:=by
  have h1:m*2 ^ k≤m*268435456:=Wg _ (by omega)
  omega
 rw[BitVec.toNat_or,Wc,Wc]
 have a1:((acc:Int)%((2 ^ 64:Nat):Int)).toNat=acc:=by omega
 have a2:(((m*2 ^ k:Nat):Int)%((2 ^ 64:Nat):Int)).toNat=m*2 ^ k:=by omega
 rw[a1,a2,Nat.or_comm,Nat.mul_comm m,←Nat.two_pow_add_eq_or_of_lt h]
 omega
theorem Cq {acc i c:Nat} (hi:i<5) (ha:acc<128 ^ i) (hc:c<256) :
  Wh.wrap (↑(du 64 (acc:Int)|||du 64 (Wh.wrap (Wh.wrap (V8.wrap (↑(du 8 (c:Int)&&&du 8 127).toNat:Int))*2 ^ V3 (vj.wrap (7*(i:Int))).toNat 64))).toNat:Int)=((acc+c%128*128 ^ i:Nat):Int):=by
 have hw:vj.wrap (7*(i:Int))=((7*i:Nat):Int):=by rw[aX (by omega) (by omega)];omega
 have hp:(128:Nat) ^ i=2 ^ (7*i):=by rw[Nat.pow_mul]
 have hk:(2:Nat) ^ (7*i)≤2 ^ 28:=Wf (by decide) (by omega)
 have TW:(2:Nat) ^ 28=268435456:=by decide
 have hm:c%128<128:=by omega
 have hmk:c%128*2 ^ (7*i)<128*268435456:=by
  have h1:c%128*2 ^ (7*i)≤c%128*268435456:=Wg _ (by omega)
  omega
 rw[Kf c hc,hw,V5,rp (by omega),DE (by omega) (by omega),Cp (n:=((c%128:Nat):Int)) (by omega) (by omega)]
 have e1:((c%128:Nat):Int)*2 ^ (7*i)=((c%128*2 ^ (7*i):Nat):Int):=by rw[Int.natCast_mul,Int.natCast_pow];rfl
 rw[e1,Cp (n:=((c%128*2 ^ (7*i):Nat):Int)) (by omega) (by omega),Kg (by rw[←hp];exact ha) (by omega) hm,hp,Cp (by omega) (by rw[hp] at ha;omega)]
theorem sX {acc i c:Nat} (ha:acc<128 ^ i):acc+c%128*128 ^ i<128 ^ (i+1):=by
 rw[Nat.pow_succ]
 have hm:c%128≤127:=by omega
 have h1:c%128*128 ^ i≤127*128 ^ i:=Nat.mul_le_mul_right _ hm
 omega
section
variable {b:List Nat} (hb : ∀x∈b,x<256) (hl:b.length≤1000000000) {p:Nat} (hp:p≤b.length)
include hb hl hp
theorem MX : ∀(f i acc:Nat),i+f=5→acc<128 ^ i →
  dK ae env (aj ae env 78 1 [.p (.ps b.length 1 (bt b)),sI .i64 p,.fn (.func 79) [] [],sI .u64 acc,.mp 0 0,sI .i64 i] [.pc [.sc (.int .i64 0),.sc (.int .i64 0)]] 0 79) (.ret (gN fU b p f i acc).av []):=by
 intro f
 induction f with
 |zero=>
  intro i acc hi ha
  obtain rfl:i=5:=by omega
  refine aC cV (AU b.length (bt b) p 5 acc 0 0) ?_
  simp(disch:=omega) only[nY,hU,ia,ct,aN.ok,aX,show decide (((5:Nat):Int)<5)=false from rfl,rh,false_implies,true_implies,true_and,gN,GR.av,GR.bits,GR.many,GR.next,GR.e,GR.fa]
  have:(p:Int)+5-1=((p+4:Nat):Int):=by omega
  rw[this];rfl
 |succ f ih=>
  intro i acc hi ha
  have RK:i<5:=by omega
  have d5:decide ((i:Int)<5)=true:=decide_eq_true (by omega)
  have w1:vj.wrap ((p:Int)+(i:Int))=((p+i:Nat):Int):=by rw[aX (by omega) (by omega)];omega
  have w2:vj.wrap ((i:Int)+1)=((i+1:Nat):Int):=by rw[aX (by omega) (by omega)];rfl
  have w3:vj.wrap (7*((i+1:Nat):Int))=((7*(i+1):Nat):Int):=by rw[aX (by omega) (by omega)];omega
  have w4:vj.wrap (((p+i:Nat):Int)+1)=((p+i+1:Nat):Int):=by rw[aX (by omega) (by omega)];rfl
  have w5:decide (0≤vj.wrap (7*(i:Int)))=true:=decide_eq_true (by rw[aX (by omega) (by omega)];omega)
  by_cases h1:b.length≤p+i
  · have e:gN fU b p (f+1) i acc = .eJ 4 b.length:=by rw[gN,if_pos h1]
    have d1:decide (((p+i:Nat):Int)≥(b.length:Int))=true:=decide_eq_true (by omega)
    refine aC cV (AU b.length (bt b) p i acc 0 0) ?_
    rw[e]
    simp only[nY,hU,ia,ct,aN.ok,d5,w1,d1,Wa,false_implies,true_implies,and_true,true_and]
    exact rfl
  · have hlt:p+i<b.length:=by omega
    have hc:b.getD (p+i) 0<256:=by
     rw[dt,dp hlt];exact hb _ (fw hlt)
    have cell:=H6 hlt
    have hin:eW ((p+i:Nat):Int) b.length=true:=by simp only[eW,dv,decide_eq_true_eq];omega
    have d1:decide (((p+i:Nat):Int)≥(b.length:Int))=false:=decide_eq_false (by omega)
    have Cr:=Cq (c:=b.getD (p+i) 0) RK ha hc
    have hacc:=sX (c:=b.getD (p+i) 0) ha
    have t:=AU b.length (bt b) p i acc (b.getD (p+i) 0:Nat) ((acc+b.getD (p+i) 0%128*128 ^ i:Nat):Int)
    have e:gN fU b p (f+1) i acc=if i=4∧(128≤b.getD (p+i) 0∨fU (b.getD (p+i) 0)=false) then .eJ 4 (p+i) else if b.getD (p+i) 0<128 then .ok (acc+b.getD (p+i) 0%128*128 ^ i) (7*(i+1)) (p+i+1) else gN fU b p f (i+1) (acc+b.getD (p+i) 0%128*128 ^ i):=by rw[gN,if_neg h1]
    generalize b.getD (p+i) 0=c at *
    refine aC cV t ?_
    rw[e]
    by_cases h4:i=4
    · have d4:((i:Int)==4)=true:=by rw[h4];rfl
      by_cases h6:128≤c
      · have d6:decide ((c:Int)≥128)=true:=decide_eq_true (by omega)
        rw[if_pos ⟨h4,.inl h6⟩]
        simp only[nY,hU,ia,ct,aN.ok,d5,w1,d1,d4,d6,hin,V5,cell,isInt,aS,beq_self_eq_true,Wi,dv,Wa,rh,false_implies,true_implies,and_true,true_and]
        exact rfl
      · have d6:decide ((c:Int)≥128)=false:=decide_eq_false (by omega)
        by_cases h7:c≤15
        · have d7:decide ((c:Int)≤15)=true:=decide_eq_true (by omega)
          have d8:decide ((c:Int)<128)=true:=decide_eq_true (by omega)
          rw[if_neg (by simp[fU,h7];omega),if_pos (by omega)]
          simp only[nY,hU,ia,ct,aN.ok,d5,w1,w2,w3,w4,w5,d1,d4,d6,d7,d8,hin,Cr,V5,cell,isInt,aS,beq_self_eq_true,UU,Wi,dv,Wa,rh,false_implies,true_implies,and_true,true_and]
          exact rfl
        · have d7:decide ((c:Int)≤15)=false:=decide_eq_false (by omega)
          rw[if_pos ⟨h4,.inr (by simp[fU];omega)⟩]
          simp only[nY,hU,ia,ct,aN.ok,d5,w1,d1,d4,d6,d7,hin,V5,cell,isInt,aS,beq_self_eq_true,rk,Wi,dv,Wa,rh,false_implies,true_implies,and_true,true_and]
          exact rfl
    · have d4:((i:Int)==4)=false:=by
       cases h:((i:Int)==4) with
       |false=>rfl
       |true=>have:=eq_of_beq h;omega
      rw[if_neg (by omega)]
      by_cases h8:c<128
      · have d8:decide ((c:Int)<128)=true:=decide_eq_true (by omega)
        rw[if_pos h8]
        simp only[nY,hU,ia,ct,aN.ok,d5,w1,w2,w3,w4,w5,d1,d4,d8,hin,Cr,V5,cell,isInt,aS,beq_self_eq_true,Wi,dv,Wa,rh,false_implies,true_implies,and_true,true_and]
        exact rfl
      · have d8:decide ((c:Int)<128)=false:=decide_eq_false (by omega)
        rw[if_neg h8]
        simp only[nY,hU,ia,ct,aN.ok,d5,w1,w2,w3,w4,w5,d1,d4,d8,hin,Cr,V5,cell,isInt,aS,beq_self_eq_true,Wi,dv,Wa,rh,false_implies,true_implies,and_true,true_and]
        exact ih (i+1) _ (by omega) hacc
theorem Kh : ∀(f i acc:Nat),i+f=5→acc<128 ^ i →
  dK ae env (aj ae env 78 1 [.p (.ps b.length 1 (bt b)),sI .i64 p,.fn (.func 83) [] [],sI .u64 acc,.mp 0 0,sI .i64 i] [.pc [.sc (.int .i64 0),.sc (.int .i64 0)]] 0 79) (.ret (gN iY b p f i acc).av []):=by
 intro f
 induction f with
 |zero=>
  intro i acc hi ha
  obtain rfl:i=5:=by omega
  refine aC cV (xj b.length (bt b) p 5 acc 0 0) ?_
  simp(disch:=omega) only[jt,eS,eT,eU,ct,aN.ok,aX,show decide (((5:Nat):Int)<5)=false from rfl,rh,false_implies,true_implies,true_and,gN,GR.av,GR.bits,GR.many,GR.next,GR.e,GR.fa]
  have:(p:Int)+5-1=((p+4:Nat):Int):=by omega
  rw[this];rfl
 |succ f ih=>
  intro i acc hi ha
  have RK:i<5:=by omega
  have d5:decide ((i:Int)<5)=true:=decide_eq_true (by omega)
  have w1:vj.wrap ((p:Int)+(i:Int))=((p+i:Nat):Int):=by rw[aX (by omega) (by omega)];omega
  have w2:vj.wrap ((i:Int)+1)=((i+1:Nat):Int):=by rw[aX (by omega) (by omega)];rfl
  have w3:vj.wrap (7*((i+1:Nat):Int))=((7*(i+1):Nat):Int):=by rw[aX (by omega) (by omega)];omega
  have w4:vj.wrap (((p+i:Nat):Int)+1)=((p+i+1:Nat):Int):=by rw[aX (by omega) (by omega)];rfl
  have w5:decide (0≤vj.wrap (7*(i:Int)))=true:=decide_eq_true (by rw[aX (by omega) (by omega)];omega)
  by_cases h1:b.length≤p+i
  · have e:gN iY b p (f+1) i acc = .eJ 4 b.length:=by rw[gN,if_pos h1]
    have d1:decide (((p+i:Nat):Int)≥(b.length:Int))=true:=decide_eq_true (by omega)
    refine aC cV (xj b.length (bt b) p i acc 0 0) ?_
    rw[e]
    simp only[jt,eS,eT,eU,ct,aN.ok,d5,w1,d1,Wa,false_implies,true_implies,and_true,true_and]
    exact rfl
  · have hlt:p+i<b.length:=by omega
    have hc:b.getD (p+i) 0<256:=by
     rw[dt,dp hlt];exact hb _ (fw hlt)
    have cell:=H6 hlt
    have hin:eW ((p+i:Nat):Int) b.length=true:=by simp only[eW,dv,decide_eq_true_eq];omega
    have d1:decide (((p+i:Nat):Int)≥(b.length:Int))=false:=decide_eq_false (by omega)
    have Cr:=Cq (c:=b.getD (p+i) 0) RK ha hc
    have hacc:=sX (c:=b.getD (p+i) 0) ha
    have t:=xj b.length (bt b) p i acc (b.getD (p+i) 0:Nat) ((acc+b.getD (p+i) 0%128*128 ^ i:Nat):Int)
    have e:gN iY b p (f+1) i acc=if i=4∧(128≤b.getD (p+i) 0∨iY (b.getD (p+i) 0)=false) then .eJ 4 (p+i) else if b.getD (p+i) 0<128 then .ok (acc+b.getD (p+i) 0%128*128 ^ i) (7*(i+1)) (p+i+1) else gN iY b p f (i+1) (acc+b.getD (p+i) 0%128*128 ^ i):=by rw[gN,if_neg h1]
    generalize b.getD (p+i) 0=c at *
    refine aC cV t ?_
    rw[e]
    by_cases h4:i=4
    · have d4:((i:Int)==4)=true:=by rw[h4];rfl
      by_cases h6:128≤c
      · have d6:decide ((c:Int)≥128)=true:=decide_eq_true (by omega)
        rw[if_pos ⟨h4,.inl h6⟩]
        simp only[jt,eS,eT,eU,ct,aN.ok,d5,w1,d1,d4,d6,hin,V5,cell,isInt,aS,beq_self_eq_true,Wi,dv,Wa,rh,false_implies,true_implies,and_true,true_and]
        exact rfl
      · have d6:decide ((c:Int)≥128)=false:=decide_eq_false (by omega)
        by_cases h7:c≤7
        · have d7:decide ((c:Int)≤7)=true:=decide_eq_true (by omega)
          have d8:decide ((c:Int)<128)=true:=decide_eq_true (by omega)
          rw[if_neg (by simp[iY,h7];omega),if_pos (by omega)]
          simp only[jt,eS,eT,eU,ct,aN.ok,d5,w1,w2,w3,w4,w5,d1,d4,d6,d7,d8,hin,Cr,V5,cell,isInt,aS,beq_self_eq_true,UU,Wi,dv,Wa,rh,false_implies,true_implies,and_true,true_and]
          exact rfl
        · have d7:decide ((c:Int)≤7)=false:=decide_eq_false (by omega)
          by_cases h9:120≤c
          · have d9:decide ((c:Int)≥120)=true:=decide_eq_true (by omega)
            have d8:decide ((c:Int)<128)=true:=decide_eq_true (by omega)
            rw[if_neg (by simp[iY,h9];omega),if_pos (by omega)]
            simp only[jt,eS,eT,eU,ct,aN.ok,d5,w1,w2,w3,w4,w5,d1,d4,d6,d7,d8,d9,hin,Cr,V5,cell,isInt,aS,beq_self_eq_true,UU,rk,Wi,dv,Wa,rh,false_implies,true_implies,and_true,true_and]
            exact rfl
          · have d9:decide ((c:Int)≥120)=false:=decide_eq_false (by omega)
            rw[if_pos ⟨h4,.inr (by simp[iY];omega)⟩]
            simp only[jt,eS,eT,eU,ct,aN.ok,d5,w1,d1,d4,d6,d7,d9,hin,V5,cell,isInt,aS,beq_self_eq_true,rk,Wi,dv,Wa,rh,false_implies,true_implies,and_true,true_and]
            exact rfl
    · have d4:((i:Int)==4)=false:=by
       cases h:((i:Int)==4) with
       |false=>rfl
       |true=>have:=eq_of_beq h;omega
      rw[if_neg (by omega)]
      by_cases h8:c<128
      · have d8:decide ((c:Int)<128)=true:=decide_eq_true (by omega)
        rw[if_pos h8]
        simp only[jt,eS,eT,eU,ct,aN.ok,d5,w1,w2,w3,w4,w5,d1,d4,d8,hin,Cr,V5,cell,isInt,aS,beq_self_eq_true,Wi,dv,Wa,rh,false_implies,true_implies,and_true,true_and]
        exact rfl
      · have d8:decide ((c:Int)<128)=false:=decide_eq_false (by omega)
        rw[if_neg h8]
        simp only[jt,eS,eT,eU,ct,aN.ok,d5,w1,w2,w3,w4,w5,d1,d4,d8,hin,Cr,V5,cell,isInt,aS,beq_self_eq_true,Wi,dv,Wa,rh,false_implies,true_implies,and_true,true_and]
        exact ih (i+1) _ (by omega) hacc
def gU (b:List Nat) (p:Nat):GR:=gN fU b p 5 0 0
def gS (b:List Nat) (p:Nat):GR:=gN iY b p 5 0 0
theorem H7:aG ae env 78 [.p (.ps b.length 1 (bt b)),sI .i64 p,.fn (.func 79) [] []] [] (gU b p).av []:=by
 have d1:decide ((p:Int)<0)=false:=decide_eq_false (by omega)
 have d2:decide ((p:Int)>(b.length:Int))=false:=decide_eq_false (by omega)
 refine ak cV (Kc b.length (bt b) p) ?_
 simp only[HW,xh,aN.ok,d1,d2,rh,false_implies,true_implies,true_and]
 exact MX hb hl hp 5 0 0 rfl (by decide)
theorem FL:aG ae env 78 [.p (.ps b.length 1 (bt b)),sI .i64 p,.fn (.func 83) [] []] [] (gS b p).av []:=by
 have d1:decide ((p:Int)<0)=false:=decide_eq_false (by omega)
 have d2:decide ((p:Int)>(b.length:Int))=false:=decide_eq_false (by omega)
 refine ak cV (HX b.length (bt b) p) ?_
 simp only[Ez,sW,aN.ok,d1,d2,rh,false_implies,true_implies,true_and]
 exact Kh hb hl hp 5 0 0 rfl (by decide)
end
def SN (k:Nat) (B:List PV) (p e fa:Int) (v next e2 bE:Int) (f:FuncId) (_:List AV) (m:Mem):Option (AV×Mem):=cond (be f 61) (some (.bk [sI .u32 v,sI .i64 next,.agg [sI .i64 e2,sI .i64 bE]],m)) (cond (be f 64) (some (.bk [sI .i32 v,sI .i64 next,.agg [sI .i64 e2,sI .i64 bE]],m)) none)
def MY (k:Nat) (B:List PV) (p e fa:Int) (c p2 e2 bE:Int) (f:FuncId) (_:List AV) (m:Mem):Option (AV×Mem):=cond (be f 43) (some (sI .u8 c,[.pc [.ps k 1 B,.sc (.int .i64 p2),.sc (.int .i64 e2),.sc (.int .i64 bE)]])) none
def MZ:gQ:=fy dY cC [] [(43,0,0),(43,0,1),(38,0,0)] [(43,0,2)]
def Pq:Sc:=(.fork .fin (.fork (.yes .fin) .fin))
def uS (k:Nat) (B:List PV) (p:Int) (e:Int) (fa:Int) (c:Int):aN:=
 (.test (e != 0)
  (.out (Out.ret (AV.p (PV.sc (yb V8 0))) [aH.pc [PV.ps k 1 B,PV.sc (yb vj p),PV.sc (yb vj e),PV.sc (yb vj fa)]]))
  (.test (decide (p≥(↑k:Int)))
   (.must (!e != 0)
    (.must true
     (.out (Out.ret (AV.p (PV.sc (yb V8 0))) [aH.pc [PV.ps k 1 B,PV.sc (yb vj p),PV.sc (yb vj 4),PV.sc (yb vj (↑k:Int))]]))))
   (.must (eW (vj.wrap (vj.wrap (p+1)-1)) k&&true&&(isInt V8 (bA B ((vj.wrap (vj.wrap (p+1)-1)).toNat*1))&&true)&&true)
    (.must true
     (.out (Out.ret (AV.p (PV.sc (yb V8 (aS (bA B ((vj.wrap (vj.wrap (p+1)-1)).toNat*1)))))) [aH.pc [PV.ps k 1 B,PV.sc (yb vj (vj.wrap (p+1))),PV.sc (yb vj e),PV.sc (yb vj fa)]]))))))
theorem H8 (k:Nat) (B:List PV) (p:Int) (e:Int) (fa:Int) (c:Int):dF ae env MZ 1000000 43 ([AV.mp 0 0]) ([aH.pc [PV.ps k 1 B,PV.sc (yb vj p),PV.sc (yb vj e),PV.sc (yb vj fa)]]) Pq=uS k B p e fa c:=by kernel_rfl
def M0 (k:Nat) (B:List PV) (p:Int) (e:Int) (fa:Int) (v:Int) (next:Int) (e2:Int) (bE:Int):gQ:=fy (SN k B p e fa v next e2 bE) (SN k B p e fa v next e2 bE) [] [(37,0,0),(37,0,1)] []
def Pr:Sc:= .fin
def uT (k:Nat) (B:List PV) (p:Int) (e:Int) (fa:Int) (v:Int) (next:Int) (e2:Int) (bE:Int):aN:=
 (.test (e != 0)
  (.out (Out.ret (AV.p (PV.sc (yb VO 0))) [aH.pc [PV.ps k 1 B,PV.sc (yb vj p),PV.sc (yb vj e),PV.sc (yb vj fa)]]))
  (.call ⟨61,[AV.p (PV.ps k 1 B),AV.p (PV.sc (yb vj p))],[],AV.bk [AV.p (PV.sc (yb VO v)),AV.p (PV.sc (yb vj next)),AV.agg [AV.p (PV.sc (yb vj e2)),AV.p (PV.sc (yb vj bE))]],[]⟩
   (.test (e2 != 0)
    (.out (Out.ret (AV.p (PV.sc (yb VO 0))) [aH.pc [PV.ps k 1 B,PV.sc (yb vj p),PV.sc (yb vj e2),PV.sc (yb vj bE)]]))
    (.out (Out.ret (AV.p (PV.sc (yb VO v))) [aH.pc [PV.ps k 1 B,PV.sc (yb vj next),PV.sc (yb vj e),PV.sc (yb vj fa)]])))))
theorem H9 (k:Nat) (B:List PV) (p:Int) (e:Int) (fa:Int) (v:Int) (next:Int) (e2:Int) (bE:Int):dF ae env (M0 k B p e fa v next e2 bE) 1000000 37 ([AV.mp 0 0]) ([aH.pc [PV.ps k 1 B,PV.sc (yb vj p),PV.sc (yb vj e),PV.sc (yb vj fa)]]) Pr=uT k B p e fa v next e2 bE:=by kernel_rfl
def M1 (k:Nat) (B:List PV) (p:Int) (e:Int) (fa:Int) (c:Int) (p2:Int) (e2:Int) (bE:Int):gQ:=fy (MY k B p e fa c p2 e2 bE) cC [] [(39,0,2),(38,0,0)] []
def Pu:Sc:= .fin
def EA (k:Nat) (B:List PV) (p:Int) (e:Int) (fa:Int) (c:Int) (p2:Int) (e2:Int) (bE:Int):aN:=
 (.call ⟨43,[AV.mp 0 0],[aH.pc [PV.ps k 1 B,PV.sc (yb vj p),PV.sc (yb vj e),PV.sc (yb vj fa)]],AV.p (PV.sc (yb V8 c)),[aH.pc [PV.ps k 1 B,PV.sc (yb vj p2),PV.sc (yb vj e2),PV.sc (yb vj bE)]]⟩
  (.test (c==0)
   (.out (Out.ret (AV.p (PV.sc (yb V8 c))) [aH.pc [PV.ps k 1 B,PV.sc (yb vj p2),PV.sc (yb vj e2),PV.sc (yb vj bE)]]))
   (.test (!e2 != 0)
    (.out (Out.ret (AV.p (PV.sc (yb V8 0))) [aH.pc [PV.ps k 1 B,PV.sc (yb vj p2),PV.sc (yb vj 140),PV.sc (yb vj (vj.wrap (p2-1)))]]))
    (.out (Out.ret (AV.p (PV.sc (yb V8 0))) [aH.pc [PV.ps k 1 B,PV.sc (yb vj p2),PV.sc (yb vj e2),PV.sc (yb vj bE)]])))))
theorem Ia (k:Nat) (B:List PV) (p:Int) (e:Int) (fa:Int) (c:Int) (p2:Int) (e2:Int) (bE:Int):dF ae env (M1 k B p e fa c p2 e2 bE) 1000000 39 ([AV.mp 0 0,AV.os Option.none 1 1 [PV.sc (yb V8 0)]]) ([aH.pc [PV.ps k 1 B,PV.sc (yb vj p),PV.sc (yb vj e),PV.sc (yb vj fa)]]) Pu=EA k B p e fa c p2 e2 bE:=by kernel_rfl
def M3 (k:Nat) (B:List PV) (p:Int) (e:Int) (fa:Int) (c:Int) (p2:Int) (e2:Int) (bE:Int):gQ:=fy (MY k B p e fa c p2 e2 bE) cC [] [(39,0,2),(38,0,0)] []
def Pv:Sc:= .fin
def EB (k:Nat) (B:List PV) (p:Int) (e:Int) (fa:Int) (c:Int) (p2:Int) (e2:Int) (bE:Int):aN:=
 (.call ⟨43,[AV.mp 0 0],[aH.pc [PV.ps k 1 B,PV.sc (yb vj p),PV.sc (yb vj e),PV.sc (yb vj fa)]],AV.p (PV.sc (yb V8 c)),[aH.pc [PV.ps k 1 B,PV.sc (yb vj p2),PV.sc (yb vj e2),PV.sc (yb vj bE)]]⟩
  (.test (c==64)
   (.out (Out.ret (AV.p (PV.sc (yb V8 c))) [aH.pc [PV.ps k 1 B,PV.sc (yb vj p2),PV.sc (yb vj e2),PV.sc (yb vj bE)]]))
   (.test (c==127)
    (.out (Out.ret (AV.p (PV.sc (yb V8 c))) [aH.pc [PV.ps k 1 B,PV.sc (yb vj p2),PV.sc (yb vj e2),PV.sc (yb vj bE)]]))
    (.test (!e2 != 0)
     (.out (Out.ret (AV.p (PV.sc (yb V8 0))) [aH.pc [PV.ps k 1 B,PV.sc (yb vj p2),PV.sc (yb vj 140),PV.sc (yb vj (vj.wrap (p2-1)))]]))
     (.out (Out.ret (AV.p (PV.sc (yb V8 0))) [aH.pc [PV.ps k 1 B,PV.sc (yb vj p2),PV.sc (yb vj e2),PV.sc (yb vj bE)]]))))))
theorem Ib (k:Nat) (B:List PV) (p:Int) (e:Int) (fa:Int) (c:Int) (p2:Int) (e2:Int) (bE:Int):dF ae env (M3 k B p e fa c p2 e2 bE) 1000000 39 ([AV.mp 0 0,AV.os Option.none 2 1 [PV.sc (yb V8 64),PV.sc (yb V8 127)]]) ([aH.pc [PV.ps k 1 B,PV.sc (yb vj p),PV.sc (yb vj e),PV.sc (yb vj fa)]]) Pv=EB k B p e fa c p2 e2 bE:=by kernel_rfl
structure RS where
 p:Nat
 e:Nat
 fa:Nat
def RS.aP (b:List Nat) (s:RS):aH:= .pc [.ps b.length 1 (bt b),.sc (.int .i64 s.p),.sc (.int .i64 s.e),.sc (.int .i64 s.fa)]
def aR (b:List Nat) (s:RS):Nat×RS:=
 if s.e≠0 then(0,s) else if b.length≤s.p then(0,⟨s.p,4,b.length⟩) else(b.getD s.p 0,⟨s.p+1,s.e,s.fa⟩)
def aA (b:List Nat) (s:RS):Nat×RS:=
 if s.e≠0 then(0,s) else if(gU b s.p).e≠0 then(0,⟨s.p,(gU b s.p).e,(gU b s.p).fa⟩) else((gU b s.p).bits%4294967296,⟨(gU b s.p).next,s.e,s.fa⟩)
def cO (ok:Nat→Bool) (b:List Nat) (s:RS):Nat×RS:=
 if ok (aR b s).1=true then aR b s else(0,if(aR b s).2.e=0 then⟨(aR b s).2.p,140,(aR b s).2.p-1⟩ else(aR b s).2)
def xK (c:Nat):Bool:=decide (c=0)
def rL (c:Nat):Bool:=decide (c=64)||decide (c=127)
theorem rB {n:Nat}:((n:Int) != 0)=decide (n≠0):=by
 by_cases h:n=0
 · subst h;rfl
 · rw[decide_eq_true h]
   have : ¬(n:Int)=0:=by omega
   simpa using this
structure cP (b:List Nat) (s:RS):Prop where
 gi : ∀x∈b,x<256
 len:b.length≤1000000000
 p:s.p≤b.length
theorem kP {last:Nat→Bool} {b:List Nat} {p:Nat} : ∀(f i acc:Nat),(gN last b p f i acc).e=0→(gN last b p f i acc).next≤b.length∧p+i+1≤(gN last b p f i acc).next
 |0,i,acc,h=>by simp[gN,GR.e] at h
 |f+1,i,acc,h=>by
  unfold gN at h ⊢
  split at h
  · simp[GR.e] at h
  · split at h
    · simp[GR.e] at h
    · split at h
      · rename_i h1 h2 h3
        rw[if_neg h1,if_neg h2,if_pos h3]
        simp only[GR.next]
        omega
      · rename_i h1 h2 h3
        rw[if_neg h1,if_neg h2,if_neg h3]
        have:=kP (p:=p) f (i+1) _ h
        omega
theorem jz {b:List Nat} {s:RS} (h:cP b s):cP b (aR b s).2:=by
 unfold aR
 split
 · exact h
 · split
   · exact⟨h.gi,h.len,h.p⟩
   · exact⟨h.gi,h.len,by show s.p+1≤_;omega⟩
theorem dy {b:List Nat} {s:RS} (h:cP b s):cP b (aA b s).2:=by
 unfold aA
 split
 · exact h
 · split
   · exact⟨h.gi,h.len,h.p⟩
   · rename_i h2
     exact⟨h.gi,h.len,(kP 5 0 0 (by simpa[gU] using h2)).1⟩
theorem j5 {ok:Nat→Bool} {b:List Nat} {s:RS} (h:cP b s):cP b (cO ok b s).2:=by
 unfold cO
 split
 · exact jz h
 · dsimp only
   split
   · exact⟨h.gi,h.len,(jz h).p⟩
   · exact jz h
theorem cq {b:List Nat} {s:RS} (h:cP b s):aG ae env 43 [.mp 0 0] [s.aP b] (sI .u8 (aR b s).1) [(aR b s).2.aP b]:=by
 obtain⟨p,e,fa⟩:=s
 have hp:p≤b.length:=h.p
 have hl:=h.len
 refine ak cV (H8 b.length (bt b) p e fa 0) ?_
 by_cases he:e=0
 · subst he
   by_cases h1:b.length≤p
   · have d1:decide ((p:Int)≥(b.length:Int))=true:=decide_eq_true (by omega)
     simp only[uS,ct,aN.ok,d1,rB,Wa,rh,false_implies,true_implies,true_and,and_true,ne_eq,not_true,decide_false,rk]
     simp[aR,RS.aP,h1]
   · have hlt:p<b.length:=by omega
     have d1:decide ((p:Int)≥(b.length:Int))=false:=decide_eq_false (by omega)
     have w1:vj.wrap ((p:Int)+1)=((p+1:Nat):Int):=by rw[aX (by omega) (by omega)];rfl
     have w2:vj.wrap (((p+1:Nat):Int)-1)=(p:Int):=by rw[aX (by omega) (by omega)];omega
     have hin:eW (p:Int) b.length=true:=by simp only[eW,dv,decide_eq_true_eq];omega
     have cell:=H6 hlt
     simp only[uS,ct,aN.ok,d1,w1,w2,hin,V5,cell,isInt,aS,rB,beq_self_eq_true,Wi,Wa,rh,false_implies,true_implies,true_and,and_true,ne_eq,not_true,decide_false]
     simp[aR,RS.aP,h1]
 · have de:((e:Int) != 0)=true:=by rw[rB];exact decide_eq_true he
   simp only[uS,ct,aN.ok,de,Wa,false_implies,true_implies,and_true]
   simp[aR,RS.aP,he]
theorem FM {b:List Nat} {s:RS} (h:cP b s):aG ae env 61 [.p (.ps b.length 1 (bt b)),sI .i64 s.p] [] (.bk [sI .u32 ((gU b s.p).bits%4294967296:Nat),sI .i64 (gU b s.p).next,.agg [sI .i64 (gU b s.p).e,sI .i64 (gU b s.p).fa]]) []:=by
 refine ak cV (Kd b.length (bt b) s.p (gU b s.p).bits (gU b s.p).many (gU b s.p).next (gU b s.p).e (gU b s.p).fa) ?_
 simp only[HY,aN.ok]
 refine⟨H7 h.gi h.len h.p,?_⟩
 rw[OX]
 rfl
theorem jA {b:List Nat} {s:RS} (h:cP b s):aG ae env 37 [.mp 0 0] [s.aP b] (sI .u32 (aA b s).1) [(aA b s).2.aP b]:=by
 have hg:=FM h
 obtain⟨p,e,fa⟩:=s
 refine ak cV (H9 b.length (bt b) p e fa ((gU b p).bits%4294967296:Nat) (gU b p).next (gU b p).e (gU b p).fa) ?_
 by_cases he:e=0
 · subst he
   by_cases h2:(gU b p).e=0
   · simp only[uT,aN.ok,rB,h2,Wa,rh,false_implies,true_implies,true_and,and_true,ne_eq,not_true,decide_false]
     refine⟨by rw[h2] at hg;exact hg,?_⟩
     simp[aA,RS.aP,h2]
   · have d2:(((gU b p).e:Int) != 0)=true:=by rw[rB];exact decide_eq_true h2
     simp only[uT,aN.ok,rB (n:=0),d2,Wa,rh,false_implies,true_implies,true_and,and_true,ne_eq,not_true,decide_false]
     refine⟨hg,?_⟩
     simp[aA,RS.aP,h2]
 · have de:((e:Int) != 0)=true:=by rw[rB];exact decide_eq_true he
   simp only[uT,aN.ok,de,Wa,false_implies,true_implies,and_true]
   simp[aA,RS.aP,he]
theorem sY {b:List Nat} {s:RS} (h:(aR b s).2.e=0):1≤(aR b s).2.p:=by
 unfold aR at h ⊢
 split at h
 · rename_i h1;exact absurd h h1
 · split at h
   · simp at h
   · rename_i h1 h2
     rw[if_neg h1,if_neg h2]
     show 1≤s.p+1
     omega
theorem xk {b:List Nat} {s:RS} (h:cP b s):aG ae env 39 [.mp 0 0,.os none 1 1 [.sc (.int .u8 0)]] [s.aP b] (sI .u8 (cO xK b s).1) [(cO xK b s).2.aP b]:=by
 have hb:=cq h
 have hf:=jz h
 have hpos:=sY (b:=b) (s:=s)
 have e1:cO xK b s=if xK (aR b s).1=true then aR b s else(0,if(aR b s).2.e=0 then⟨(aR b s).2.p,140,(aR b s).2.p-1⟩ else(aR b s).2):=rfl
 rw[e1]
 generalize aR b s=r at *
 obtain⟨c,⟨p2,e2,bE⟩⟩:=r
 have C9:p2≤b.length:=hf.p
 have hl:=hf.len
 refine ak cV (Ia b.length (bt b) s.p s.e s.fa c p2 e2 bE) ?_
 simp only[EA,aN.ok]
 refine⟨hb,fun h1=> ?_,fun h1=>⟨fun h2=> ?_,fun h2=> ?_⟩⟩
 · have:c=0:=by have:=eq_of_beq h1;omega
   rw[if_pos (by simp[xK,this])];rfl
 · have : ¬c=0:=fun e=>by rw[e] at h1;cases h1
   have e0:e2=0:=by rw[rB] at h2;simpa using h2
   subst e0
   have:=hpos rfl
   have w:vj.wrap ((p2:Int)-1)=((p2-1:Nat):Int):=by rw[aX (by omega) (by omega)];simp only at this;omega
   rw[if_neg (by simp[xK,this];omega),w];rfl
 · have : ¬c=0:=fun e=>by rw[e] at h1;cases h1
   have e0 : ¬e2=0:=by rw[rB] at h2;simpa using h2
   rw[if_neg (by simp[xK];omega)]
   simp[e0,RS.aP]
theorem DF {b:List Nat} {s:RS} (h:cP b s):aG ae env 39 [.mp 0 0,.os none 2 1 [.sc (.int .u8 64),.sc (.int .u8 127)]] [s.aP b] (sI .u8 (cO rL b s).1) [(cO rL b s).2.aP b]:=by
 have hb:=cq h
 have hf:=jz h
 have hpos:=sY (b:=b) (s:=s)
 have e1:cO rL b s=if rL (aR b s).1=true then aR b s else(0,if(aR b s).2.e=0 then⟨(aR b s).2.p,140,(aR b s).2.p-1⟩ else(aR b s).2):=rfl
 rw[e1]
 generalize aR b s=r at *
 obtain⟨c,⟨p2,e2,bE⟩⟩:=r
 have C9:p2≤b.length:=hf.p
 have hl:=hf.len
 refine ak cV (Ib b.length (bt b) s.p s.e s.fa c p2 e2 bE) ?_
 simp only[EB,aN.ok]
 refine⟨hb,fun h1=> ?_,fun h1=>⟨fun h3=> ?_,fun h3=>⟨fun h2=> ?_,fun h2=> ?_⟩⟩⟩
 · have:c=64:=by have:=eq_of_beq h1;omega
   rw[if_pos (by simp[rL,this])];rfl
 · have:c=127:=by have:=eq_of_beq h3;omega
   rw[if_pos (by simp[rL,this])];rfl
 · have n1 : ¬c=64:=fun e=>by rw[e] at h1;cases h1
   have n2 : ¬c=127:=fun e=>by rw[e] at h3;cases h3
   have e0:e2=0:=by rw[rB] at h2;simpa using h2
   subst e0
   have:=hpos rfl
   have w:vj.wrap ((p2:Int)-1)=((p2-1:Nat):Int):=by rw[aX (by omega) (by omega)];simp only at this;omega
   rw[if_neg (by simp[rL];omega),w];rfl
 · have n1 : ¬c=64:=fun e=>by rw[e] at h1;cases h1
   have n2 : ¬c=127:=fun e=>by rw[e] at h3;cases h3
   have e0 : ¬e2=0:=by rw[rB] at h2;simpa using h2
   rw[if_neg (by simp[rL];omega)]
   simp[e0,RS.aP]
def Ic (bits many:Nat):Int:=V9.wrap (if 2 ^ (many-1)≤bits then(bits:Int)-(2 ^ many:Nat) else bits)
def CK (b:List Nat) (p:Nat):Int:=if(gS b p).e≠0 then 0 else Ic (gS b p).bits (gS b p).many
def xL (b:List Nat) (p:Nat):Nat:=if(gS b p).e≠0 then 0 else(gS b p).next
theorem EC {last:Nat→Bool} {b:List Nat} {p:Nat} : ∀(f i acc:Nat),i+f=5→acc<128 ^ i→(gN last b p f i acc).e=0 → ∃j,j<5∧(gN last b p f i acc).many=7*(j+1)∧(gN last b p f i acc).bits<128 ^ (j+1)
 |0,i,acc,_,_,h=>by simp[gN,GR.e] at h
 |f+1,i,acc,hi,ha,h=>by
  unfold gN at h ⊢
  split at h
  · simp[GR.e] at h
  · split at h
    · simp[GR.e] at h
    · split at h
      · rename_i h1 h2 h3
        rw[if_neg h1,if_neg h2,if_pos h3]
        exact⟨i,by omega,rfl,sX ha⟩
      · rename_i h1 h2 h3
        rw[if_neg h1,if_neg h2,if_neg h3]
        exact EC f (i+1) _ (by omega) (sX ha) h
theorem Ie {bits j:Nat} (hj:j<5) (hb:bits<128 ^ (j+1)) :
  V9.wrap ((vj.wrap (Wh.wrap ((bits:Int)*2 ^ V3 (vj.wrap (64-((7*(j+1):Nat):Int))).toNat 64))).fdiv (2 ^ V3 (vj.wrap (64-((7*(j+1):Nat):Int))).toNat 64))=Ic bits (7*(j+1)):=by
 have w:vj.wrap (64-((7*(j+1):Nat):Int))=((64-7*(j+1):Nat):Int):=by rw[aX (by omega) (by omega)];omega
 rw[w,V5,rp (by omega)]
 unfold Ic
 congr 1
 rw[Int.fdiv_eq_ediv_of_nonneg _ (by exact Int.le_of_lt (Int.pow_pos (by decide)))]
 have hj':j=0∨j=1∨j=2∨j=3∨j=4:=by omega
 rcases hj' with rfl | rfl | rfl | rfl | rfl<;>simp only[Nat.reduceAdd,Nat.reduceMul,Nat.reduceSub,Nat.reducePow,Int.reducePow,OY,OW] at hb ⊢ <;> split<;>omega
theorem FN {b:List Nat} {s:RS} (h:cP b s):aG ae env 64 [.p (.ps b.length 1 (bt b)),sI .i64 s.p] [] (.bk [sI .i32 (CK b s.p),sI .i64 (xL b s.p),.agg [sI .i64 (gS b s.p).e,sI .i64 (gS b s.p).fa]]) []:=by
 have hg:=FL h.gi h.len h.p
 refine ak cV (Ke b.length (bt b) s.p (gS b s.p).bits (gS b s.p).many (gS b s.p).next (gS b s.p).e (gS b s.p).fa) ?_
 simp only[HZ,aN.ok]
 refine⟨hg,fun h1=> ?_,fun h1=> ?_⟩
 · have h1:(gS b s.p).e≠0:=by rw[rB] at h1;simpa using h1
   simp only[CK,xL,if_pos h1,true_and]
   rfl
 · have h1 : ¬(gS b s.p).e≠0:=by rw[rB] at h1;simpa using h1
   obtain⟨j,hj,hm,hb⟩:=EC (last:=iY) (b:=b) (p:=s.p) 5 0 0 rfl (by decide) (by simpa[gS] using h1)
   have hm:(gS b s.p).many=7*(j+1):=hm
   have hb:(gS b s.p).bits<128 ^ (j+1):=hb
   simp only[CK,xL,if_neg h1,true_and]
   rw[hm,Ie hj hb]
   have d:decide (0≤vj.wrap (64-((7*(j+1):Nat):Int)))=true:=decide_eq_true (by rw[aX (by omega) (by omega)];omega)
   rw[d]
   exact⟨rfl,rfl⟩
end Go.Proofs.YtddfgnmjecogdaaDoor.N
end
