import Derived.Test.YtddfgnmjecogdaaDoorMI
open Nat renaming pow_le_pow_right→TO,mul_le_mul_left→TP,min_eq_left→rb,beq→a6
open Go.Value renaming int→vz
open Go.IntKind renaming i64→tl,u64→TQ,u8→TH,u32→Tp,i32→TI
open Go.Proofs.Tryd renaming prog→ae
open Go.Fn renaming func→TB
open BitVec renaming ofInt→df,toNat_ofInt→TL
open Min renaming min→TC
open List renaming getD_eq_getElem?_getD→dd,getElem?_eq_getElem→da,getElem_mem→fg
open Int renaming toNat_natCast→TE
open Bool renaming false_eq_true→pC,true_eq_false→TJ,and_eq_true→di,and_true→TR,not_false→qf,not_true→Pl
noncomputable section
section
set_option linter.unusedSimpArgs false
set_option linter.unusedVariables false
namespace Go.Proofs.YtddfgnmjecogdaaDoor.N
open Go Go.Am
def Qr (k:Nat) (B:List PV) (at_ i acc:Nat) (c gp:Int):FuncId→Nat→Nat→Option (AV→AV):=eP [(78,9,5,sI .u8 c),(78,12,7,sI .u64 gp),(78,15,0,sI .i64 ((i+1:Nat):Int)),(78,7,2,sI .i64 ((at_+i:Nat):Int)),(78,9,3,sI .i64 ((at_+i:Nat):Int)),(78,11,2,sI .i64 ((at_+i:Nat):Int)),(78,14,7,sI .i64 ((at_+i+1:Nat):Int)),(78,14,3,sI .i64 ((7*(i+1):Nat):Int))]
def N8 (k:Nat) (B:List PV) (at_ bits many next e fa:Int) (f:FuncId) (_:List AV) (m:Mem):Option (AV×Mem):=cond (a6 f 78) (some (.bn [sI .u64 bits,sI .i64 many,sI .i64 next,.agg [sI .i64 e,sI .i64 fa]],[])) none
def M6:hJ:=gk eK cK [(78,1)] [(78,2,3),(78,0,0)] []
def Po:Sc:=(.fork (.lit .fin) .fin)
def vO:aP:=
 (.out (Out.ret (AV.bn [AV.p (PV.sc (vz TQ 0)),AV.p (PV.sc (vz tl 0)),AV.p (PV.sc (vz tl 0)),AV.agg [AV.p (PV.sc (vz tl 5)),AV.p (PV.sc (vz tl 0))]]) []))
def Gi (k:Nat) (B:List PV) (at_:Int):aP:=
 (.test (decide (at_<0))
  (vO)
  (.test (decide (at_>(↑k:Int)))
   (vO)
   (.at (aj ae env 78 1 [AV.p (PV.ps k 1 B),AV.p (PV.sc (vz tl at_)),AV.fn (TB 79) [] [],AV.p (PV.sc (vz TQ 0)),AV.mp 0 0,AV.p (PV.sc (vz tl 0))] ([aF.pc [PV.sc (vz tl 0),PV.sc (vz tl 0)]]) 0 79))))
theorem Io (k:Nat) (B:List PV) (at_:Int):dJ ae env M6 1000000 78 ([AV.p (PV.ps k 1 B),sI tl at_,AV.fn (TB 79) [] []]) ([]) Po=Gi k B at_:=by kernel_rfl
def KR:hJ:=gk eK cK [(78,1)] [(78,2,3),(78,0,0)] []
def M7:Sc:=(.fork (.lit .fin) .fin)
def rm:aP:=
 (.out (Out.ret (AV.bn [AV.p (PV.sc (vz TQ 0)),AV.p (PV.sc (vz tl 0)),AV.p (PV.sc (vz tl 0)),AV.agg [AV.p (PV.sc (vz tl 5)),AV.p (PV.sc (vz tl 0))]]) []))
def Df (k:Nat) (B:List PV) (at_:Int):aP:=
 (.test (decide (at_<0))
  (rm)
  (.test (decide (at_>(↑k:Int)))
   (rm)
   (.at (aj ae env 78 1 [AV.p (PV.ps k 1 B),AV.p (PV.sc (vz tl at_)),AV.fn (TB 83) [] [],AV.p (PV.sc (vz TQ 0)),AV.mp 0 0,AV.p (PV.sc (vz tl 0))] ([aF.pc [PV.sc (vz tl 0),PV.sc (vz tl 0)]]) 0 79))))
theorem Gj (k:Nat) (B:List PV) (at_:Int):dJ ae env KR 1000000 78 ([AV.p (PV.ps k 1 B),sI tl at_,AV.fn (TB 83) [] []]) ([]) M7=Df k B at_:=by kernel_rfl
def M8 (k:Nat) (B:List PV) (at_:Nat) (i:Nat) (acc:Nat) (c:Int) (gp:Int):hJ:=qa eK cK [(78,1)] [(78,0,2),(78,0,3),(78,10,3),(78,10,6),(78,0,4),(78,0,5)] [(78,9,4),(78,9,5),(78,12,6)] (Qr k B at_ i acc c gp)
def Pp:Sc:=(.fork (.fork .fin (.fork (.fork (.lit .fin) (.fork .fin (.yes .fin))) (.lit .fin))) .fin)
def gG (at_:Nat) (i:Nat) (gp:Int):aP:=
 (.need (AV.p (PV.sc (vz tl (tl.wrap (7*tl.wrap ((↑i:Int)+1)))))=sI tl (↑(7*(i+1)):Int)) (.need (AV.p (PV.sc (vz tl (tl.wrap (tl.wrap ((↑at_:Int)+(↑i:Int))+1))))=sI tl (↑(at_+i+1):Int)) (.out (Out.ret (AV.bn [AV.p (PV.sc (vz TQ gp)),AV.p (PV.sc (vz tl (↑(7*(i+1)):Int))),AV.p (PV.sc (vz tl (↑(at_+i+1):Int))),AV.agg [AV.p (PV.sc (vz tl 0)),AV.p (PV.sc (vz tl 0))]]) []))))
def gH (at_:Nat) (i:Nat):aP:=
 (.need (AV.p (PV.sc (vz tl (tl.wrap ((↑at_:Int)+(↑i:Int)))))=sI tl (↑(at_+i):Int)) (.out (Out.ret (AV.bn [AV.p (PV.sc (vz TQ 0)),AV.p (PV.sc (vz tl 0)),AV.p (PV.sc (vz tl 0)),AV.agg [AV.p (PV.sc (vz tl 4)),AV.p (PV.sc (vz tl (↑(at_+i):Int)))]]) [])))
def m5 (k:Nat) (B:List PV) (at_:Nat) (i:Nat) (acc:Nat) (c:Int) (gp:Int):aP:=
 (.test (decide ((↑i:Int)<5))
  (.need (AV.p (PV.sc (vz tl (tl.wrap ((↑at_:Int)+(↑i:Int)))))=sI tl (↑(at_+i):Int))
   (.test (decide ((↑(at_+i):Int)≥(↑k:Int)))
    (.out (Out.ret (AV.bn [AV.p (PV.sc (vz TQ 0)),AV.p (PV.sc (vz tl 0)),AV.p (PV.sc (vz tl 0)),AV.agg [AV.p (PV.sc (vz tl 4)),AV.p (PV.sc (vz tl (↑k:Int)))]]) []))
    (.need (AV.p (PV.sc (vz tl (tl.wrap ((↑at_:Int)+(↑i:Int)))))=sI tl (↑(at_+i):Int))
     (.must (fG (↑(at_+i):Int) k&&true&&true)
      (.must (isInt TH (cq B ((↑(at_+i):Int).toNat*1))&&true)
       (.need (AV.p (PV.sc (vz TH (bp (cq B ((↑(at_+i):Int).toNat*1)))))=sI TH c)
        (.test ((↑i:Int)==4)
         (.test (decide (c≥128))
          (gH at_ i)
          (.test (!decide (c≤15))
           (gH at_ i)
           (.must (decide (0≤tl.wrap (7*(↑i:Int)))&&true)
            (.need (AV.p (PV.sc (vz TQ (TQ.wrap (↑(df 64 (↑acc:Int)|||df 64 (TQ.wrap (TQ.wrap (TH.wrap (↑(df 8 c&&&df 8 127).toNat:Int))*2 ^ TC (tl.wrap (7*(↑i:Int))).toNat 64))).toNat:Int))))=sI TQ gp)
             (.must (decide (c<128))
              (gG at_ i gp))))))
         (.must (decide (0≤tl.wrap (7*(↑i:Int)))&&true)
          (.need (AV.p (PV.sc (vz TQ (TQ.wrap (↑(df 64 (↑acc:Int)|||df 64 (TQ.wrap (TQ.wrap (TH.wrap (↑(df 8 c&&&df 8 127).toNat:Int))*2 ^ TC (tl.wrap (7*(↑i:Int))).toNat 64))).toNat:Int))))=sI TQ gp)
           (.test (decide (c<128))
            (gG at_ i gp)
            (.need (AV.p (PV.sc (vz tl (tl.wrap ((↑i:Int)+1))))=sI tl (↑(i+1):Int))
             (.at (aj ae env 78 1 [AV.p (PV.ps k 1 B),AV.p (PV.sc (vz tl (↑at_:Int))),AV.fn (TB 79) [] [],AV.p (PV.sc (vz TQ gp)),AV.mp 0 0,AV.p (PV.sc (vz tl (↑(i+1):Int)))] ([aF.pc [PV.sc (vz tl 0),PV.sc (vz tl 0)]]) 0 79)))))))))))))
  (.out (Out.ret (AV.bn [AV.p (PV.sc (vz TQ 0)),AV.p (PV.sc (vz tl 0)),AV.p (PV.sc (vz tl 0)),AV.agg [AV.p (PV.sc (vz tl 4)),AV.p (PV.sc (vz tl (tl.wrap (tl.wrap ((↑at_:Int)+5)-1))))]]) [])))
theorem zw (k:Nat) (B:List PV) (at_:Nat) (i:Nat) (acc:Nat) (c:Int) (gp:Int):grow ae env (M8 k B at_ i acc c gp) 1000000 true (aj ae env 78 1 ([AV.p (PV.ps k 1 B),sI tl (↑at_:Int),AV.fn (TB 79) [] [],sI TQ (↑acc:Int),AV.mp 0 0,sI tl (↑i:Int)]) ([aF.pc [PV.sc (vz tl 0),PV.sc (vz tl 0)]]) 0 79) Pp atEnd=m5 k B at_ i acc c gp:=by kernel_rfl
def KS (k:Nat) (B:List PV) (at_:Nat) (i:Nat) (acc:Nat) (c:Int) (gp:Int):hJ:=qa eK cK [(78,1)] [(78,0,2),(78,0,3),(78,10,3),(78,10,6),(83,2,3),(78,0,5),(78,0,4)] [(78,9,4),(78,9,5),(78,12,6)] (Qr k B at_ i acc c gp)
def M9:Sc:=(.fork (.fork .fin (.fork (.fork (.lit .fin) (.fork (.lit (.yes .fin)) (.fork .fin (.yes .fin)))) (.lit .fin))) .fin)
def eH (at_:Nat) (i:Nat) (gp:Int):aP:=
 (.need (AV.p (PV.sc (vz tl (tl.wrap (7*tl.wrap ((↑i:Int)+1)))))=sI tl (↑(7*(i+1)):Int)) (.need (AV.p (PV.sc (vz tl (tl.wrap (tl.wrap ((↑at_:Int)+(↑i:Int))+1))))=sI tl (↑(at_+i+1):Int)) (.out (Out.ret (AV.bn [AV.p (PV.sc (vz TQ gp)),AV.p (PV.sc (vz tl (↑(7*(i+1)):Int))),AV.p (PV.sc (vz tl (↑(at_+i+1):Int))),AV.agg [AV.p (PV.sc (vz tl 0)),AV.p (PV.sc (vz tl 0))]]) []))))
def eI (at_:Nat) (i:Nat) (acc:Nat) (c:Int) (gp:Int):aP:=
 (.must (decide (0≤tl.wrap (7*(↑i:Int)))&&true) (.need (AV.p (PV.sc (vz TQ (TQ.wrap (↑(df 64 (↑acc:Int)|||df 64 (TQ.wrap (TQ.wrap (TH.wrap (↑(df 8 c&&&df 8 127).toNat:Int))*2 ^ TC (tl.wrap (7*(↑i:Int))).toNat 64))).toNat:Int))))=sI TQ gp) (.must (decide (c<128)) (eH at_ i gp))))
def eJ (at_:Nat) (i:Nat):aP:=
 (.need (AV.p (PV.sc (vz tl (tl.wrap ((↑at_:Int)+(↑i:Int)))))=sI tl (↑(at_+i):Int)) (.out (Out.ret (AV.bn [AV.p (PV.sc (vz TQ 0)),AV.p (PV.sc (vz tl 0)),AV.p (PV.sc (vz tl 0)),AV.agg [AV.p (PV.sc (vz tl 4)),AV.p (PV.sc (vz tl (↑(at_+i):Int)))]]) [])))
def iU (k:Nat) (B:List PV) (at_:Nat) (i:Nat) (acc:Nat) (c:Int) (gp:Int):aP:=
 (.test (decide ((↑i:Int)<5))
  (.need (AV.p (PV.sc (vz tl (tl.wrap ((↑at_:Int)+(↑i:Int)))))=sI tl (↑(at_+i):Int))
   (.test (decide ((↑(at_+i):Int)≥(↑k:Int)))
    (.out (Out.ret (AV.bn [AV.p (PV.sc (vz TQ 0)),AV.p (PV.sc (vz tl 0)),AV.p (PV.sc (vz tl 0)),AV.agg [AV.p (PV.sc (vz tl 4)),AV.p (PV.sc (vz tl (↑k:Int)))]]) []))
    (.need (AV.p (PV.sc (vz tl (tl.wrap ((↑at_:Int)+(↑i:Int)))))=sI tl (↑(at_+i):Int))
     (.must (fG (↑(at_+i):Int) k&&true&&true)
      (.must (isInt TH (cq B ((↑(at_+i):Int).toNat*1))&&true)
       (.need (AV.p (PV.sc (vz TH (bp (cq B ((↑(at_+i):Int).toNat*1)))))=sI TH c)
        (.test ((↑i:Int)==4)
         (.test (decide (c≥128))
          (eJ at_ i)
          (.test (decide (c≤7))
           (eI at_ i acc c gp)
           (.test (!decide (c≥120))
            (eJ at_ i)
            (eI at_ i acc c gp))))
         (.must (decide (0≤tl.wrap (7*(↑i:Int)))&&true)
          (.need (AV.p (PV.sc (vz TQ (TQ.wrap (↑(df 64 (↑acc:Int)|||df 64 (TQ.wrap (TQ.wrap (TH.wrap (↑(df 8 c&&&df 8 127).toNat:Int))*2 ^ TC (tl.wrap (7*(↑i:Int))).toNat 64))).toNat:Int))))=sI TQ gp)
           (.test (decide (c<128))
            (eH at_ i gp)
            (.need (AV.p (PV.sc (vz tl (tl.wrap ((↑i:Int)+1))))=sI tl (↑(i+1):Int))
             (.at (aj ae env 78 1 [AV.p (PV.ps k 1 B),AV.p (PV.sc (vz tl (↑at_:Int))),AV.fn (TB 83) [] [],AV.p (PV.sc (vz TQ gp)),AV.mp 0 0,AV.p (PV.sc (vz tl (↑(i+1):Int)))] ([aF.pc [PV.sc (vz tl 0),PV.sc (vz tl 0)]]) 0 79)))))))))))))
  (.out (Out.ret (AV.bn [AV.p (PV.sc (vz TQ 0)),AV.p (PV.sc (vz tl 0)),AV.p (PV.sc (vz tl 0)),AV.agg [AV.p (PV.sc (vz tl 4)),AV.p (PV.sc (vz tl (tl.wrap (tl.wrap ((↑at_:Int)+5)-1))))]]) [])))
theorem vP (k:Nat) (B:List PV) (at_:Nat) (i:Nat) (acc:Nat) (c:Int) (gp:Int):grow ae env (KS k B at_ i acc c gp) 1000000 true (aj ae env 78 1 ([AV.p (PV.ps k 1 B),sI tl (↑at_:Int),AV.fn (TB 83) [] [],sI TQ (↑acc:Int),AV.mp 0 0,sI tl (↑i:Int)]) ([aF.pc [PV.sc (vz tl 0),PV.sc (vz tl 0)]]) 0 79) M9 atEnd=iU k B at_ i acc c gp:=by kernel_rfl
def Na (k:Nat) (B:List PV) (at_:Int) (bits:Int) (many:Int) (next:Int) (e:Int) (fa:Int):hJ:=gk (N8 k B at_ bits many next e fa) (N8 k B at_ bits many next e fa) [] [] []
def Pq:Sc:= .fin
def Gk (k:Nat) (B:List PV) (at_:Int) (bits:Int) (many:Int) (next:Int) (e:Int) (fa:Int):aP:=
 (.call ⟨78,[AV.p (PV.ps k 1 B),AV.p (PV.sc (vz tl at_)),AV.fn (TB 79) [] []],[],AV.bn [AV.p (PV.sc (vz TQ bits)),AV.p (PV.sc (vz tl many)),AV.p (PV.sc (vz tl next)),AV.agg [AV.p (PV.sc (vz tl e)),AV.p (PV.sc (vz tl fa))]],[]⟩
  (.out (Out.ret (AV.bn [AV.p (PV.sc (vz Tp (Tp.wrap bits))),AV.p (PV.sc (vz tl next)),AV.agg [AV.p (PV.sc (vz tl e)),AV.p (PV.sc (vz tl fa))]]) [])))
theorem Ip (k:Nat) (B:List PV) (at_:Int) (bits:Int) (many:Int) (next:Int) (e:Int) (fa:Int):dJ ae env (Na k B at_ bits many next e fa) 1000000 61 ([AV.p (PV.ps k 1 B),sI tl at_]) ([]) Pq=Gk k B at_ bits many next e fa:=by kernel_rfl
def Nb (k:Nat) (B:List PV) (at_:Int) (bits:Int) (many:Int) (next:Int) (e:Int) (fa:Int):hJ:=gk (N8 k B at_ bits many next e fa) (N8 k B at_ bits many next e fa) [] [(64,0,0)] [(64,0,1)]
def Pr:Sc:= .fin
def Gl (k:Nat) (B:List PV) (at_:Int) (bits:Int) (many:Int) (next:Int) (e:Int) (fa:Int):aP:=
 (.call ⟨78,[AV.p (PV.ps k 1 B),AV.p (PV.sc (vz tl at_)),AV.fn (TB 83) [] []],[],AV.bn [AV.p (PV.sc (vz TQ bits)),AV.p (PV.sc (vz tl many)),AV.p (PV.sc (vz tl next)),AV.agg [AV.p (PV.sc (vz tl e)),AV.p (PV.sc (vz tl fa))]],[]⟩
  (.test (e != 0)
   (.must true
    (.must true
     (.out (Out.ret (AV.bn [AV.p (PV.sc (vz TI 0)),AV.p (PV.sc (vz tl 0)),AV.agg [AV.p (PV.sc (vz tl e)),AV.p (PV.sc (vz tl fa))]]) []))))
   (.must (decide (0≤tl.wrap (64-many))&&true&&(decide (0≤tl.wrap (64-many))&&true&&true)&&true)
    (.must true
     (.out (Out.ret (AV.bn [AV.p (PV.sc (vz TI (TI.wrap ((tl.wrap (TQ.wrap (bits*2 ^ TC (tl.wrap (64-many)).toNat 64))).fdiv (2 ^ TC (tl.wrap (64-many)).toNat 64))))),AV.p (PV.sc (vz tl next)),AV.agg [AV.p (PV.sc (vz tl e)),AV.p (PV.sc (vz tl fa))]]) []))))))
theorem Iq (k:Nat) (B:List PV) (at_:Int) (bits:Int) (many:Int) (next:Int) (e:Int) (fa:Int):dJ ae env (Nb k B at_ bits many next e fa) 1000000 64 ([AV.p (PV.ps k 1 B),sI tl at_]) ([]) Pr=Gl k B at_ bits many next e fa:=by kernel_rfl
inductive GR where
 |ok (bits many next:Nat)
 |eR (e fa:Nat)
def GR.bits:GR→Nat | .ok b _ _=>b | .eR .. =>0
def GR.many:GR→Nat | .ok _ m _=>m | .eR .. =>0
def GR.next:GR→Nat | .ok _ _ n=>n | .eR .. =>0
def GR.e:GR→Nat | .ok .. =>0 | .eR e _=>e
def GR.fa:GR→Nat | .ok .. =>0 | .eR _ f=>f
def GR.av (r:GR):AV:= .bn [sI .u64 r.bits,sI .i64 r.many,sI .i64 r.next,.agg [sI .i64 r.e,sI .i64 r.fa]]
def gN (last:Nat→Bool) (b:List Nat) (p:Nat):Nat→Nat→Nat→GR
 |0,_,_=> .eR 4 (p+4)
 |f+1,i,acc=>
  if b.length≤p+i then .eR 4 b.length
  else if i=4∧(128≤b.getD (p+i) 0∨last (b.getD (p+i) 0)=false) then .eR 4 (p+i)
  else if b.getD (p+i) 0<128 then .ok (acc+b.getD (p+i) 0%128*128 ^ i) (7*(i+1)) (p+i+1)
  else gN last b p f (i+1) (acc+b.getD (p+i) 0%128*128 ^ i)
def fX (c:Nat):Bool:=decide (c≤15)
def iQ (c:Nat):Bool:=decide (c≤7)||decide (120≤c)
theorem Gm {b:List Nat} {n:Nat} (h:n<b.length):(bt b).getD (n*1) .eR = .sc (.int .u8 ((b.getD n 0:Nat):Int)):=by
 simp[bt,dd,h]
theorem Gn {n:Int} (h0:0≤n) (h1:n<18446744073709551616):TQ.wrap n=n:=by rw[ML];omega
theorem Ir : ∀c:Nat,c<256→(df 8 (c:Int)&&&df 8 127).toNat=c%128:=by decide +kernel
theorem Is {acc m k:Nat} (h:acc<2 ^ k) (hk:k≤28) (hm:m<128):(df 64 (acc:Int)|||df 64 ((m*2 ^ k:Nat):Int)).toNat=acc+m*2 ^ k:=by
 have hp:(2:Nat) ^ k≤2 ^ 28:=TO (by decide) hk
 have RC:(2:Nat) ^ 28=268435456:=by decide
 have hmk:m*2 ^ k<128*268435456:=by
  have h1:m*2 ^ k≤m*268435456:=TP _ (by omega)
  omega
 rw[BitVec.toNat_or,TL,TL]
 have a1:((acc:Int)%((2 ^ 64:Nat):Int)).toNat=acc:=by omega
 have a2:(((m*2 ^ k:Nat):Int)%((2 ^ 64:Nat):Int)).toNat=m*2 ^ k:=by omega
 rw[a1,a2,Nat.or_comm,Nat.mul_comm m,←Nat.two_pow_add_eq_or_of_lt h]
 omega
theorem Bf {acc i c:Nat} (hi:i<5) (ha:acc<128 ^ i) (hc:c<256) :
  TQ.wrap (↑(df 64 (acc:Int)|||df 64 (TQ.wrap (TQ.wrap (TH.wrap (↑(df 8 (c:Int)&&&df 8 127).toNat:Int))*2 ^ TC (tl.wrap (7*(i:Int))).toNat 64))).toNat:Int)=((acc+c%128*128 ^ i:Nat):Int):=by
 have hw:tl.wrap (7*(i:Int))=((7*i:Nat):Int):=by rw[aY (by omega) (by omega)];omega
 have hp:(128:Nat) ^ i=2 ^ (7*i):=by rw[Nat.pow_mul]
 have hk:(2:Nat) ^ (7*i)≤2 ^ 28:=TO (by decide) (by omega)
 have RC:(2:Nat) ^ 28=268435456:=by decide
 have hm:c%128<128:=by omega
 have hmk:c%128*2 ^ (7*i)<128*268435456:=by
  have h1:c%128*2 ^ (7*i)≤c%128*268435456:=TP _ (by omega)
  omega
 rw[Ir c hc,hw,TE,rb (by omega),Cn (by omega) (by omega),Gn (n:=((c%128:Nat):Int)) (by omega) (by omega)]
 have e1:((c%128:Nat):Int)*2 ^ (7*i)=((c%128*2 ^ (7*i):Nat):Int):=by rw[Int.natCast_mul,Int.natCast_pow];rfl
 rw[e1,Gn (n:=((c%128*2 ^ (7*i):Nat):Int)) (by omega) (by omega),Is (by rw[←hp];exact ha) (by omega) hm,hp,Gn (by omega) (by rw[hp] at ha;omega)]
theorem zx {acc i c:Nat} (ha:acc<128 ^ i):acc+c%128*128 ^ i<128 ^ (i+1):=by
 rw[Nat.pow_succ]
 have hm:c%128≤127:=by omega
 have h1:c%128*128 ^ i≤127*128 ^ i:=Nat.mul_le_mul_right _ hm
 omega
section
variable {b:List Nat} (hb : ∀x∈b,x<256) (hl:b.length≤1000000000) {p:Nat} (hp:p≤b.length)
include hb hl hp
theorem KT : ∀(f i acc:Nat),i+f=5→acc<128 ^ i →
  dN ae env (aj ae env 78 1 [.p (.ps b.length 1 (bt b)),sI .i64 p,.fn (.func 79) [] [],sI .u64 acc,.mp 0 0,sI .i64 i] [.pc [.sc (.int .i64 0),.sc (.int .i64 0)]] 0 79) (.ret (gN fX b p f i acc).av []):=by
 intro f
 induction f with
 |zero=>
  intro i acc hi ha
  obtain rfl:i=5:=by omega
  refine aD dy (zw b.length (bt b) p 5 acc 0 0) ?_
  simp(disch:=omega) only[m5,gG,gH,cJ,aP.ok,aY,show decide (((5:Nat):Int)<5)=false from rfl,pC,false_implies,true_implies,true_and,gN,GR.av,GR.bits,GR.many,GR.next,GR.e,GR.fa]
  have:(p:Int)+5-1=((p+4:Nat):Int):=by omega
  rw[this];rfl
 |succ f ih=>
  intro i acc hi ha
  have Pu:i<5:=by omega
  have d5:decide ((i:Int)<5)=true:=decide_eq_true (by omega)
  have w1:tl.wrap ((p:Int)+(i:Int))=((p+i:Nat):Int):=by rw[aY (by omega) (by omega)];omega
  have w2:tl.wrap ((i:Int)+1)=((i+1:Nat):Int):=by rw[aY (by omega) (by omega)];rfl
  have w3:tl.wrap (7*((i+1:Nat):Int))=((7*(i+1):Nat):Int):=by rw[aY (by omega) (by omega)];omega
  have w4:tl.wrap (((p+i:Nat):Int)+1)=((p+i+1:Nat):Int):=by rw[aY (by omega) (by omega)];rfl
  have w5:decide (0≤tl.wrap (7*(i:Int)))=true:=decide_eq_true (by rw[aY (by omega) (by omega)];omega)
  by_cases h1:b.length≤p+i
  · have e:gN fX b p (f+1) i acc = .eR 4 b.length:=by rw[gN,if_pos h1]
    have d1:decide (((p+i:Nat):Int)≥(b.length:Int))=true:=decide_eq_true (by omega)
    refine aD dy (zw b.length (bt b) p i acc 0 0) ?_
    rw[e]
    simp only[m5,gG,gH,cJ,aP.ok,d5,w1,d1,TJ,false_implies,true_implies,and_true,true_and]
    exact rfl
  · have hlt:p+i<b.length:=by omega
    have hc:b.getD (p+i) 0<256:=by
     rw[dd,da hlt];exact hb _ (fg hlt)
    have cell:=Gm hlt
    have hin:fG ((p+i:Nat):Int) b.length=true:=by simp only[fG,di,decide_eq_true_eq];omega
    have d1:decide (((p+i:Nat):Int)≥(b.length:Int))=false:=decide_eq_false (by omega)
    have Bg:=Bf (c:=b.getD (p+i) 0) Pu ha hc
    have hacc:=zx (c:=b.getD (p+i) 0) ha
    have t:=zw b.length (bt b) p i acc (b.getD (p+i) 0:Nat) ((acc+b.getD (p+i) 0%128*128 ^ i:Nat):Int)
    have e:gN fX b p (f+1) i acc=if i=4∧(128≤b.getD (p+i) 0∨fX (b.getD (p+i) 0)=false) then .eR 4 (p+i) else if b.getD (p+i) 0<128 then .ok (acc+b.getD (p+i) 0%128*128 ^ i) (7*(i+1)) (p+i+1) else gN fX b p f (i+1) (acc+b.getD (p+i) 0%128*128 ^ i):=by rw[gN,if_neg h1]
    generalize b.getD (p+i) 0=c at *
    refine aD dy t ?_
    rw[e]
    by_cases h4:i=4
    · have d4:((i:Int)==4)=true:=by rw[h4];rfl
      by_cases h6:128≤c
      · have d6:decide ((c:Int)≥128)=true:=decide_eq_true (by omega)
        rw[if_pos ⟨h4,.inl h6⟩]
        simp only[m5,gG,gH,cJ,aP.ok,d5,w1,d1,d4,d6,hin,TE,cell,isInt,bp,beq_self_eq_true,TR,di,TJ,pC,false_implies,true_implies,and_true,true_and]
        exact rfl
      · have d6:decide ((c:Int)≥128)=false:=decide_eq_false (by omega)
        by_cases h7:c≤15
        · have d7:decide ((c:Int)≤15)=true:=decide_eq_true (by omega)
          have d8:decide ((c:Int)<128)=true:=decide_eq_true (by omega)
          rw[if_neg (by simp[fX,h7];omega),if_pos (by omega)]
          simp only[m5,gG,gH,cJ,aP.ok,d5,w1,w2,w3,w4,w5,d1,d4,d6,d7,d8,hin,Bg,TE,cell,isInt,bp,beq_self_eq_true,Pl,TR,di,TJ,pC,false_implies,true_implies,and_true,true_and]
          exact rfl
        · have d7:decide ((c:Int)≤15)=false:=decide_eq_false (by omega)
          rw[if_pos ⟨h4,.inr (by simp[fX];omega)⟩]
          simp only[m5,gG,gH,cJ,aP.ok,d5,w1,d1,d4,d6,d7,hin,TE,cell,isInt,bp,beq_self_eq_true,qf,TR,di,TJ,pC,false_implies,true_implies,and_true,true_and]
          exact rfl
    · have d4:((i:Int)==4)=false:=by
       cases h:((i:Int)==4) with
       |false=>rfl
       |true=>have:=eq_of_beq h;omega
      rw[if_neg (by omega)]
      by_cases h8:c<128
      · have d8:decide ((c:Int)<128)=true:=decide_eq_true (by omega)
        rw[if_pos h8]
        simp only[m5,gG,gH,cJ,aP.ok,d5,w1,w2,w3,w4,w5,d1,d4,d8,hin,Bg,TE,cell,isInt,bp,beq_self_eq_true,TR,di,TJ,pC,false_implies,true_implies,and_true,true_and]
        exact rfl
      · have d8:decide ((c:Int)<128)=false:=decide_eq_false (by omega)
        rw[if_neg h8]
        simp only[m5,gG,gH,cJ,aP.ok,d5,w1,w2,w3,w4,w5,d1,d4,d8,hin,Bg,TE,cell,isInt,bp,beq_self_eq_true,TR,di,TJ,pC,false_implies,true_implies,and_true,true_and]
        exact ih (i+1) _ (by omega) hacc
theorem Iu : ∀(f i acc:Nat),i+f=5→acc<128 ^ i →
  dN ae env (aj ae env 78 1 [.p (.ps b.length 1 (bt b)),sI .i64 p,.fn (.func 83) [] [],sI .u64 acc,.mp 0 0,sI .i64 i] [.pc [.sc (.int .i64 0),.sc (.int .i64 0)]] 0 79) (.ret (gN iQ b p f i acc).av []):=by
 intro f
 induction f with
 |zero=>
  intro i acc hi ha
  obtain rfl:i=5:=by omega
  refine aD dy (vP b.length (bt b) p 5 acc 0 0) ?_
  simp(disch:=omega) only[iU,eH,eI,eJ,cJ,aP.ok,aY,show decide (((5:Nat):Int)<5)=false from rfl,pC,false_implies,true_implies,true_and,gN,GR.av,GR.bits,GR.many,GR.next,GR.e,GR.fa]
  have:(p:Int)+5-1=((p+4:Nat):Int):=by omega
  rw[this];rfl
 |succ f ih=>
  intro i acc hi ha
  have Pu:i<5:=by omega
  have d5:decide ((i:Int)<5)=true:=decide_eq_true (by omega)
  have w1:tl.wrap ((p:Int)+(i:Int))=((p+i:Nat):Int):=by rw[aY (by omega) (by omega)];omega
  have w2:tl.wrap ((i:Int)+1)=((i+1:Nat):Int):=by rw[aY (by omega) (by omega)];rfl
  have w3:tl.wrap (7*((i+1:Nat):Int))=((7*(i+1):Nat):Int):=by rw[aY (by omega) (by omega)];omega
  have w4:tl.wrap (((p+i:Nat):Int)+1)=((p+i+1:Nat):Int):=by rw[aY (by omega) (by omega)];rfl
  have w5:decide (0≤tl.wrap (7*(i:Int)))=true:=decide_eq_true (by rw[aY (by omega) (by omega)];omega)
  by_cases h1:b.length≤p+i
  · have e:gN iQ b p (f+1) i acc = .eR 4 b.length:=by rw[gN,if_pos h1]
    have d1:decide (((p+i:Nat):Int)≥(b.length:Int))=true:=decide_eq_true (by omega)
    refine aD dy (vP b.length (bt b) p i acc 0 0) ?_
    rw[e]
    simp only[iU,eH,eI,eJ,cJ,aP.ok,d5,w1,d1,TJ,false_implies,true_implies,and_true,true_and]
    exact rfl
  · have hlt:p+i<b.length:=by omega
    have hc:b.getD (p+i) 0<256:=by
     rw[dd,da hlt];exact hb _ (fg hlt)
    have cell:=Gm hlt
    have hin:fG ((p+i:Nat):Int) b.length=true:=by simp only[fG,di,decide_eq_true_eq];omega
    have d1:decide (((p+i:Nat):Int)≥(b.length:Int))=false:=decide_eq_false (by omega)
    have Bg:=Bf (c:=b.getD (p+i) 0) Pu ha hc
    have hacc:=zx (c:=b.getD (p+i) 0) ha
    have t:=vP b.length (bt b) p i acc (b.getD (p+i) 0:Nat) ((acc+b.getD (p+i) 0%128*128 ^ i:Nat):Int)
    have e:gN iQ b p (f+1) i acc=if i=4∧(128≤b.getD (p+i) 0∨iQ (b.getD (p+i) 0)=false) then .eR 4 (p+i) else if b.getD (p+i) 0<128 then .ok (acc+b.getD (p+i) 0%128*128 ^ i) (7*(i+1)) (p+i+1) else gN iQ b p f (i+1) (acc+b.getD (p+i) 0%128*128 ^ i):=by rw[gN,if_neg h1]
    generalize b.getD (p+i) 0=c at *
    refine aD dy t ?_
    rw[e]
    by_cases h4:i=4
    · have d4:((i:Int)==4)=true:=by rw[h4];rfl
      by_cases h6:128≤c
      · have d6:decide ((c:Int)≥128)=true:=decide_eq_true (by omega)
        rw[if_pos ⟨h4,.inl h6⟩]
        simp only[iU,eH,eI,eJ,cJ,aP.ok,d5,w1,d1,d4,d6,hin,TE,cell,isInt,bp,beq_self_eq_true,TR,di,TJ,pC,false_implies,true_implies,and_true,true_and]
        exact rfl
      · have d6:decide ((c:Int)≥128)=false:=decide_eq_false (by omega)
        by_cases h7:c≤7
        · have d7:decide ((c:Int)≤7)=true:=decide_eq_true (by omega)
          have d8:decide ((c:Int)<128)=true:=decide_eq_true (by omega)
          rw[if_neg (by simp[iQ,h7];omega),if_pos (by omega)]
          simp only[iU,eH,eI,eJ,cJ,aP.ok,d5,w1,w2,w3,w4,w5,d1,d4,d6,d7,d8,hin,Bg,TE,cell,isInt,bp,beq_self_eq_true,Pl,TR,di,TJ,pC,false_implies,true_implies,and_true,true_and]
          exact rfl
        · have d7:decide ((c:Int)≤7)=false:=decide_eq_false (by omega)
          by_cases h9:120≤c
          · have d9:decide ((c:Int)≥120)=true:=decide_eq_true (by omega)
            have d8:decide ((c:Int)<128)=true:=decide_eq_true (by omega)
            rw[if_neg (by simp[iQ,h9];omega),if_pos (by omega)]
            simp only[iU,eH,eI,eJ,cJ,aP.ok,d5,w1,w2,w3,w4,w5,d1,d4,d6,d7,d8,d9,hin,Bg,TE,cell,isInt,bp,beq_self_eq_true,Pl,qf,TR,di,TJ,pC,false_implies,true_implies,and_true,true_and]
            exact rfl
          · have d9:decide ((c:Int)≥120)=false:=decide_eq_false (by omega)
            rw[if_pos ⟨h4,.inr (by simp[iQ];omega)⟩]
            simp only[iU,eH,eI,eJ,cJ,aP.ok,d5,w1,d1,d4,d6,d7,d9,hin,TE,cell,isInt,bp,beq_self_eq_true,qf,TR,di,TJ,pC,false_implies,true_implies,and_true,true_and]
            exact rfl
    · have d4:((i:Int)==4)=false:=by
       cases h:((i:Int)==4) with
       |false=>rfl
       |true=>have:=eq_of_beq h;omega
      rw[if_neg (by omega)]
      by_cases h8:c<128
      · have d8:decide ((c:Int)<128)=true:=decide_eq_true (by omega)
        rw[if_pos h8]
        simp only[iU,eH,eI,eJ,cJ,aP.ok,d5,w1,w2,w3,w4,w5,d1,d4,d8,hin,Bg,TE,cell,isInt,bp,beq_self_eq_true,TR,di,TJ,pC,false_implies,true_implies,and_true,true_and]
        exact rfl
      · have d8:decide ((c:Int)<128)=false:=decide_eq_false (by omega)
        rw[if_neg h8]
        simp only[iU,eH,eI,eJ,cJ,aP.ok,d5,w1,w2,w3,w4,w5,d1,d4,d8,hin,Bg,TE,cell,isInt,bp,beq_self_eq_true,TR,di,TJ,pC,false_implies,true_implies,and_true,true_and]
        exact ih (i+1) _ (by omega) hacc
def gU (b:List Nat) (p:Nat):GR:=gN fX b p 5 0 0
def gS (b:List Nat) (p:Nat):GR:=gN iQ b p 5 0 0
theorem Gp:aO ae env 78 [.p (.ps b.length 1 (bt b)),sI .i64 p,.fn (.func 79) [] []] [] (gU b p).av []:=by
 have d1:decide ((p:Int)<0)=false:=decide_eq_false (by omega)
 have d2:decide ((p:Int)>(b.length:Int))=false:=decide_eq_false (by omega)
 refine az dy (Io b.length (bt b) p) ?_
 simp only[Gi,vO,aP.ok,d1,d2,pC,false_implies,true_implies,true_and]
 exact KT hb hl hp 5 0 0 rfl (by decide)
theorem Ee:aO ae env 78 [.p (.ps b.length 1 (bt b)),sI .i64 p,.fn (.func 83) [] []] [] (gS b p).av []:=by
 have d1:decide ((p:Int)<0)=false:=decide_eq_false (by omega)
 have d2:decide ((p:Int)>(b.length:Int))=false:=decide_eq_false (by omega)
 refine az dy (Gj b.length (bt b) p) ?_
 simp only[Df,rm,aP.ok,d1,d2,pC,false_implies,true_implies,true_and]
 exact Iu hb hl hp 5 0 0 rfl (by decide)
end
def Qs (k:Nat) (B:List PV) (p e fa:Int) (v next e2 bL:Int) (f:FuncId) (_:List AV) (m:Mem):Option (AV×Mem):=cond (a6 f 61) (some (.bn [sI .u32 v,sI .i64 next,.agg [sI .i64 e2,sI .i64 bL]],m)) (cond (a6 f 64) (some (.bn [sI .i32 v,sI .i64 next,.agg [sI .i64 e2,sI .i64 bL]],m)) none)
def Nc (k:Nat) (B:List PV) (p e fa:Int) (c p2 e2 bL:Int) (f:FuncId) (_:List AV) (m:Mem):Option (AV×Mem):=cond (a6 f 43) (some (sI .u8 c,[.pc [.ps k 1 B,.sc (.int .i64 p2),.sc (.int .i64 e2),.sc (.int .i64 bL)]])) none
def KU:hJ:=gk eK cK [] [(43,0,0),(43,0,1),(38,0,0)] [(43,0,2)]
def Nd:Sc:=(.fork .fin (.fork (.yes .fin) .fin))
def tO (k:Nat) (B:List PV) (p:Int) (e:Int) (fa:Int) (c:Int):aP:=
 (.test (e != 0)
  (.out (Out.ret (AV.p (PV.sc (vz TH 0))) [aF.pc [PV.ps k 1 B,PV.sc (vz tl p),PV.sc (vz tl e),PV.sc (vz tl fa)]]))
  (.test (decide (p≥(↑k:Int)))
   (.must (!e != 0)
    (.must true
     (.out (Out.ret (AV.p (PV.sc (vz TH 0))) [aF.pc [PV.ps k 1 B,PV.sc (vz tl p),PV.sc (vz tl 4),PV.sc (vz tl (↑k:Int))]]))))
   (.must (fG (tl.wrap (tl.wrap (p+1)-1)) k&&true&&(isInt TH (cq B ((tl.wrap (tl.wrap (p+1)-1)).toNat*1))&&true)&&true)
    (.must true
     (.out (Out.ret (AV.p (PV.sc (vz TH (bp (cq B ((tl.wrap (tl.wrap (p+1)-1)).toNat*1)))))) [aF.pc [PV.ps k 1 B,PV.sc (vz tl (tl.wrap (p+1))),PV.sc (vz tl e),PV.sc (vz tl fa)]]))))))
theorem Gq (k:Nat) (B:List PV) (p:Int) (e:Int) (fa:Int) (c:Int):dJ ae env KU 1000000 43 ([AV.mp 0 0]) ([aF.pc [PV.ps k 1 B,PV.sc (vz tl p),PV.sc (vz tl e),PV.sc (vz tl fa)]]) Nd=tO k B p e fa c:=by kernel_rfl
def KV (k:Nat) (B:List PV) (p:Int) (e:Int) (fa:Int) (v:Int) (next:Int) (e2:Int) (bL:Int):hJ:=gk (Qs k B p e fa v next e2 bL) (Qs k B p e fa v next e2 bL) [] [(37,0,0),(37,0,1)] []
def Nf:Sc:= .fin
def tP (k:Nat) (B:List PV) (p:Int) (e:Int) (fa:Int) (v:Int) (next:Int) (e2:Int) (bL:Int):aP:=
 (.test (e != 0)
  (.out (Out.ret (AV.p (PV.sc (vz Tp 0))) [aF.pc [PV.ps k 1 B,PV.sc (vz tl p),PV.sc (vz tl e),PV.sc (vz tl fa)]]))
  (.call ⟨61,[AV.p (PV.ps k 1 B),AV.p (PV.sc (vz tl p))],[],AV.bn [AV.p (PV.sc (vz Tp v)),AV.p (PV.sc (vz tl next)),AV.agg [AV.p (PV.sc (vz tl e2)),AV.p (PV.sc (vz tl bL))]],[]⟩
   (.test (e2 != 0)
    (.out (Out.ret (AV.p (PV.sc (vz Tp 0))) [aF.pc [PV.ps k 1 B,PV.sc (vz tl p),PV.sc (vz tl e2),PV.sc (vz tl bL)]]))
    (.out (Out.ret (AV.p (PV.sc (vz Tp v))) [aF.pc [PV.ps k 1 B,PV.sc (vz tl next),PV.sc (vz tl e),PV.sc (vz tl fa)]])))))
theorem Gr (k:Nat) (B:List PV) (p:Int) (e:Int) (fa:Int) (v:Int) (next:Int) (e2:Int) (bL:Int):dJ ae env (KV k B p e fa v next e2 bL) 1000000 37 ([AV.mp 0 0]) ([aF.pc [PV.ps k 1 B,PV.sc (vz tl p),PV.sc (vz tl e),PV.sc (vz tl fa)]]) Nf=tP k B p e fa v next e2 bL:=by kernel_rfl
def KW (k:Nat) (B:List PV) (p:Int) (e:Int) (fa:Int) (c:Int) (p2:Int) (e2:Int) (bL:Int):hJ:=gk (Nc k B p e fa c p2 e2 bL) cK [] [(39,0,2),(38,0,0)] []
def Ng:Sc:= .fin
def Dg (k:Nat) (B:List PV) (p:Int) (e:Int) (fa:Int) (c:Int) (p2:Int) (e2:Int) (bL:Int):aP:=
 (.call ⟨43,[AV.mp 0 0],[aF.pc [PV.ps k 1 B,PV.sc (vz tl p),PV.sc (vz tl e),PV.sc (vz tl fa)]],AV.p (PV.sc (vz TH c)),[aF.pc [PV.ps k 1 B,PV.sc (vz tl p2),PV.sc (vz tl e2),PV.sc (vz tl bL)]]⟩
  (.test (c==0)
   (.out (Out.ret (AV.p (PV.sc (vz TH c))) [aF.pc [PV.ps k 1 B,PV.sc (vz tl p2),PV.sc (vz tl e2),PV.sc (vz tl bL)]]))
   (.test (!e2 != 0)
    (.out (Out.ret (AV.p (PV.sc (vz TH 0))) [aF.pc [PV.ps k 1 B,PV.sc (vz tl p2),PV.sc (vz tl 140),PV.sc (vz tl (tl.wrap (p2-1)))]]))
    (.out (Out.ret (AV.p (PV.sc (vz TH 0))) [aF.pc [PV.ps k 1 B,PV.sc (vz tl p2),PV.sc (vz tl e2),PV.sc (vz tl bL)]])))))
theorem Gs (k:Nat) (B:List PV) (p:Int) (e:Int) (fa:Int) (c:Int) (p2:Int) (e2:Int) (bL:Int):dJ ae env (KW k B p e fa c p2 e2 bL) 1000000 39 ([AV.mp 0 0,AV.os Option.none 1 1 [PV.sc (vz TH 0)]]) ([aF.pc [PV.ps k 1 B,PV.sc (vz tl p),PV.sc (vz tl e),PV.sc (vz tl fa)]]) Ng=Dg k B p e fa c p2 e2 bL:=by kernel_rfl
def KX (k:Nat) (B:List PV) (p:Int) (e:Int) (fa:Int) (c:Int) (p2:Int) (e2:Int) (bL:Int):hJ:=gk (Nc k B p e fa c p2 e2 bL) cK [] [(39,0,2),(38,0,0)] []
def Nh:Sc:= .fin
def Dh (k:Nat) (B:List PV) (p:Int) (e:Int) (fa:Int) (c:Int) (p2:Int) (e2:Int) (bL:Int):aP:=
 (.call ⟨43,[AV.mp 0 0],[aF.pc [PV.ps k 1 B,PV.sc (vz tl p),PV.sc (vz tl e),PV.sc (vz tl fa)]],AV.p (PV.sc (vz TH c)),[aF.pc [PV.ps k 1 B,PV.sc (vz tl p2),PV.sc (vz tl e2),PV.sc (vz tl bL)]]⟩
  (.test (c==64)
   (.out (Out.ret (AV.p (PV.sc (vz TH c))) [aF.pc [PV.ps k 1 B,PV.sc (vz tl p2),PV.sc (vz tl e2),PV.sc (vz tl bL)]]))
   (.test (c==127)
    (.out (Out.ret (AV.p (PV.sc (vz TH c))) [aF.pc [PV.ps k 1 B,PV.sc (vz tl p2),PV.sc (vz tl e2),PV.sc (vz tl bL)]]))
    (.test (!e2 != 0)
     (.out (Out.ret (AV.p (PV.sc (vz TH 0))) [aF.pc [PV.ps k 1 B,PV.sc (vz tl p2),PV.sc (vz tl 140),PV.sc (vz tl (tl.wrap (p2-1)))]]))
     (.out (Out.ret (AV.p (PV.sc (vz TH 0))) [aF.pc [PV.ps k 1 B,PV.sc (vz tl p2),PV.sc (vz tl e2),PV.sc (vz tl bL)]]))))))
theorem Gt (k:Nat) (B:List PV) (p:Int) (e:Int) (fa:Int) (c:Int) (p2:Int) (e2:Int) (bL:Int):dJ ae env (KX k B p e fa c p2 e2 bL) 1000000 39 ([AV.mp 0 0,AV.os Option.none 2 1 [PV.sc (vz TH 64),PV.sc (vz TH 127)]]) ([aF.pc [PV.ps k 1 B,PV.sc (vz tl p),PV.sc (vz tl e),PV.sc (vz tl fa)]]) Nh=Dh k B p e fa c p2 e2 bL:=by kernel_rfl
structure RS where
 p:Nat
 e:Nat
 fa:Nat
def RS.aN (b:List Nat) (s:RS):aF:= .pc [.ps b.length 1 (bt b),.sc (.int .i64 s.p),.sc (.int .i64 s.e),.sc (.int .i64 s.fa)]
def bk (b:List Nat) (s:RS):Nat×RS:=
 if s.e≠0 then(0,s) else if b.length≤s.p then(0,⟨s.p,4,b.length⟩) else(b.getD s.p 0,⟨s.p+1,s.e,s.fa⟩)
def aQ (b:List Nat) (s:RS):Nat×RS:=
 if s.e≠0 then(0,s) else if(gU b s.p).e≠0 then(0,⟨s.p,(gU b s.p).e,(gU b s.p).fa⟩) else((gU b s.p).bits%4294967296,⟨(gU b s.p).next,s.e,s.fa⟩)
def eU (ok:Nat→Bool) (b:List Nat) (s:RS):Nat×RS:=
 if ok (bk b s).1=true then bk b s else(0,if(bk b s).2.e=0 then⟨(bk b s).2.p,140,(bk b s).2.p-1⟩ else(bk b s).2)
def xY (c:Nat):Bool:=decide (c=0)
def sC (c:Nat):Bool:=decide (c=64)||decide (c=127)
theorem wU {n:Nat}:((n:Int) != 0)=decide (n≠0):=by
 by_cases h:n=0
 · subst h;rfl
 · rw[decide_eq_true h]
   have : ¬(n:Int)=0:=by omega
   simpa using this
structure dX (b:List Nat) (s:RS):Prop where
 iV : ∀x∈b,x<256
 len:b.length≤1000000000
 p:s.p≤b.length
theorem jW {last:Nat→Bool} {b:List Nat} {p:Nat} : ∀(f i acc:Nat),(gN last b p f i acc).e=0→(gN last b p f i acc).next≤b.length∧p+i+1≤(gN last b p f i acc).next
 |0,i,acc,h=>by simp[gN,GR.e] at h
 |f+1,i,acc,h=>by
  unfold gN at h ⊢
  split at h
  · simp[GR.e] at h
  · split at h
    · simp[GR.e] at h
    · split at h
      · rename_i h1 h2 h3
        rw[if_neg h1,if_neg h2,if_pos h3]
        simp only[GR.next]
        omega
      · rename_i h1 h2 h3
        rw[if_neg h1,if_neg h2,if_neg h3]
        have:=jW (p:=p) f (i+1) _ h
        omega
theorem kL {b:List Nat} {s:RS} (h:dX b s):dX b (bk b s).2:=by
 unfold bk
 split
 · exact h
 · split
   · exact⟨h.iV,h.len,h.p⟩
   · exact⟨h.iV,h.len,by show s.p+1≤_;omega⟩
theorem eA {b:List Nat} {s:RS} (h:dX b s):dX b (aQ b s).2:=by
 unfold aQ
 split
 · exact h
 · split
   · exact⟨h.iV,h.len,h.p⟩
   · rename_i h2
     exact⟨h.iV,h.len,(jW 5 0 0 (by simpa[gU] using h2)).1⟩
theorem vQ {ok:Nat→Bool} {b:List Nat} {s:RS} (h:dX b s):dX b (eU ok b s).2:=by
 unfold eU
 split
 · exact kL h
 · dsimp only
   split
   · exact⟨h.iV,h.len,(kL h).p⟩
   · exact kL h
theorem cB {b:List Nat} {s:RS} (h:dX b s):aO ae env 43 [.mp 0 0] [s.aN b] (sI .u8 (bk b s).1) [(bk b s).2.aN b]:=by
 obtain⟨p,e,fa⟩:=s
 have hp:p≤b.length:=h.p
 have hl:=h.len
 refine az dy (Gq b.length (bt b) p e fa 0) ?_
 by_cases he:e=0
 · subst he
   by_cases h1:b.length≤p
   · have d1:decide ((p:Int)≥(b.length:Int))=true:=decide_eq_true (by omega)
     simp only[tO,cJ,aP.ok,d1,wU,TJ,pC,false_implies,true_implies,true_and,and_true,ne_eq,not_true,decide_false,qf]
     simp[bk,RS.aN,h1]
   · have hlt:p<b.length:=by omega
     have d1:decide ((p:Int)≥(b.length:Int))=false:=decide_eq_false (by omega)
     have w1:tl.wrap ((p:Int)+1)=((p+1:Nat):Int):=by rw[aY (by omega) (by omega)];rfl
     have w2:tl.wrap (((p+1:Nat):Int)-1)=(p:Int):=by rw[aY (by omega) (by omega)];omega
     have hin:fG (p:Int) b.length=true:=by simp only[fG,di,decide_eq_true_eq];omega
     have cell:=Gm hlt
     simp only[tO,cJ,aP.ok,d1,w1,w2,hin,TE,cell,isInt,bp,wU,beq_self_eq_true,TR,TJ,pC,false_implies,true_implies,true_and,and_true,ne_eq,not_true,decide_false]
     simp[bk,RS.aN,h1]
 · have de:((e:Int) != 0)=true:=by rw[wU];exact decide_eq_true he
   simp only[tO,cJ,aP.ok,de,TJ,false_implies,true_implies,and_true]
   simp[bk,RS.aN,he]
theorem Ef {b:List Nat} {s:RS} (h:dX b s):aO ae env 61 [.p (.ps b.length 1 (bt b)),sI .i64 s.p] [] (.bn [sI .u32 ((gU b s.p).bits%4294967296:Nat),sI .i64 (gU b s.p).next,.agg [sI .i64 (gU b s.p).e,sI .i64 (gU b s.p).fa]]) []:=by
 refine az dy (Ip b.length (bt b) s.p (gU b s.p).bits (gU b s.p).many (gU b s.p).next (gU b s.p).e (gU b s.p).fa) ?_
 simp only[Gk,aP.ok]
 refine⟨Gp h.iV h.len h.p,?_⟩
 rw[MK]
 rfl
theorem nL {b:List Nat} {s:RS} (h:dX b s):aO ae env 37 [.mp 0 0] [s.aN b] (sI .u32 (aQ b s).1) [(aQ b s).2.aN b]:=by
 have hg:=Ef h
 obtain⟨p,e,fa⟩:=s
 refine az dy (Gr b.length (bt b) p e fa ((gU b p).bits%4294967296:Nat) (gU b p).next (gU b p).e (gU b p).fa) ?_
 by_cases he:e=0
 · subst he
   by_cases h2:(gU b p).e=0
   · simp only[tP,aP.ok,wU,h2,TJ,pC,false_implies,true_implies,true_and,and_true,ne_eq,not_true,decide_false]
     refine⟨by rw[h2] at hg;exact hg,?_⟩
     simp[aQ,RS.aN,h2]
   · have d2:(((gU b p).e:Int) != 0)=true:=by rw[wU];exact decide_eq_true h2
     simp only[tP,aP.ok,wU (n:=0),d2,TJ,pC,false_implies,true_implies,true_and,and_true,ne_eq,not_true,decide_false]
     refine⟨hg,?_⟩
     simp[aQ,RS.aN,h2]
 · have de:((e:Int) != 0)=true:=by rw[wU];exact decide_eq_true he
   simp only[tP,aP.ok,de,TJ,false_implies,true_implies,and_true]
   simp[aQ,RS.aN,he]
theorem xZ {b:List Nat} {s:RS} (h:(bk b s).2.e=0):1≤(bk b s).2.p:=by
 unfold bk at h ⊢
 split at h
 · rename_i h1;exact absurd h h1
 · split at h
   · simp at h
   · rename_i h1 h2
     rw[if_neg h1,if_neg h2]
     show 1≤s.p+1
     omega
theorem vR {b:List Nat} {s:RS} (h:dX b s):aO ae env 39 [.mp 0 0,.os none 1 1 [.sc (.int .u8 0)]] [s.aN b] (sI .u8 (eU xY b s).1) [(eU xY b s).2.aN b]:=by
 have hb:=cB h
 have hf:=kL h
 have hpos:=xZ (b:=b) (s:=s)
 have e1:eU xY b s=if xY (bk b s).1=true then bk b s else(0,if(bk b s).2.e=0 then⟨(bk b s).2.p,140,(bk b s).2.p-1⟩ else(bk b s).2):=rfl
 rw[e1]
 generalize bk b s=r at *
 obtain⟨c,⟨p2,e2,bL⟩⟩:=r
 have CU:p2≤b.length:=hf.p
 have hl:=hf.len
 refine az dy (Gs b.length (bt b) s.p s.e s.fa c p2 e2 bL) ?_
 simp only[Dg,aP.ok]
 refine⟨hb,fun h1=> ?_,fun h1=>⟨fun h2=> ?_,fun h2=> ?_⟩⟩
 · have:c=0:=by have:=eq_of_beq h1;omega
   rw[if_pos (by simp[xY,this])];rfl
 · have : ¬c=0:=fun e=>by rw[e] at h1;cases h1
   have e0:e2=0:=by rw[wU] at h2;simpa using h2
   subst e0
   have:=hpos rfl
   have w:tl.wrap ((p2:Int)-1)=((p2-1:Nat):Int):=by rw[aY (by omega) (by omega)];simp only at this;omega
   rw[if_neg (by simp[xY,this];omega),w];rfl
 · have : ¬c=0:=fun e=>by rw[e] at h1;cases h1
   have e0 : ¬e2=0:=by rw[wU] at h2;simpa using h2
   rw[if_neg (by simp[xY];omega)]
   simp[e0,RS.aN]
theorem Co {b:List Nat} {s:RS} (h:dX b s):aO ae env 39 [.mp 0 0,.os none 2 1 [.sc (.int .u8 64),.sc (.int .u8 127)]] [s.aN b] (sI .u8 (eU sC b s).1) [(eU sC b s).2.aN b]:=by
 have hb:=cB h
 have hf:=kL h
 have hpos:=xZ (b:=b) (s:=s)
 have e1:eU sC b s=if sC (bk b s).1=true then bk b s else(0,if(bk b s).2.e=0 then⟨(bk b s).2.p,140,(bk b s).2.p-1⟩ else(bk b s).2):=rfl
 rw[e1]
 generalize bk b s=r at *
 obtain⟨c,⟨p2,e2,bL⟩⟩:=r
 have CU:p2≤b.length:=hf.p
 have hl:=hf.len
 refine az dy (Gt b.length (bt b) s.p s.e s.fa c p2 e2 bL) ?_
 simp only[Dh,aP.ok]
 refine⟨hb,fun h1=> ?_,fun h1=>⟨fun h3=> ?_,fun h3=>⟨fun h2=> ?_,fun h2=> ?_⟩⟩⟩
 · have:c=64:=by have:=eq_of_beq h1;omega
   rw[if_pos (by simp[sC,this])];rfl
 · have:c=127:=by have:=eq_of_beq h3;omega
   rw[if_pos (by simp[sC,this])];rfl
 · have n1 : ¬c=64:=fun e=>by rw[e] at h1;cases h1
   have n2 : ¬c=127:=fun e=>by rw[e] at h3;cases h3
   have e0:e2=0:=by rw[wU] at h2;simpa using h2
   subst e0
   have:=hpos rfl
   have w:tl.wrap ((p2:Int)-1)=((p2-1:Nat):Int):=by rw[aY (by omega) (by omega)];simp only at this;omega
   rw[if_neg (by simp[sC];omega),w];rfl
 · have n1 : ¬c=64:=fun e=>by rw[e] at h1;cases h1
   have n2 : ¬c=127:=fun e=>by rw[e] at h3;cases h3
   have e0 : ¬e2=0:=by rw[wU] at h2;simpa using h2
   rw[if_neg (by simp[sC];omega)]
   simp[e0,RS.aN]
def Ni (bits many:Nat):Int:=TI.wrap (if 2 ^ (many-1)≤bits then(bits:Int)-(2 ^ many:Nat) else bits)
def Ho (b:List Nat) (p:Nat):Int:=if(gS b p).e≠0 then 0 else Ni (gS b p).bits (gS b p).many
def zJ (b:List Nat) (p:Nat):Nat:=if(gS b p).e≠0 then 0 else(gS b p).next
theorem Di {last:Nat→Bool} {b:List Nat} {p:Nat} : ∀(f i acc:Nat),i+f=5→acc<128 ^ i→(gN last b p f i acc).e=0 → ∃j,j<5∧(gN last b p f i acc).many=7*(j+1)∧(gN last b p f i acc).bits<128 ^ (j+1)
 |0,i,acc,_,_,h=>by simp[gN,GR.e] at h
 |f+1,i,acc,hi,ha,h=>by
  unfold gN at h ⊢
  split at h
  · simp[GR.e] at h
  · split at h
    · simp[GR.e] at h
    · split at h
      · rename_i h1 h2 h3
        rw[if_neg h1,if_neg h2,if_pos h3]
        exact⟨i,by omega,rfl,zx ha⟩
      · rename_i h1 h2 h3
        rw[if_neg h1,if_neg h2,if_neg h3]
        exact Di f (i+1) _ (by omega) (zx ha) h
theorem Gu {bits j:Nat} (hj:j<5) (hb:bits<128 ^ (j+1)) :
  TI.wrap ((tl.wrap (TQ.wrap ((bits:Int)*2 ^ TC (tl.wrap (64-((7*(j+1):Nat):Int))).toNat 64))).fdiv (2 ^ TC (tl.wrap (64-((7*(j+1):Nat):Int))).toNat 64))=Ni bits (7*(j+1)):=by
 have w:tl.wrap (64-((7*(j+1):Nat):Int))=((64-7*(j+1):Nat):Int):=by rw[aY (by omega) (by omega)];omega
 rw[w,TE,rb (by omega)]
 unfold Ni
 congr 1
 rw[Int.fdiv_eq_ediv_of_nonneg _ (by exact Int.le_of_lt (Int.pow_pos (by decide)))]
 have hj':j=0∨j=1∨j=2∨j=3∨j=4:=by omega
 rcases hj' with rfl | rfl | rfl | rfl | rfl<;>simp only[Nat.reduceAdd,Nat.reduceMul,Nat.reduceSub,Nat.reducePow,Int.reducePow,ML,MJ] at hb ⊢ <;> split<;>omega
theorem Eg {b:List Nat} {s:RS} (h:dX b s):aO ae env 64 [.p (.ps b.length 1 (bt b)),sI .i64 s.p] [] (.bn [sI .i32 (Ho b s.p),sI .i64 (zJ b s.p),.agg [sI .i64 (gS b s.p).e,sI .i64 (gS b s.p).fa]]) []:=by
 have hg:=Ee h.iV h.len h.p
 refine az dy (Iq b.length (bt b) s.p (gS b s.p).bits (gS b s.p).many (gS b s.p).next (gS b s.p).e (gS b s.p).fa) ?_
 simp only[Gl,aP.ok]
 refine⟨hg,fun h1=> ?_,fun h1=> ?_⟩
 · have h1:(gS b s.p).e≠0:=by rw[wU] at h1;simpa using h1
   simp only[Ho,zJ,if_pos h1,true_and]
   rfl
 · have h1 : ¬(gS b s.p).e≠0:=by rw[wU] at h1;simpa using h1
   obtain⟨j,hj,hm,hb⟩:=Di (last:=iQ) (b:=b) (p:=s.p) 5 0 0 rfl (by decide) (by simpa[gS] using h1)
   have hm:(gS b s.p).many=7*(j+1):=hm
   have hb:(gS b s.p).bits<128 ^ (j+1):=hb
   simp only[Ho,zJ,if_neg h1,true_and]
   rw[hm,Gu hj hb]
   have d:decide (0≤tl.wrap (64-((7*(j+1):Nat):Int)))=true:=decide_eq_true (by rw[aY (by omega) (by omega)];omega)
   rw[d]
   exact⟨rfl,rfl⟩
end Go.Proofs.YtddfgnmjecogdaaDoor.N
end
