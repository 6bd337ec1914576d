import Derived.Test.YtncncijedmfpjaaGreatDoorMO
open Nat renaming beq→bj,ble_eq→acO
open Go.IntKind renaming u32→acu,i64→sa
open Go.Proofs.Tryz renaming prog→ae
open List renaming replicate→df,length_append→dT,append_assoc→vt,length_cons→od,map→acC
open Bool renaming and_eq_true→dp,and_true→ac7
noncomputable section
section
set_option linter.unusedSimpArgs false
set_option linter.unusedVariables false
namespace Go.Proofs.YtncncijedmfpjaaGreatDoor.N
open Go Go.Am
def WA (p r e:Int) (k i:Nat) (X:List PV) (J:aab) (Q:aac) (f:FuncId) (args:List AV) (m:Mem):Option (AV×Mem):=cond (bj f 67||bj f 101) (some (sI .i64 e,m)) (cond (bj f 45) (match args with | [.p (.sc (.int _ n))]=>some (.os (some 0) (J n) 1 (Q n),[.tok]) | _=>none) (cond (bj f 104) (match args with | [.p (.sc (.int _ n))]=>some (.os (some 0) (J n) 1 (Q n),[.tok]) | _=>none) none))
def abM (p r e:Int) (k i:Nat) (X:List PV) (J:aab) (Q:aac):FuncId→Nat→Nat→Option (AV→AV):=cu [(83,13,0,sI .i64 ((i+1:Nat):Int))]
def abN (p r e:Int) (k i:Nat) (X:List PV) (J:aab) (Q:aac):FuncId→Nat→Nat→Option (AV→AV):=cu [(83,13,0,sI .i64 ((i+1:Nat):Int))]
def kmC (mn mx:Int) (cap:Bool) (most e:Int) (J:aab) (Q:aac) (f:FuncId) (args:List AV) (m:Mem):Option (AV×Mem):=cond (bj f 77||bj f 103) (some (sI .i64 e,m)) (cond (bj f 45) (match args with | [.p (.sc (.int _ n))]=>some (.os (some 0) (J n) 1 (Q n),[.tok]) | _=>none) (cond (bj f 52) (match args with | [.p (.sc (.int _ n))]=>some (.os (some 0) (J n) 1 (Q n),[.tok]) | _=>none) none))
def npC (s:ByteArray) (b e:Int) (n:Nat) (Z:List PV) (J:aab) (Q:aac) (f:FuncId) (args:List AV) (m:Mem):Option (AV×Mem):=cond (bj f 74||bj f 102) (some (sI .i64 b,m)) (cond (bj f 45) (match args with | [.p (.sc (.int _ n))]=>some (.os (some 0) (J n) 1 (Q n),[.tok]) | _=>none) (cond (bj f 52) (match args with | [.p (.sc (.int _ n))]=>some (.os (some 0) (J n) 1 (Q n),[.tok]) | _=>none) (cond (bj f 105) (some (.aK [.p (.ps n 1 Z),sI .i64 e],m)) none)))
def abO (n:Int) (k:Nat) (X:List PV) (f:FuncId) (args:List AV) (m:Mem):Option (AV×Mem):=cond (bj f 97) (some (.os (some 0) k 1 X,[.tok])) none
def YO (p r e:Int) (k:Nat) (i:Nat) (X:List PV) (J:aab) (Q:aac):bN:=aP (WA p r e k i X J Q) (WA p r e k i X J Q) [(83,3)] [(83,0,0)] [(83,9,4)]
def abP:Sc:= .fin
def Fy (p r e:Int) (k:Nat) (i:Nat) (X:List PV) (J:aab) (Q:aac):aA:=
 (.call ⟨67,[.agg [sI .i64 p,sI .i64 r]],[],sI .i64 e,[]⟩
 (.test (e != 0)
 (.out (.ret (.aK [fE,sI .i64 e]) []))
 (.call ⟨45,[sI .u32 (acu.wrap p)],[],.os (some 0) (J (acu.wrap p)) 1 (Q (acu.wrap p)),[.tok]⟩
 (.must (((1+J (acu.wrap p))*1).ble bH&&(1+J (acu.wrap p)).ble bH&&true)
 (.at (af ae env 83 3 [.os (some 0) (1+J (acu.wrap p)) 1 (.sc (.int .u8 96)::[].append (Q (acu.wrap p))),.agg [sI .i64 p,sI .i64 r],sI .i64 0,sI .i64 p,sI .i64 0] ([.tok]) 0 36))))))
theorem G2 (p r e:Int) (k:Nat) (i:Nat) (X:List PV) (J:aab) (Q:aac):aG ae env (YO p r e k i X J Q) 1000000 83 ([AV.agg [sI sa p,sI sa r]]) ([]) abP=Fy p r e k i X J Q:=by kernel_rfl
def UW (p r e:Int) (k:Nat) (i:Nat) (X:List PV) (J:aab) (Q:aac):bN:=gI (WA p r e k i X J Q) (WA p r e k i X J Q) [(83,3)] [(83,0,4)] [(83,12,2),(83,9,4)] (abM p r e k i X J Q)
def YP:Sc:= .fin
def Bp (p r e:Int) (k:Nat) (i:Nat) (X:List PV) (J:aab) (Q:aac):aA:=
 (.test (decide ((↑i:Int)<p))
 (.must (((k+1)*1).ble bH&&(k+1).ble bH&&true)
 (.need (sI .i64 (sa.wrap ((↑i:Int)+1))=sI sa (↑(i+1):Int))
 (.at (af ae env 83 3 [.os (some 0) (k+1) 1 (X++[.sc (.int .u8 127)]),.agg [sI .i64 p,sI .i64 r],sI .i64 0,sI .i64 p,sI .i64 (↑(i+1):Int)] ([.tok]) 0 36))))
 (.call ⟨45,[sI .u32 (acu.wrap r)],[],.os (some 0) (J (acu.wrap r)) 1 (Q (acu.wrap r)),[.tok]⟩
 (.must (((k+J (acu.wrap r))*1).ble bH&&(k+J (acu.wrap r)).ble bH&&true)
 (.at (af ae env 83 3 [.os (some 0) (k+J (acu.wrap r)) 1 (X++Q (acu.wrap r)),.agg [sI .i64 p,sI .i64 r],sI .i64 1,sI .i64 r,sI .i64 0] ([.tok]) 0 36)))))
theorem Dm (p r e:Int) (k:Nat) (i:Nat) (X:List PV) (J:aab) (Q:aac):grow ae env (UW p r e k i X J Q) 1000000 true (af ae env 83 3 ([AV.os (Option.some 0) k 1 X,AV.agg [sI sa p,sI sa r],sI sa 0,sI sa p,sI sa (↑i:Int)]) ([aN.tok]) 0 36) YP atEnd=Bp p r e k i X J Q:=by kernel_rfl
def UX (p r e:Int) (k:Nat) (i:Nat) (X:List PV) (J:aab) (Q:aac):bN:=gI (WA p r e k i X J Q) (WA p r e k i X J Q) [(83,3)] [(83,0,4)] [(83,12,2)] (abN p r e k i X J Q)
def YQ:Sc:= .fin
def Bq (p r e:Int) (k:Nat) (i:Nat) (X:List PV) (J:aab) (Q:aac):aA:=
 (.test (decide ((↑i:Int)<r))
 (.must (((k+1)*1).ble bH&&(k+1).ble bH&&true)
 (.need (sI .i64 (sa.wrap ((↑i:Int)+1))=sI sa (↑(i+1):Int))
 (.at (af ae env 83 3 [.os (some 0) (k+1) 1 (X++[.sc (.int .u8 127)]),.agg [sI .i64 p,sI .i64 r],sI .i64 1,sI .i64 r,sI .i64 (↑(i+1):Int)] ([.tok]) 0 36))))
 (.out (.ret (.aK [.os (some 0) k 1 X,sI .i64 0]) [.tok])))
theorem Dn (p r e:Int) (k:Nat) (i:Nat) (X:List PV) (J:aab) (Q:aac):grow ae env (UX p r e k i X J Q) 1000000 true (af ae env 83 3 ([AV.os (Option.some 0) k 1 X,AV.agg [sI sa p,sI sa r],sI sa 1,sI sa r,sI sa (↑i:Int)]) ([aN.tok]) 0 36) YQ atEnd=Bq p r e k i X J Q:=by kernel_rfl
def YR (mn mx:Int) (cap:Bool) (most e:Int) (J:aab) (Q:aac):bN:=aP (kmC mn mx cap most e J Q) (kmC mn mx cap most e J Q) [] [(118,0,0),(118,0,1)] [(118,6,4),(118,0,2)]
def abQ:Sc:= .fin
def Fz (mn mx:Int) (cap:Bool) (most e:Int) (J:aab) (Q:aac):aA:=
 (.call ⟨77,[.agg [sI .u32 mn,sI .u32 mx,.p (.sc (.bool cap))],sI .u32 most],[],sI .i64 e,[]⟩
 (.test (e != 0)
 (.out (.ret (.aK [fE,sI .i64 e]) []))
 (.test (!cap)
 (.call ⟨45,[sI .u32 mn],[],.os (some 0) (J mn) 1 (Q mn),[.tok]⟩
 (.must (((1+J mn)*1).ble bH&&(1+J mn).ble bH&&true)
 (.must true
 (.out (.ret (.aK [.os (some 0) (1+J mn) 1 (.sc (.int .u8 0)::[].append (Q mn)),sI .i64 0]) [.tok])))))
 (.call ⟨45,[sI .u32 mn],[],.os (some 0) (J mn) 1 (Q mn),[.tok]⟩
 (.call ⟨45,[sI .u32 mx],[],.os (some 0) (J mx) 1 (Q mx),[.tok]⟩
 (.must (((1+J mn)*1).ble bH&&(1+J mn).ble bH&&true&&(((1+J mn+J mx)*1).ble bH&&(1+J mn+J mx).ble bH&&true&&true)&&true)
 (.must true
 (.out (.ret (.aK [.os (some 0) (1+J mn+J mx) 1 (.sc (.int .u8 1)::([].append (Q mn)).append (Q mx)),sI .i64 0]) [.tok])))))))))
theorem G3 (mn mx:Int) (cap:Bool) (most e:Int) (J:aab) (Q:aac):aG ae env (YR mn mx cap most e J Q) 1000000 118 ([AV.agg [sI acu mn,sI acu mx,sB cap],sI acu most]) ([]) abQ=Fz mn mx cap most e J Q:=by kernel_rfl
def YS (s:ByteArray) (b e:Int) (n:Nat) (Z:List PV) (J:aab) (Q:aac):bN:=aP (npC s b e n Z J Q) (npC s b e n Z J Q) [] [(117,0,0),(117,0,1)] [(117,6,5)]
def abR:Sc:= .fin
def FA (s:ByteArray) (b e:Int) (n:Nat) (Z:List PV) (J:aab) (Q:aac):aA:=
 (.test (decide ((↑s.data.toList.length:Int)>1048576))
 (.out (.ret (.aK [fE,sI .i64 3]) []))
 (.call ⟨74,[.os (some 0) s.data.toList.length 1 (acC hH s.data.toList)],[.tok],sI .i64 b,[.tok]⟩
 (.test (decide (b≥0))
 (.out (.ret (.aK [fE,sI .i64 4]) []))
 (.call ⟨45,[sI .u32 (acu.wrap (↑s.data.toList.length:Int))],[],.os (some 0) (J (acu.wrap (↑s.data.toList.length:Int))) 1 (Q (acu.wrap (↑s.data.toList.length:Int))),[.tok]⟩
 (.must (((J (acu.wrap (↑s.data.toList.length:Int))+s.data.toList.length)*1).ble bH&&(J (acu.wrap (↑s.data.toList.length:Int))+s.data.toList.length).ble bH&&true)
 (.out (.ret (.aK [.os (some 0) (J (acu.wrap (↑s.data.toList.length:Int))+s.data.toList.length) 1 (Q (acu.wrap (↑s.data.toList.length:Int))++acC hH s.data.toList),sI .i64 0]) [.tok])))))))
theorem G4 (s:ByteArray) (b e:Int) (n:Nat) (Z:List PV) (J:aab) (Q:aac):aG ae env (YS s b e n Z J Q) 1000000 117 ([AV.p (PV.sc (Value.string s))]) ([]) abR=FA s b e n Z J Q:=by kernel_rfl
def UY (n:Int) (k:Nat) (X:List PV):bN:=aP (abO n k X) aC [] [] []
def YT:Sc:= .fin
def G5 (n:Int) (k:Nat) (X:List PV):aA:=
 (.call ⟨97,[sI .u32 n,.fn (Fn.func 98) [] []],[],.os (some 0) k 1 X,[.tok]⟩
 (.out (.ret (.os (some 0) k 1 X) [.tok])))
theorem M8 (n:Int) (k:Nat) (X:List PV):aG ae env (UY n k X) 1000000 45 ([sI acu n]) ([]) YT=G5 n k X:=by kernel_rfl
theorem gy : ∀l:List Nat,(bt l).all isByte=true
 |[]=>rfl
 |_::l=>by simp[bt,isByte]
theorem oa {a:Int} (h:0≤a∧a<4294967296):au ae env 45 [sI .u32 a] [] (.os (some 0) (jU a) 1 (qU a)) [.tok]:=by
 obtain⟨n,rfl⟩:=Int.eq_ofNat_of_zero_le h.1
 refine aa aI (M8 n (pU 4 n).length (bt (pU 4 n))) ?_
 simp only[G5,aA.ok]
 refine⟨aa aI (Gr n) ?_,rfl⟩
 simp only[E9,bu,aA.ok]
 have k:=Gu 4 n [] (by omega) (by omega) (by simp) (by omega)
 rw[List.nil_append,bz] at k
 exact bD.pe 5 1 (Nat.le_refl 1) (by kernel_rfl) (by kernel_rfl) (bD.XH (by kernel_rfl) k)
theorem fH (n:Int):0≤acu.wrap n∧acu.wrap n<4294967296:=by rw[SK];omega
theorem jd (n:Int):(eV n).length≤5:=kE 4 _
theorem iz (n:Int):(eU n).length≤5:=kE 4 _
theorem gR (n:Int):jU n=(eU n).length:=rfl
theorem jg (n:Int):qU n=bt (eU n):=rfl
theorem M9 (n:Int):jU (acu.wrap n)=(eV n).length:=rfl
theorem Na (n:Int):qU (acu.wrap n)=bt (eV n):=rfl
theorem Nb {t:Option Nat} {n m:Nat} {X Y:List PV} {u:AV} {mm:Mem} (h:X=Y) (h':n=m):Out.ret (.aK [.os t n 1 X,u]) mm = .ret (.aK [.os t m 1 Y,u]) mm:=by subst h;rw[h']
theorem zX (x:Ty):(BQ x=0∧0≤x.p∧x.p≤255∧0≤x.r∧x.r≤1)∨BQ x=2:=by
 unfold BQ
 split
 · rename_i h;exact .inl ⟨rfl,h⟩
 · exact .inr rfl
theorem G6 (n:Int):(IK n).length≤5+n.toNat:=by
 have:=jd n
 unfold IK
 rw[dT,List.length_replicate];omega
theorem P5 (p r e:Int) (hr:r≤1000) : ∀(k i:Nat) (X:List Nat),(i:Int)+k=r→X.length+k≤1000000 →
  bD ae env (af ae env 83 3 [.os (some 0) X.length 1 (bt X),.agg [sI .i64 p,sI .i64 r],sI .i64 1,sI .i64 r,sI .i64 i] [.tok] 0 36) (.ret (.aK [.os (some 0) (X++df k 127).length 1 (bt (X++df k 127)),sI .i64 0]) [.tok]):=by
 have ct:bH=70368744177664:=rfl
 intro k
 induction k with
 |zero=>
  intro i X hi hX
  refine ah aI (Dn p r e X.length i (bt X) jU qU) ?_
  simp only[Bq,aA.ok,decide_eq_true_eq,decide_eq_false_iff_not]
  exact⟨fun h=>by omega,fun _=>by simp⟩
 |succ k ih=>
  intro i X hi hX
  refine ah aI (Dn p r e X.length i (bt X) jU qU) ?_
  simp only[Bq,aA.ok,decide_eq_true_eq,decide_eq_false_iff_not,ac7,dp,acO,ct]
  refine⟨fun h=>⟨by omega,by rw[bA (by omega) (by omega)];rfl,?_⟩,fun h=>by omega⟩
  have q:=ih (i+1) (X++[127]) (by push_cast;omega) (by simp;omega)
  rw[dT,bn,vt] at q
  exact q
theorem P6 (p r e:Int) (hp:p≤1000) (h0:0≤r) (hr:r≤1000) : ∀(k i:Nat) (X:List Nat),(i:Int)+k=p→X.length+k≤100000 →
  bD ae env (af ae env 83 3 [.os (some 0) X.length 1 (bt X),.agg [sI .i64 p,sI .i64 r],sI .i64 0,sI .i64 p,sI .i64 i] [.tok] 0 36) (.ret (.aK [.os (some 0) (X++df k 127++IK r).length 1 (bt (X++df k 127++IK r)),sI .i64 0]) [.tok]):=by
 have ct:bH=70368744177664:=rfl
 intro k
 induction k with
 |zero=>
  intro i X hi hX
  have l1:=jd r
  refine ah aI (Dm p r e X.length i (bt X) jU qU) ?_
  simp only[Bp,aA.ok,decide_eq_true_eq,decide_eq_false_iff_not,ac7,dp,acO,ct,M9,Na]
  refine⟨fun h=>by omega,fun _=>⟨oa (fH r),by omega,?_⟩⟩
  have q:=P5 p r e hr r.toNat 0 (X++eV r) (by omega) (by rw[dT];omega)
  rw[show(X++eV r:List Nat).length=X.length+(eV r).length by simp,bn X (eV r)] at q
  rw[show X++df 0 127++IK r=X++eV r++df r.toNat 127 by simp[IK]]
  exact q
 |succ k ih=>
  intro i X hi hX
  refine ah aI (Dm p r e X.length i (bt X) jU qU) ?_
  simp only[Bp,aA.ok,decide_eq_true_eq,decide_eq_false_iff_not,ac7,dp,acO,ct]
  refine⟨fun h=>⟨by omega,by rw[bA (by omega) (by omega)];rfl,?_⟩,fun h=>by omega⟩
  have q:=ih (i+1) (X++[127]) (by push_cast;omega) (by simp;omega)
  rw[show(X++[127]:List Nat).length=X.length+1 by simp,bn X [127],vt X [127]] at q
  exact q
theorem P7 (x:Ty):au ae env 83 [.agg [sI .i64 x.p,sI .i64 x.r]] [] (.aK [.p (.ps (Bn x).length 1 (bt (Bn x))),sI .i64 (BQ x)]) []:=by
 have ct:bH=70368744177664:=rfl
 rcases zX x with⟨h,h1,h2,h3,h4⟩ | h
 · have l1:=jd x.p
   refine au.vZ (tok:=some 0) (m':=[.tok]) (aa aI (G2 x.p x.r (BQ x) 0 0 [] jU qU) ?_)
   simp only[Fy,bu,aA.ok,ac7,dp,acO,ct,M9,Na]
   refine⟨wH x,fun q=> ?_,fun _=>⟨oa (fH x.p),by omega,?_⟩⟩
   · rw[h] at q;cases q
   · have k:=P6 x.p x.r (BQ x) (by omega) h3 (by omega) x.p.toNat 0 (96::eV x.p) (by omega) (by simp;omega)
     have e:96::eV x.p++df x.p.toNat 127++IK x.r=Bn x:=by unfold Bn IK;rw[if_pos h];simp
     rw[e] at k
     rw[h]
     have e2:(96::eV x.p).length=1+(eV x.p).length:=by rw[od];omega
     rw[e2] at k
     exact k
 · have e:Bn x=[]:=by unfold Bn;rw[if_neg (by omega)]
   rw[e]
   refine au.we (m':=[]) (aa aI (G2 x.p x.r (BQ x) 0 0 [] jU qU) ?_)
   simp only[Fy,bu,aA.ok]
   exact⟨wH x,fun _=>(by first | trivial | rfl),fun q=>by rw[h] at q;cases q⟩
theorem IL (most:Int) (x:Li):zJ most x=0∨zJ most x=2:=by
 unfold zJ
 split
 · exact .inr rfl
 · exact .inl rfl
theorem Nc (most:Int) (x:Li):(zW most x).length≤11:=by
 have:=iz x.mn
 have:=iz x.mx
 unfold zW
 split
 · split<;>simp only[od,dT]<;>omega
 · simp
theorem G7 (most:Int) (x:Li) (hw:tN x):au ae env 118 [.agg [sI .u32 x.mn,sI .u32 x.mx,sB x.cap],sI .u32 most] [] (.aK [.p (.ps (zW most x).length 1 (bt (zW most x))),sI .i64 (zJ most x)]) []:=by
 have ct:bH=70368744177664:=rfl
 have w1:=kF hw.1
 have w2:=kF hw.2
 have l1:=iz x.mn
 have l2:=iz x.mx
 rcases IL most x with h | h
 · refine au.vZ (tok:=some 0) (m':=[.tok]) (aa aI (G3 x.mn x.mx x.cap most (zJ most x) jU qU) ?_)
   simp only[Fz,bu,aA.ok,ac7,dp,acO,ct,gR,jg]
   refine⟨qx x most,fun q=> ?_,fun _=>⟨fun q=>⟨oa w1,by omega,trivial,?_⟩,fun q=>⟨oa w1,oa w2,by omega,trivial,?_⟩⟩⟩
   · rw[h] at q;cases q
   · rw[h]
     have hc:x.cap=false:=by simpa using q
     exact Nb (by simp[zW,h,hc,bt]) (by simp[zW,h,hc];omega)
   · rw[h]
     have hc:x.cap=true:=by simpa using q
     exact Nb (by simp[zW,h,hc,bt]) (by simp[zW,h,hc];omega)
 · have e:zW most x=[]:=by unfold zW;rw[if_neg (by omega)]
   rw[e]
   refine au.we (m':=[]) (aa aI (G3 x.mn x.mx x.cap most (zJ most x) jU qU) ?_)
   simp only[Fz,bu,aA.ok]
   exact⟨qx x most,fun _=>(by first | trivial | rfl),fun q=>by rw[h] at q;cases q⟩
theorem YU (s:ByteArray):bt (ya s)=s.data.toList.map hH:=by
 unfold bt ya
 rw[List.map_map]
 rfl
theorem P8 {s:ByteArray} (hs:s.data.toList.length≤1000000):s.size≤maxLen:=by
 have h1:s.size=s.data.toList.length:=by simp
 unfold maxLen
 omega
theorem Br (s:ByteArray) (hs:s.data.toList.length≤1000000):au ae env 117 [.p (.sc (.string s))] [] (.aK [.p (.ps (Bo s).length 1 (bt (Bo s))),sI .i64 (l9 s)]) []:=by
 have ct:bH=70368744177664:=rfl
 have l1:=jd (s.data.toList.length:Int)
 have hb:=au.Xt (m:=[.tok]) (args:=[.os (some 0) s.data.toList.length 1 (s.data.toList.map hH)]) (zL s (P8 hs)) ⟨Rz.os (.refl _),trivial⟩
 by_cases P9:Dg s≥0
 · have hE:l9 s=4:=by unfold l9;rw[if_neg (by omega),if_pos P9]
   have e:Bo s=[]:=by unfold Bo;rw[hE];rfl
   rw[e,hE]
   refine au.we (m':=[]) (aa aI (G4 s (Dg s) 0 0 [] jU qU) ?_)
   simp only[FA,bu,aA.ok,decide_eq_true_eq,decide_eq_false_iff_not]
   exact⟨fun q=>by omega,fun _=>⟨hb,fun _=>(by first | trivial | rfl),fun q=>absurd P9 q⟩⟩
 · have hE:l9 s=0:=by unfold l9;rw[if_neg (by omega),if_neg P9]
   refine au.vZ (tok:=some 0) (m':=[.tok]) (aa aI (G4 s (Dg s) 0 0 [] jU qU) ?_)
   simp only[FA,bu,aA.ok,decide_eq_true_eq,decide_eq_false_iff_not,ac7,dp,acO,ct,M9,Na]
   refine⟨fun q=>by omega,fun _=>⟨hb,fun q=>absurd q P9,fun _=>⟨oa (fH _),by omega,?_⟩⟩⟩
   rw[hE]
   exact Nb (by unfold Bo;rw[if_pos hE,bn,YU]) (by unfold Bo;rw[if_pos hE,dT];simp[ya])
end Go.Proofs.YtncncijedmfpjaaGreatDoor.N
end
