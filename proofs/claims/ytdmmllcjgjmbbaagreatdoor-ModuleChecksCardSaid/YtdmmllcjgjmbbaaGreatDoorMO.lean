/-
The document's check of instructions: what its parts tell, of any instructions.
-/
import Derived.Test.YtdmmllcjgjmbbaaGreatDoorMJ
import Derived.Test.YtdmmllcjgjmbbaaGreatDoorMH
section
namespace Go.Proofs.YtdmmllcjgjmbbaaGreatDoor.N
open Go Go.Am
def coS (_l:List Ins) (_n:Int) (i:Nat) (_op _r _a _b _nn:Int) (_tg:List Int) (_ll _le:List Ins) (_R:List PV→Int):FuncId→Nat→Nat→Option (AV→AV):=dw [(36,5,1,sI .i64 ((i+1:Nat):Int)),(146,5,1,sI .i64 ((i+1:Nat):Int))]
def coL (_l:List Ins) (_n:Int) (_i:Nat) (_op _r _a _b _nn:Int) (_tg:List Int) (_ll _le:List Ins) (R:List PV→Int) (f:FuncId) (args:List AV) (m:Mem):Option (AV×Mem):=match args with | [.p (.ps _ _ cs)]=>cond (Nat.beq f 36||Nat.beq f 146) (some (sI .i64 (R cs),m)) none | _=>none
def alS (_l:List Ins) (i:Nat) (op r a b nn:Int) (tg:List Int) (ll le:List Ins) (_ok:Bool) (_R:List PV→Bool):FuncId→Nat→Nat→Option (AV→AV):=dw [(145,4,1,sI .i64 ((i+1:Nat):Int)),(147,4,1,sI .i64 ((i+1:Nat):Int)),(145,5,3,rD op r a b nn tg ll le),(145,5,11,aL ll),(145,5,20,aL le),(147,5,4,.p (.ps tg.length 1 (eK .u32 tg))),(147,5,12,aL ll),(147,5,20,aL le)]
def alC (_l:List Ins) (_i:Nat) (_op _r _a _b _nn:Int) (_tg:List Int) (_ll _le:List Ins) (ok:Bool) (R:List PV→Bool) (f:FuncId) (args:List AV) (m:Mem):Option (AV×Mem):=match args with | [.p (.ps _ _ cs)]=>cond (Nat.beq f 145||Nat.beq f 147) (some (sB (R cs),m)) none | _=>cond (Nat.beq f 169) (some (sB ok,m)) none
def ckC (_l:List Ins) (a:Bool) (n d:Int) (t:Bool) (f:FuncId) (_:List AV) (m:Mem):Option (AV×Mem):=cond (Nat.beq f 145) (some (sB a,m)) (cond (Nat.beq f 36) (some (sI .i64 n,m)) (cond (Nat.beq f 146) (some (sI .i64 d,m)) (cond (Nat.beq f 147) (some (sB t,m)) none)))
noncomputable def T8:bu:=aK av az [(145,0)] [] []
def Yf:Sc:= .fin
noncomputable def OX (l:List Ins):Tree:=
 (.at (af Tryz.prog env 145 0 [.p (.ps l.length 8 (ak l)),sI .i64 0] ([]) 0 34))
theorem LD (l:List Ins):aR Tryz.prog env T8 1000000 145 ([aL l]) ([]) Yf=OX l:=by kernel_rfl
noncomputable def T9:bu:=aK av az [(36,0)] [] []
def Yg:Sc:= .fin
noncomputable def OY (l:List Ins):Tree:=
 (.at (af Tryz.prog env 36 0 [.p (.ps l.length 8 (ak l)),sI .i64 (↑l.length:Int),sI .i64 0] ([]) 0 29))
theorem LF (l:List Ins):aR Tryz.prog env T9 1000000 36 ([aL l]) ([]) Yg=OY l:=by kernel_rfl
noncomputable def Ua:bu:=aK av az [(146,0)] [] []
def Yh:Sc:= .fin
noncomputable def OZ (l:List Ins):Tree:=
 (.at (af Tryz.prog env 146 0 [.p (.ps l.length 8 (ak l)),sI .i64 0,sI .i64 0] ([]) 0 28))
theorem LG (l:List Ins):aR Tryz.prog env Ua 1000000 146 ([aL l]) ([]) Yh=OZ l:=by kernel_rfl
noncomputable def Ub:bu:=aK av az [(147,0)] [] []
def Yi:Sc:= .fin
noncomputable def O0 (l:List Ins):Tree:=
 (.at (af Tryz.prog env 147 0 [.p (.ps l.length 8 (ak l)),sI .i64 0] ([]) 0 33))
theorem LH (l:List Ins):aR Tryz.prog env Ub 1000000 147 ([aL l]) ([]) Yi=O0 l:=by kernel_rfl
noncomputable def Uc (l:List Ins) (n:Int) (i:Nat) (op r a b nn:Int) (tg:List Int) (ll:List Ins) (le:List Ins) (R:List PV→Int):bu:=kM av (coL l n i op r a b nn tg ll le R) [(36,0)] [(36,0,1)] [(36,0,2)] (coS l n i op r a b nn tg ll le R)
def Yj:Sc:= .fin
noncomputable def AE (l:List Ins) (n:Int) (i:Nat) (_op _r _a _b _nn:Int) (_tg:List Int) (_ll:List Ins) (_le:List Ins) (R:List PV→Int):Tree:=
 (.test (decide ((↑i:Int)<(↑l.length:Int)))
 (.call ⟨36,[.p (.ps (aq ((ak l).getD ((↑i:Int).toNat*8+6) PV.bad)) (aA ((ak l).getD ((↑i:Int).toNat*8+6) PV.bad)) (aj ((ak l).getD ((↑i:Int).toNat*8+6) PV.bad)))],[],sI .i64 (R (aj ((ak l).getD ((↑i:Int).toNat*8+6) PV.bad))),[]⟩
 (.call ⟨36,[.p (.ps (aq ((ak l).getD ((↑i:Int).toNat*8+7) PV.bad)) (aA ((ak l).getD ((↑i:Int).toNat*8+7) PV.bad)) (aj ((ak l).getD ((↑i:Int).toNat*8+7) PV.bad)))],[],sI .i64 (R (aj ((ak l).getD ((↑i:Int).toNat*8+7) PV.bad))),[]⟩
 (.must (aG (↑i:Int) l.length&&true&&true&&(aH ((ak l).getD ((↑i:Int).toNat*8+6) PV.bad)&&true&&(aG (↑i:Int) l.length&&true&&true&&(aH ((ak l).getD ((↑i:Int).toNat*8+7) PV.bad)&&true&&true)))&&true)
 (.need (sI .i64 (IntKind.i64.wrap ((↑i:Int)+1))=sI IntKind.i64 (↑(i+1):Int))
 (.at (af Tryz.prog env 36 0 [.p (.ps l.length 8 (ak l)),sI .i64 (IntKind.i64.wrap (IntKind.i64.wrap (n+R (aj ((ak l).getD ((↑i:Int).toNat*8+6) PV.bad)))+R (aj ((ak l).getD ((↑i:Int).toNat*8+7) PV.bad)))),sI .i64 (↑(i+1):Int)] ([]) 0 29))))))
 (.must true
 (.out (.ret (sI .i64 n) []))))
theorem Ci (l:List Ins) (n:Int) (i:Nat) (op r a b nn:Int) (tg:List Int) (ll:List Ins) (le:List Ins) (R:List PV→Int):grow Tryz.prog env (Uc l n i op r a b nn tg ll le R) 1000000 true (af Tryz.prog env 36 0 ([aL l,sI IntKind.i64 n,sI IntKind.i64 (↑i:Int)]) ([]) 0 29) Yj atEnd=AE l n i op r a b nn tg ll le R:=by kernel_rfl
noncomputable def Ud (l:List Ins) (n:Int) (i:Nat) (op r a b nn:Int) (tg:List Int) (ll:List Ins) (le:List Ins) (R:List PV→Int):bu:=kM av (coL l n i op r a b nn tg ll le R) [(146,0)] [(146,0,1)] [(146,0,2)] (coS l n i op r a b nn tg ll le R)
def Yk:Sc:= .fin
noncomputable def AF (l:List Ins) (n:Int) (i:Nat) (_op _r _a _b _nn:Int) (_tg:List Int) (_ll:List Ins) (_le:List Ins) (R:List PV→Int):Tree:=
 (.test (decide ((↑i:Int)<(↑l.length:Int)))
 (.call ⟨146,[.p (.ps (aq ((ak l).getD ((↑i:Int).toNat*8+6) PV.bad)) (aA ((ak l).getD ((↑i:Int).toNat*8+6) PV.bad)) (aj ((ak l).getD ((↑i:Int).toNat*8+6) PV.bad)))],[],sI .i64 (R (aj ((ak l).getD ((↑i:Int).toNat*8+6) PV.bad))),[]⟩
 (.call ⟨146,[.p (.ps (aq ((ak l).getD ((↑i:Int).toNat*8+7) PV.bad)) (aA ((ak l).getD ((↑i:Int).toNat*8+7) PV.bad)) (aj ((ak l).getD ((↑i:Int).toNat*8+7) PV.bad)))],[],sI .i64 (R (aj ((ak l).getD ((↑i:Int).toNat*8+7) PV.bad))),[]⟩
 (.must (aG (↑i:Int) l.length&&true&&true&&(aH ((ak l).getD ((↑i:Int).toNat*8+6) PV.bad)&&true&&(aG (↑i:Int) l.length&&true&&true&&(aH ((ak l).getD ((↑i:Int).toNat*8+7) PV.bad)&&true&&true)))&&true)
 (.need (sI .i64 (IntKind.i64.wrap ((↑i:Int)+1))=sI IntKind.i64 (↑(i+1):Int))
 (.at (af Tryz.prog env 146 0 [.p (.ps l.length 8 (ak l)),sI .i64 (bif false then Min.min n (IntKind.i64.wrap (1+bif false then Min.min (R (aj ((ak l).getD ((↑i:Int).toNat*8+6) PV.bad))) (R (aj ((ak l).getD ((↑i:Int).toNat*8+7) PV.bad))) else Max.max (R (aj ((ak l).getD ((↑i:Int).toNat*8+6) PV.bad))) (R (aj ((ak l).getD ((↑i:Int).toNat*8+7) PV.bad))))) else Max.max n (IntKind.i64.wrap (1+bif false then Min.min (R (aj ((ak l).getD ((↑i:Int).toNat*8+6) PV.bad))) (R (aj ((ak l).getD ((↑i:Int).toNat*8+7) PV.bad))) else Max.max (R (aj ((ak l).getD ((↑i:Int).toNat*8+6) PV.bad))) (R (aj ((ak l).getD ((↑i:Int).toNat*8+7) PV.bad)))))),sI .i64 (↑(i+1):Int)] ([]) 0 28))))))
 (.must true
 (.out (.ret (sI .i64 n) []))))
theorem Cj (l:List Ins) (n:Int) (i:Nat) (op r a b nn:Int) (tg:List Int) (ll:List Ins) (le:List Ins) (R:List PV→Int):grow Tryz.prog env (Ud l n i op r a b nn tg ll le R) 1000000 true (af Tryz.prog env 146 0 ([aL l,sI IntKind.i64 n,sI IntKind.i64 (↑i:Int)]) ([]) 0 28) Yk atEnd=AF l n i op r a b nn tg ll le R:=by kernel_rfl
noncomputable def Ue (l:List Ins) (i:Nat) (op r a b nn:Int) (tg:List Int) (ll:List Ins) (le:List Ins) (ok:Bool) (R:List PV→Bool):bu:=kM (alC l i op r a b nn tg ll le ok R) az [(145,0)] [(145,0,1),(145,5,7),(145,5,16),(145,0,2)] [(145,5,2),(145,5,3),(145,5,9),(145,5,11),(145,5,18),(145,5,20)] (alS l i op r a b nn tg ll le ok R)
def Yl:Sc:=(.fork (.fork (.lit (.lit .fin)) (.fork (.lit .fin) .fin)) .fin)
noncomputable def AG (l:List Ins) (i:Nat) (op r a b nn:Int) (tg:List Int) (ll:List Ins) (le:List Ins) (ok:Bool) (R:List PV→Bool):Tree:=
 (.test (decide ((↑i:Int)<(↑l.length:Int)))
 (.must (aG (↑i:Int) l.length&&true&&true)
 (.must (isInt IntKind.i64 ((ak l).getD ((↑i:Int).toNat*8) PV.bad)&&(isInt IntKind.i64 ((ak l).getD ((↑i:Int).toNat*8+1) PV.bad)&&(isInt IntKind.u32 ((ak l).getD ((↑i:Int).toNat*8+1+1) PV.bad)&&(isInt IntKind.u32 ((ak l).getD ((↑i:Int).toNat*8+1+1+1) PV.bad)&&(isInt IntKind.i32 ((ak l).getD ((↑i:Int).toNat*8+1+1+1+1) PV.bad)&&(aH ((ak l).getD ((↑i:Int).toNat*8+1+1+1+1+1) PV.bad)&&(aH ((ak l).getD ((↑i:Int).toNat*8+1+1+1+1+1+1) PV.bad)&&(aH ((ak l).getD ((↑i:Int).toNat*8+1+1+1+1+1+1+1) PV.bad)&&true)))))))&&true)
 (.need (AV.agg [sI .i64 (au ((ak l).getD ((↑i:Int).toNat*8) PV.bad)),sI .i64 (au ((ak l).getD ((↑i:Int).toNat*8+1) PV.bad)),sI .u32 (au ((ak l).getD ((↑i:Int).toNat*8+1+1) PV.bad)),sI .u32 (au ((ak l).getD ((↑i:Int).toNat*8+1+1+1) PV.bad)),sI .i32 (au ((ak l).getD ((↑i:Int).toNat*8+1+1+1+1) PV.bad)),AV.p (PV.ps (aq ((ak l).getD ((↑i:Int).toNat*8+1+1+1+1+1) PV.bad)) (aA ((ak l).getD ((↑i:Int).toNat*8+1+1+1+1+1) PV.bad)) (aj ((ak l).getD ((↑i:Int).toNat*8+1+1+1+1+1) PV.bad))),AV.p (PV.ps (aq ((ak l).getD ((↑i:Int).toNat*8+1+1+1+1+1+1) PV.bad)) (aA ((ak l).getD ((↑i:Int).toNat*8+1+1+1+1+1+1) PV.bad)) (aj ((ak l).getD ((↑i:Int).toNat*8+1+1+1+1+1+1) PV.bad))),AV.p (PV.ps (aq ((ak l).getD ((↑i:Int).toNat*8+1+1+1+1+1+1+1) PV.bad)) (aA ((ak l).getD ((↑i:Int).toNat*8+1+1+1+1+1+1+1) PV.bad)) (aj ((ak l).getD ((↑i:Int).toNat*8+1+1+1+1+1+1+1) PV.bad)))]=rD op r a b nn tg ll le)
 (.call ⟨169,[.agg [sI .i64 op,sI .i64 r,sI .u32 a,sI .u32 b,sI .i32 nn,.p (.ps tg.length 1 (eK IntKind.u32 tg)),.p (.ps ll.length 8 (ak ll)),.p (.ps le.length 8 (ak le))]],[],.p (.sc (.bool ok)),[]⟩
 (.test (!ok)
 (.out (.ret (sB false) []))
 (.must (aG (↑i:Int) l.length&&true&&true)
 (.must (aH ((ak l).getD ((↑i:Int).toNat*8+6) PV.bad)&&true)
 (.need (AV.p (PV.ps (aq ((ak l).getD ((↑i:Int).toNat*8+6) PV.bad)) (aA ((ak l).getD ((↑i:Int).toNat*8+6) PV.bad)) (aj ((ak l).getD ((↑i:Int).toNat*8+6) PV.bad)))=aL ll)
 (.call ⟨145,[.p (.ps ll.length 8 (ak ll))],[],.p (.sc (.bool (R (ak ll)))),[]⟩
 (.test (!R (ak ll))
 (.out (.ret (sB false) []))
 (.must (aG (↑i:Int) l.length&&true&&true)
 (.must (aH ((ak l).getD ((↑i:Int).toNat*8+7) PV.bad)&&true)
 (.need (AV.p (PV.ps (aq ((ak l).getD ((↑i:Int).toNat*8+7) PV.bad)) (aA ((ak l).getD ((↑i:Int).toNat*8+7) PV.bad)) (aj ((ak l).getD ((↑i:Int).toNat*8+7) PV.bad)))=aL le)
 (.call ⟨145,[.p (.ps le.length 8 (ak le))],[],.p (.sc (.bool (R (ak le)))),[]⟩
 (.test (!R (ak le))
 (.out (.ret (sB false) []))
 (.need (sI .i64 (IntKind.i64.wrap ((↑i:Int)+1))=sI IntKind.i64 (↑(i+1):Int))
 (.at (af Tryz.prog env 145 0 [.p (.ps l.length 8 (ak l)),sI .i64 (↑(i+1):Int)] ([]) 0 34))))))))))))))))))
 (.out (.ret (sB true) [])))
theorem Ck (l:List Ins) (i:Nat) (op r a b nn:Int) (tg:List Int) (ll:List Ins) (le:List Ins) (ok:Bool) (R:List PV→Bool):grow Tryz.prog env (Ue l i op r a b nn tg ll le ok R) 1000000 true (af Tryz.prog env 145 0 ([aL l,sI IntKind.i64 (↑i:Int)]) ([]) 0 34) Yl atEnd=AG l i op r a b nn tg ll le ok R:=by kernel_rfl
noncomputable def Uf (l:List Ins) (i:Nat) (op r a b nn:Int) (tg:List Int) (ll:List Ins) (le:List Ins) (ok:Bool) (R:List PV→Bool):bu:=kM (alC l i op r a b nn tg ll le ok R) az [(147,0)] [(147,0,1),(147,5,8),(147,5,16),(147,0,2)] [(147,5,2),(147,5,4),(147,5,10),(147,5,12),(147,5,18),(147,5,20)] (alS l i op r a b nn tg ll le ok R)
def Ym:Sc:=(.fork (.fork (.lit (.lit .fin)) (.fork (.lit .fin) .fin)) .fin)
noncomputable def AH (l:List Ins) (i:Nat) (_op _r _a _b _nn:Int) (tg:List Int) (ll:List Ins) (le:List Ins) (_ok:Bool) (R:List PV→Bool):Tree:=
 (.test (decide ((↑i:Int)<(↑l.length:Int)))
 (.must (aG (↑i:Int) l.length&&true&&true)
 (.must (aH ((ak l).getD ((↑i:Int).toNat*8+5) PV.bad)&&true)
 (.need (AV.p (PV.ps (aq ((ak l).getD ((↑i:Int).toNat*8+5) PV.bad)) (aA ((ak l).getD ((↑i:Int).toNat*8+5) PV.bad)) (aj ((ak l).getD ((↑i:Int).toNat*8+5) PV.bad)))=AV.p (PV.ps tg.length 1 (eK IntKind.u32 tg)))
 (.test (decide ((↑tg.length:Int)>16384))
 (.out (.ret (sB true) []))
 (.must (aG (↑i:Int) l.length&&true&&true)
 (.must (aH ((ak l).getD ((↑i:Int).toNat*8+6) PV.bad)&&true)
 (.need (AV.p (PV.ps (aq ((ak l).getD ((↑i:Int).toNat*8+6) PV.bad)) (aA ((ak l).getD ((↑i:Int).toNat*8+6) PV.bad)) (aj ((ak l).getD ((↑i:Int).toNat*8+6) PV.bad)))=aL ll)
 (.call ⟨147,[.p (.ps ll.length 8 (ak ll))],[],.p (.sc (.bool (R (ak ll)))),[]⟩
 (.test (R (ak ll))
 (.out (.ret (sB true) []))
 (.must (aG (↑i:Int) l.length&&true&&true)
 (.must (aH ((ak l).getD ((↑i:Int).toNat*8+7) PV.bad)&&true)
 (.need (AV.p (PV.ps (aq ((ak l).getD ((↑i:Int).toNat*8+7) PV.bad)) (aA ((ak l).getD ((↑i:Int).toNat*8+7) PV.bad)) (aj ((ak l).getD ((↑i:Int).toNat*8+7) PV.bad)))=aL le)
 (.call ⟨147,[.p (.ps le.length 8 (ak le))],[],.p (.sc (.bool (R (ak le)))),[]⟩
 (.test (R (ak le))
 (.out (.ret (sB true) []))
 (.need (sI .i64 (IntKind.i64.wrap ((↑i:Int)+1))=sI IntKind.i64 (↑(i+1):Int))
 (.at (af Tryz.prog env 147 0 [.p (.ps l.length 8 (ak l)),sI .i64 (↑(i+1):Int)] ([]) 0 33)))))))))))))))))
 (.out (.ret (sB false) [])))
theorem Cl (l:List Ins) (i:Nat) (op r a b nn:Int) (tg:List Int) (ll:List Ins) (le:List Ins) (ok:Bool) (R:List PV→Bool):grow Tryz.prog env (Uf l i op r a b nn tg ll le ok R) 1000000 true (af Tryz.prog env 147 0 ([aL l,sI IntKind.i64 (↑i:Int)]) ([]) 0 33) Ym atEnd=AH l i op r a b nn tg ll le ok R:=by kernel_rfl
noncomputable def Ug (l:List Ins) (a:Bool) (n d:Int) (t:Bool):bu:=aK (ckC l a n d t) az [] [(124,0,0),(124,4,4),(124,4,9),(124,0,1)] []
def Yn:Sc:=(.fork .fin (.fork (.lit (.lit .fin)) (.fork (.lit .fin) .fin)))
noncomputable def O1 (l:List Ins) (a:Bool) (n d:Int) (t:Bool):Tree:=
 (.call ⟨145,[.p (.ps l.length 8 (ak l))],[],.p (.sc (.bool a)),[]⟩
 (.test (!a)
 (.out (.ret (sI .i64 2) []))
 (.call ⟨36,[.p (.ps l.length 8 (ak l))],[],sI .i64 n,[]⟩
 (.test (decide (n>262144))
 (.out (.ret (sI .i64 141) []))
 (.call ⟨146,[.p (.ps l.length 8 (ak l))],[],sI .i64 d,[]⟩
 (.test (decide (d>900))
 (.out (.ret (sI .i64 141) []))
 (.call ⟨147,[.p (.ps l.length 8 (ak l))],[],.p (.sc (.bool t)),[]⟩
 (.test (t)
 (.out (.ret (sI .i64 141) []))
 (.out (.ret (sI .i64 0) []))))))))))
theorem LI (l:List Ins) (a:Bool) (n d:Int) (t:Bool):aR Tryz.prog env (Ug l a n d t) 1000000 124 ([aL l]) ([]) Yn=O1 l a n d t:=by kernel_rfl
theorem Hq {p:Ins→Bool} (hp : ∀x:Ins,aC Tryz.prog env 169 [GG x] [] (sB (p x)) []) : ∀l:List Ins,aU l≤dK→aC Tryz.prog env 145 [aL l] [] (sB (xJ p l)) []:=by
 refine rV fun l IH hb=>ah names (LD l) ?_
 have loop : ∀(r k:Nat),k+r=l.length→Am.Good Tryz.prog env (af Tryz.prog env 145 0 [aL l,sI .i64 k] [] 0 34) (.ret (sB (xJ p (l.drop k))) []):=by
  intro r
  induction r with
  |zero=>
   intro k hk
   refine aa names (Ck l k 0 0 0 0 0 [] [] [] true (fun _=>true)) ?_
   have h2 : ¬((k:Int)<l.length):=by omega
   rw[List.drop_eq_nil_of_le (by omega)]
   simp only[AG,Tree.ok,xJ]
   exact⟨fun h=>absurd (by simpa using h) h2,fun _=>trivial⟩
  |succ r ih=>
   intro k hk
   have kK:k<l.length:=by omega
   have DD:l[k]? = some l[k]:=List.getElem?_eq_getElem kK
   have hmem:l[k]∈l:=List.getElem_mem kK
   rw[show l.drop k=l[k]::l.drop (k+1) from List.drop_eq_getElem_cons kK]
   have hlen:=dM l
   have rq:dK=1000000000000:=rfl
   generalize l[k]=x at *
   have pF:=IH x hmem
   have hpx:=hp x
   have Ii:=oM hmem
   obtain⟨op,rs,a,b,nn,tg,ll,le⟩:=x
   simp only[Ins.l,Ins.e,kN] at pF Ii
   obtain⟨c0,c1,c2,c3,c4,c5,c6,c7⟩:=fP DD
   have w1:IntKind.i64.wrap ((k:Int)+1)=((k+1:Nat):Int):=by rw[aD (by omega) (by omega)];rfl
   have uG:(k:Int)<(l.length:Int):=by omega
   refine aa names (Ck l k op rs a b nn tg ll le (p (.mk op rs a b nn tg ll le)) (eX true (xJ p))) ?_
   simp only[AG,Tree.ok,Int.toNat_natCast,Nat.add_assoc,Nat.reduceAdd,c0,c1,c2,c3,c4,c5,c6,c7,isInt,aH,au,aq,aA,aj,aG,w1,kj,xJ,Zo]
   refine⟨fun _=>⟨by simp[uG],by simp,rfl,hpx,fun h=> ?_,fun h=>⟨by simp[uG],rfl,(by trivial),pF.1 (by omega),fun h1=> ?_,fun h1=>⟨by simp[uG],rfl,(by trivial),pF.2 (by omega),fun h2=> ?_,fun h2=>⟨(by trivial),?_⟩⟩⟩⟩,fun h=>absurd uG (by simpa using h)⟩
   · rw[Bool.not_eq_true'] at h;rw[h];rfl
   · rw[Bool.not_eq_true'] at h1;rw[h1,Bool.false_and,Bool.and_false,Bool.false_and]
   · rw[Bool.not_eq_true'] at h2;rw[h2,Bool.and_false,Bool.and_false,Bool.false_and]
   · rw[Bool.not_eq_false'] at h h1 h2
     rw[h,h1,h2]
     exact ih (k+1) (by omega)
 have h:=loop l.length 0 (by omega)
 rw[List.drop_zero] at h
 exact h
theorem D4 : ∀l:List Ins,aU l≤dK→aC Tryz.prog env 147 [aL l] [] (sB (decide (16384<gd l))) []:=by
 refine rV fun l IH hb=>ah names (LH l) ?_
 have loop : ∀(r k:Nat),k+r=l.length→Am.Good Tryz.prog env (af Tryz.prog env 147 0 [aL l,sI .i64 k] [] 0 33) (.ret (sB (decide (16384<gd (l.drop k)))) []):=by
  intro r
  induction r with
  |zero=>
   intro k hk
   refine aa names (Cl l k 0 0 0 0 0 [] [] [] true (fun _=>true)) ?_
   have h2 : ¬((k:Int)<l.length):=by omega
   rw[List.drop_eq_nil_of_le (by omega)]
   simp only[AH,Tree.ok,gd]
   exact⟨fun h=>absurd (by simpa using h) h2,fun _=>rfl⟩
  |succ r ih=>
   intro k hk
   have kK:k<l.length:=by omega
   have DD:l[k]? = some l[k]:=List.getElem?_eq_getElem kK
   have hmem:l[k]∈l:=List.getElem_mem kK
   rw[show l.drop k=l[k]::l.drop (k+1) from List.drop_eq_getElem_cons kK]
   have hlen:=dM l
   have rq:dK=1000000000000:=rfl
   generalize l[k]=x at *
   have pF:=IH x hmem
   have Ii:=oM hmem
   obtain⟨op,rs,a,b,nn,tg,ll,le⟩:=x
   simp only[Ins.l,Ins.e,kN] at pF Ii
   obtain⟨c0,c1,c2,c3,c4,c5,c6,c7⟩:=fP DD
   have w1:IntKind.i64.wrap ((k:Int)+1)=((k+1:Nat):Int):=by rw[aD (by omega) (by omega)];rfl
   have uG:(k:Int)<(l.length:Int):=by omega
   refine aa names (Cl l k op rs a b nn tg ll le true (eX true fun l=>decide (16384<gd l))) ?_
   simp only[AH,Tree.ok,Int.toNat_natCast,c5,c6,c7,aH,aq,aA,aj,aG,w1,kj]
   have hT:gd (.mk op rs a b nn tg ll le::l.drop (k+1))=max (max tg.length (max (gd ll) (gd le))) (gd (l.drop (k+1))):=by simp only[gd,JD]
   generalize gd (.mk op rs a b nn tg ll le::l.drop (k+1))=T at *
   have out:16384<T→Out.ret (.p (.sc (.bool true))) []=Out.ret (sB (decide (16384<T))) []:=fun hq=>by rw[decide_eq_true hq]
   refine⟨fun _=>⟨by simp[uG],rfl,(by trivial),fun h=>out ?_,fun h=>⟨by simp[uG],rfl,(by trivial),pF.1 (by omega),fun h1=>out ?_,fun h1=>⟨by simp[uG],rfl,(by trivial),pF.2 (by omega),fun h2=>out ?_,fun h2=>⟨(by trivial),?_⟩⟩⟩⟩,fun h=>absurd uG (by simpa using h)⟩
   · rw[decide_eq_true_eq] at h;omega
   · rw[decide_eq_true_eq] at h1;omega
   · rw[decide_eq_true_eq] at h2;omega
   · rw[decide_eq_false_iff_not] at h h1 h2
     have:=ih (k+1) (by omega)
     rw[show decide (16384<T)=decide (16384<gd (l.drop (k+1))) from Bool.eq_iff_iff.2 (by rw[decide_eq_true_eq,decide_eq_true_eq];omega)]
     exact this
 have h:=loop l.length 0 (by omega)
 rw[List.drop_zero] at h
 exact h
theorem gJ : ∀l:List Ins,aU l≤dK→aC Tryz.prog env 36 [aL l] [] (sI .i64 (aU l)) []:=by
 refine rV fun l IH hb=>ah names (LF l) ?_
 have loop : ∀(r k n:Nat),k+r=l.length→n+aU (l.drop k)≤2*dK+(l.drop k).length→Am.Good Tryz.prog env (af Tryz.prog env 36 0 [aL l,sI .i64 n,sI .i64 k] [] 0 29) (.ret (sI .i64 (n+aU (l.drop k)-(l.drop k).length:Int)) []):=by
  intro r
  induction r with
  |zero=>
   intro k n hk hn
   refine aa names (Ci l n k 0 0 0 0 0 [] [] [] (fun _=>0)) ?_
   have h2 : ¬((k:Int)<l.length):=by omega
   rw[List.drop_eq_nil_of_le (by omega)]
   simp only[AE,Tree.ok,aU]
   exact⟨fun h=>absurd (by simpa using h) h2,fun _=>⟨(by trivial),by simp⟩⟩
  |succ r ih=>
   intro k n hk
   have kK:k<l.length:=by omega
   have DD:l[k]? = some l[k]:=List.getElem?_eq_getElem kK
   have hmem:l[k]∈l:=List.getElem_mem kK
   rw[show l.drop k=l[k]::l.drop (k+1) from List.drop_eq_getElem_cons kK]
   have hlen:=dM l
   have kE:=dM (l.drop (k+1))
   have rq:dK=1000000000000:=rfl
   generalize l[k]=x at *
   have pF:=IH x hmem
   have Ii:=oM hmem
   obtain⟨op,rs,a,b,nn,tg,ll,le⟩:=x
   simp only[Ins.l,Ins.e,kN,aU,List.length_cons] at pF Ii ⊢
   intro hn
   obtain⟨c0,c1,c2,c3,c4,c5,c6,c7⟩:=fP DD
   have w1:IntKind.i64.wrap ((k:Int)+1)=((k+1:Nat):Int):=by rw[aD (by omega) (by omega)];rfl
   have w2:IntKind.i64.wrap ((n:Int)+aU ll)=((n+aU ll:Nat):Int):=by rw[aD (by omega) (by omega)];rfl
   have w3:IntKind.i64.wrap (((n+aU ll:Nat):Int)+aU le)=((n+aU ll+aU le:Nat):Int):=by rw[aD (by omega) (by omega)];rfl
   have uG:(k:Int)<(l.length:Int):=by omega
   refine aa names (Ci l n k op rs a b nn tg ll le (eX 0 fun l=>(aU l:Int))) ?_
   simp only[AE,Tree.ok,Int.toNat_natCast,c6,c7,aH,aq,aA,aj,aG,w1,kj,w2,w3]
   have:=ih (k+1) (n+aU ll+aU le) (by omega) (by omega)
   refine⟨fun _=>⟨pF.1 (by omega),pF.2 (by omega),by simp[uG],(by trivial),?_⟩,fun h=>absurd uG (by simpa using h)⟩
   rw[show((n:Int)+((1+aU ll+aU le+aU (l.drop (k+1)):Nat):Int)-(((l.drop (k+1)).length+1:Nat):Int))=((n+aU ll+aU le:Nat):Int)+aU (l.drop (k+1))-(l.drop (k+1)).length by omega]
   exact this
 have h:=loop l.length 0 l.length (by omega) (by rw[List.drop_zero];have rq:dK=1000000000000:=rfl;omega)
 rw[List.drop_zero,show((l.length:Int)+aU l-l.length)=aU l by omega] at h
 exact h
theorem LJ (l:List Ins):cq 2 l=if l=[] then 0 else cq 1 l+1:=by
 split
 · rename_i h;rw[h];rfl
 · rename_i h;exact kf 1 l h
theorem LK (op rs a b nn:Int) (tg:List Int) (ll le:List Ins):Aj 1 (.mk op rs a b nn tg ll le)=1+max (cq 1 ll) (cq 1 le):=by
 simp only[Aj,Nat.reduceAdd,LJ]
 have z:cq 1 ([]:List Ins)=0:=rfl
 split<;>split<;>simp_all<;>omega
theorem D5 : ∀l:List Ins,aU l≤dK→aC Tryz.prog env 146 [aL l] [] (sI .i64 (cq 1 l)) []:=by
 refine rV fun l IH hb=>ah names (LG l) ?_
 have loop : ∀(r k n:Nat),k+r=l.length→Am.Good Tryz.prog env (af Tryz.prog env 146 0 [aL l,sI .i64 n,sI .i64 k] [] 0 28) (.ret (sI .i64 (max n (cq 1 (l.drop k)):Nat)) []):=by
  intro r
  induction r with
  |zero=>
   intro k n hk
   refine aa names (Cj l n k 0 0 0 0 0 [] [] [] (fun _=>0)) ?_
   have h2 : ¬((k:Int)<l.length):=by omega
   rw[List.drop_eq_nil_of_le (by omega)]
   simp only[AF,Tree.ok,cq,Nat.max_zero]
   exact⟨fun h=>absurd (by simpa using h) h2,fun _=>⟨(by trivial),(by trivial)⟩⟩
  |succ r ih=>
   intro k n hk
   have kK:k<l.length:=by omega
   have DD:l[k]? = some l[k]:=List.getElem?_eq_getElem kK
   have hmem:l[k]∈l:=List.getElem_mem kK
   rw[show l.drop k=l[k]::l.drop (k+1) from List.drop_eq_getElem_cons kK]
   have hlen:=dM l
   have rq:dK=1000000000000:=rfl
   generalize l[k]=x at *
   have pF:=IH x hmem
   have Ii:=oM hmem
   obtain⟨op,rs,a,b,nn,tg,ll,le⟩:=x
   simp only[Ins.l,Ins.e,kN] at pF Ii
   have d1:=lW 1 ll
   have d2:=lW 1 le
   obtain⟨c0,c1,c2,c3,c4,c5,c6,c7⟩:=fP DD
   have w1:IntKind.i64.wrap ((k:Int)+1)=((k+1:Nat):Int):=by rw[aD (by omega) (by omega)];rfl
   have m1:max (cq 1 ll:Int) (cq 1 le:Int)=((max (cq 1 ll) (cq 1 le):Nat):Int):=by omega
   have w2:IntKind.i64.wrap (1+((max (cq 1 ll) (cq 1 le):Nat):Int))=((1+max (cq 1 ll) (cq 1 le):Nat):Int):=by rw[aD (by omega) (by omega)];rfl
   have m2:max (n:Int) ((1+max (cq 1 ll) (cq 1 le):Nat):Int)=((max n (1+max (cq 1 ll) (cq 1 le)):Nat):Int):=by omega
   have uG:(k:Int)<(l.length:Int):=by omega
   refine aa names (Cj l n k op rs a b nn tg ll le (eX 0 fun l=>(cq 1 l:Int))) ?_
   simp only[AF,Tree.ok,Int.toNat_natCast,c6,c7,aH,aq,aA,aj,aG,w1,kj,cond_false,m1,w2,m2]
   have:=ih (k+1) (max n (1+max (cq 1 ll) (cq 1 le))) (by omega)
   refine⟨fun _=>⟨pF.1 (by omega),pF.2 (by omega),by simp[uG],(by trivial),?_⟩,fun h=>absurd uG (by simpa using h)⟩
   rw[show max n (cq 1 (.mk op rs a b nn tg ll le::l.drop (k+1)))=max (max n (1+max (cq 1 ll) (cq 1 le))) (cq 1 (l.drop (k+1))) by simp only[cq,LK];omega]
   exact this
 have h:=loop l.length 0 0 (by omega)
 rw[List.drop_zero,Nat.zero_max] at h
 exact h
theorem Cm {p:Ins→Bool} (hp : ∀x:Ins,aC Tryz.prog env 169 [GG x] [] (sB (p x)) []) (l:List Ins) (h:aU l≤dK):aC Tryz.prog env 124 [aL l] [] (sI .i64 (cA p l)) []:=by
 refine ah names (LI l (xJ p l) (aU l) (cq 1 l) (decide (16384<gd l))) ⟨Hq hp l h,fun h0=> ?_,fun h0=>⟨gJ l h,fun h1=> ?_,fun h1=>⟨D5 l h,fun h2=> ?_,fun h2=>⟨D4 l h,fun h3=> ?_,fun h3=> ?_⟩⟩⟩⟩
 · rw[Bool.not_eq_true'] at h0
   rw[cA,if_pos h0];rfl
 all_goals
  rw[Bool.not_eq_false'] at h0
  simp only[decide_eq_true_eq,decide_eq_false_iff_not] at *
  rw[cA,if_neg (by rw[h0];simp)]
 · rw[if_pos (by omega)];rfl
 · rw[if_pos (by omega)];rfl
 · rw[if_pos (by omega)];rfl
 · rw[if_neg (by omega)];rfl
end Go.Proofs.YtdmmllcjgjmbbaaGreatDoor.N
end
