/-
The document's check of instructions: what its parts tell, of any instructions.
The right to a list's spare room under a new number; a list that is nil, with a right to no room.
Numbers as bytes (leb), by the program and by the document.
The bytes of instructions, in plain Lean.
-/
import Derived.Test.YtddfgnmjecogdaaDoorMI
import Derived.Test.YtddfgnmjecogdaaDoorMG
section
namespace Go.Proofs.YtddfgnmjecogdaaDoor.N
open Go Go.Am
def LH (_l:List Ins) (_n:Int) (i:Nat) (_op _r _a _b _nn:Int) (_tg:List Int) (_ll _le:List Ins) (_R:List PV→Int):FuncId→Nat→Nat→Option (AV→AV):=fk [(55,5,1,sI .i64 ((i+1:Nat):Int)),(56,5,1,sI .i64 ((i+1:Nat):Int))]
def LI (_l:List Ins) (_n:Int) (_i:Nat) (_op _r _a _b _nn:Int) (_tg:List Int) (_ll _le:List Ins) (R:List PV→Int) (f:FuncId) (args:List AV) (m:Mem):Option (AV×Mem):=match args with | [.p (.ps _ _ cs)]=>cond (Nat.beq f 55||Nat.beq f 56) (some (sI .i64 (R cs),m)) none | _=>none
def LJ (_l:List Ins) (i:Nat) (op r a b nn:Int) (tg:List Int) (ll le:List Ins) (_ok:Bool) (_R:List PV→Bool):FuncId→Nat→Nat→Option (AV→AV):=fk [(54,4,1,sI .i64 ((i+1:Nat):Int)),(57,4,1,sI .i64 ((i+1:Nat):Int)),(54,5,3,iV op r a b nn tg ll le),(54,5,11,aL ll),(54,5,20,aL le),(57,5,4,.p (.ps tg.length 1 (bL .u32 tg))),(57,5,12,aL ll),(57,5,20,aL le)]
def LK (_l:List Ins) (_i:Nat) (_op _r _a _b _nn:Int) (_tg:List Int) (_ll _le:List Ins) (ok:Bool) (R:List PV→Bool) (f:FuncId) (args:List AV) (m:Mem):Option (AV×Mem):=match args with | [.p (.ps _ _ cs)]=>cond (Nat.beq f 54||Nat.beq f 57) (some (sB (R cs),m)) none | _=>cond (Nat.beq f 76) (some (sB ok,m)) none
def MF (_l:List Ins) (a:Bool) (n d:Int) (t:Bool) (f:FuncId) (_:List AV) (m:Mem):Option (AV×Mem):=cond (Nat.beq f 54) (some (sB a,m)) (cond (Nat.beq f 55) (some (sI .i64 n,m)) (cond (Nat.beq f 56) (some (sI .i64 d,m)) (cond (Nat.beq f 57) (some (sB t,m)) none)))
noncomputable def GB:dR:=cr bk aW [(54,0)] [] []
def IT:Sc:= .fin
noncomputable def D6 (l:List Ins):Tree:=
 (.at (an Tryd.prog env 54 0 [.p (.ps l.length 8 (aa l)),sI .i64 0] ([]) 0 34))
theorem CF (l:List Ins):bC Tryd.prog env GB 1000000 54 ([aL l]) ([]) IT=D6 l:=by kernel_rfl
noncomputable def GC:dR:=cr bk aW [(55,0)] [] []
def IU:Sc:= .fin
noncomputable def D7 (l:List Ins):Tree:=
 (.at (an Tryd.prog env 55 0 [.p (.ps l.length 8 (aa l)),sI .i64 (↑l.length:Int),sI .i64 0] ([]) 0 29))
theorem CG (l:List Ins):bC Tryd.prog env GC 1000000 55 ([aL l]) ([]) IU=D7 l:=by kernel_rfl
noncomputable def GD:dR:=cr bk aW [(56,0)] [] []
def IV:Sc:= .fin
noncomputable def D8 (l:List Ins):Tree:=
 (.at (an Tryd.prog env 56 0 [.p (.ps l.length 8 (aa l)),sI .i64 0,sI .i64 0] ([]) 0 28))
theorem CH (l:List Ins):bC Tryd.prog env GD 1000000 56 ([aL l]) ([]) IV=D8 l:=by kernel_rfl
noncomputable def GF:dR:=cr bk aW [(57,0)] [] []
def IW:Sc:= .fin
noncomputable def D9 (l:List Ins):Tree:=
 (.at (an Tryd.prog env 57 0 [.p (.ps l.length 8 (aa l)),sI .i64 0] ([]) 0 33))
theorem CI (l:List Ins):bC Tryd.prog env GF 1000000 57 ([aL l]) ([]) IW=D9 l:=by kernel_rfl
noncomputable def GG (l:List Ins) (n:Int) (i:Nat) (op r a b nn:Int) (tg:List Int) (ll:List Ins) (le:List Ins) (R:List PV→Int):dR:=qD bk (LI l n i op r a b nn tg ll le R) [(55,0)] [(55,0,1)] [(55,0,2)] (LH l n i op r a b nn tg ll le R)
def IX:Sc:= .fin
noncomputable def ve (l:List Ins) (n:Int) (i:Nat) (_op _r _a _b _nn:Int) (_tg:List Int) (_ll:List Ins) (_le:List Ins) (R:List PV→Int):Tree:=
 (.test (decide ((↑i:Int)<(↑l.length:Int)))
 (.call ⟨55,[.p (.ps (aj ((aa l).getD ((↑i:Int).toNat*8+6) PV.bad)) (au ((aa l).getD ((↑i:Int).toNat*8+6) PV.bad)) (af ((aa l).getD ((↑i:Int).toNat*8+6) PV.bad)))],[],sI .i64 (R (af ((aa l).getD ((↑i:Int).toNat*8+6) PV.bad))),[]⟩
 (.call ⟨55,[.p (.ps (aj ((aa l).getD ((↑i:Int).toNat*8+7) PV.bad)) (au ((aa l).getD ((↑i:Int).toNat*8+7) PV.bad)) (af ((aa l).getD ((↑i:Int).toNat*8+7) PV.bad)))],[],sI .i64 (R (af ((aa l).getD ((↑i:Int).toNat*8+7) PV.bad))),[]⟩
 (.must (ep (↑i:Int) l.length&&true&&true&&(aR ((aa l).getD ((↑i:Int).toNat*8+6) PV.bad)&&true&&(ep (↑i:Int) l.length&&true&&true&&(aR ((aa l).getD ((↑i:Int).toNat*8+7) PV.bad)&&true&&true)))&&true)
 (.need (sI .i64 (IntKind.i64.wrap ((↑i:Int)+1))=sI IntKind.i64 (↑(i+1):Int))
 (.at (an Tryd.prog env 55 0 [.p (.ps l.length 8 (aa l)),sI .i64 (IntKind.i64.wrap (IntKind.i64.wrap (n+R (af ((aa l).getD ((↑i:Int).toNat*8+6) PV.bad)))+R (af ((aa l).getD ((↑i:Int).toNat*8+7) PV.bad)))),sI .i64 (↑(i+1):Int)] ([]) 0 29))))))
 (.must true
 (.out (.ret (sI .i64 n) []))))
theorem wY (l:List Ins) (n:Int) (i:Nat) (op r a b nn:Int) (tg:List Int) (ll:List Ins) (le:List Ins) (R:List PV→Int):grow Tryd.prog env (GG l n i op r a b nn tg ll le R) 1000000 true (an Tryd.prog env 55 0 ([aL l,sI IntKind.i64 n,sI IntKind.i64 (↑i:Int)]) ([]) 0 29) IX atEnd=ve l n i op r a b nn tg ll le R:=by kernel_rfl
noncomputable def GH (l:List Ins) (n:Int) (i:Nat) (op r a b nn:Int) (tg:List Int) (ll:List Ins) (le:List Ins) (R:List PV→Int):dR:=qD bk (LI l n i op r a b nn tg ll le R) [(56,0)] [(56,0,1)] [(56,0,2)] (LH l n i op r a b nn tg ll le R)
def IY:Sc:= .fin
noncomputable def vf (l:List Ins) (n:Int) (i:Nat) (_op _r _a _b _nn:Int) (_tg:List Int) (_ll:List Ins) (_le:List Ins) (R:List PV→Int):Tree:=
 (.test (decide ((↑i:Int)<(↑l.length:Int)))
 (.call ⟨56,[.p (.ps (aj ((aa l).getD ((↑i:Int).toNat*8+6) PV.bad)) (au ((aa l).getD ((↑i:Int).toNat*8+6) PV.bad)) (af ((aa l).getD ((↑i:Int).toNat*8+6) PV.bad)))],[],sI .i64 (R (af ((aa l).getD ((↑i:Int).toNat*8+6) PV.bad))),[]⟩
 (.call ⟨56,[.p (.ps (aj ((aa l).getD ((↑i:Int).toNat*8+7) PV.bad)) (au ((aa l).getD ((↑i:Int).toNat*8+7) PV.bad)) (af ((aa l).getD ((↑i:Int).toNat*8+7) PV.bad)))],[],sI .i64 (R (af ((aa l).getD ((↑i:Int).toNat*8+7) PV.bad))),[]⟩
 (.must (ep (↑i:Int) l.length&&true&&true&&(aR ((aa l).getD ((↑i:Int).toNat*8+6) PV.bad)&&true&&(ep (↑i:Int) l.length&&true&&true&&(aR ((aa l).getD ((↑i:Int).toNat*8+7) PV.bad)&&true&&true)))&&true)
 (.need (sI .i64 (IntKind.i64.wrap ((↑i:Int)+1))=sI IntKind.i64 (↑(i+1):Int))
 (.at (an Tryd.prog env 56 0 [.p (.ps l.length 8 (aa l)),sI .i64 (bif false then Min.min n (IntKind.i64.wrap (1+bif false then Min.min (R (af ((aa l).getD ((↑i:Int).toNat*8+6) PV.bad))) (R (af ((aa l).getD ((↑i:Int).toNat*8+7) PV.bad))) else Max.max (R (af ((aa l).getD ((↑i:Int).toNat*8+6) PV.bad))) (R (af ((aa l).getD ((↑i:Int).toNat*8+7) PV.bad))))) else Max.max n (IntKind.i64.wrap (1+bif false then Min.min (R (af ((aa l).getD ((↑i:Int).toNat*8+6) PV.bad))) (R (af ((aa l).getD ((↑i:Int).toNat*8+7) PV.bad))) else Max.max (R (af ((aa l).getD ((↑i:Int).toNat*8+6) PV.bad))) (R (af ((aa l).getD ((↑i:Int).toNat*8+7) PV.bad)))))),sI .i64 (↑(i+1):Int)] ([]) 0 28))))))
 (.must true
 (.out (.ret (sI .i64 n) []))))
theorem wZ (l:List Ins) (n:Int) (i:Nat) (op r a b nn:Int) (tg:List Int) (ll:List Ins) (le:List Ins) (R:List PV→Int):grow Tryd.prog env (GH l n i op r a b nn tg ll le R) 1000000 true (an Tryd.prog env 56 0 ([aL l,sI IntKind.i64 n,sI IntKind.i64 (↑i:Int)]) ([]) 0 28) IY atEnd=vf l n i op r a b nn tg ll le R:=by kernel_rfl
noncomputable def GI (l:List Ins) (i:Nat) (op r a b nn:Int) (tg:List Int) (ll:List Ins) (le:List Ins) (ok:Bool) (R:List PV→Bool):dR:=qD (LK l i op r a b nn tg ll le ok R) aW [(54,0)] [(54,0,1),(54,5,7),(54,5,16),(54,0,2)] [(54,5,2),(54,5,3),(54,5,9),(54,5,11),(54,5,18),(54,5,20)] (LJ l i op r a b nn tg ll le ok R)
def IZ:Sc:=(.fork (.fork (.lit (.lit .fin)) (.fork (.lit .fin) .fin)) .fin)
noncomputable def vg (l:List Ins) (i:Nat) (op r a b nn:Int) (tg:List Int) (ll:List Ins) (le:List Ins) (ok:Bool) (R:List PV→Bool):Tree:=
 (.test (decide ((↑i:Int)<(↑l.length:Int)))
 (.must (ep (↑i:Int) l.length&&true&&true)
 (.must (isInt IntKind.i64 ((aa l).getD ((↑i:Int).toNat*8) PV.bad)&&(isInt IntKind.i64 ((aa l).getD ((↑i:Int).toNat*8+1) PV.bad)&&(isInt IntKind.u32 ((aa l).getD ((↑i:Int).toNat*8+1+1) PV.bad)&&(isInt IntKind.u32 ((aa l).getD ((↑i:Int).toNat*8+1+1+1) PV.bad)&&(isInt IntKind.i32 ((aa l).getD ((↑i:Int).toNat*8+1+1+1+1) PV.bad)&&(aR ((aa l).getD ((↑i:Int).toNat*8+1+1+1+1+1) PV.bad)&&(aR ((aa l).getD ((↑i:Int).toNat*8+1+1+1+1+1+1) PV.bad)&&(aR ((aa l).getD ((↑i:Int).toNat*8+1+1+1+1+1+1+1) PV.bad)&&true)))))))&&true)
 (.need (AV.agg [sI .i64 (aA ((aa l).getD ((↑i:Int).toNat*8) PV.bad)),sI .i64 (aA ((aa l).getD ((↑i:Int).toNat*8+1) PV.bad)),sI .u32 (aA ((aa l).getD ((↑i:Int).toNat*8+1+1) PV.bad)),sI .u32 (aA ((aa l).getD ((↑i:Int).toNat*8+1+1+1) PV.bad)),sI .i32 (aA ((aa l).getD ((↑i:Int).toNat*8+1+1+1+1) PV.bad)),AV.p (PV.ps (aj ((aa l).getD ((↑i:Int).toNat*8+1+1+1+1+1) PV.bad)) (au ((aa l).getD ((↑i:Int).toNat*8+1+1+1+1+1) PV.bad)) (af ((aa l).getD ((↑i:Int).toNat*8+1+1+1+1+1) PV.bad))),AV.p (PV.ps (aj ((aa l).getD ((↑i:Int).toNat*8+1+1+1+1+1+1) PV.bad)) (au ((aa l).getD ((↑i:Int).toNat*8+1+1+1+1+1+1) PV.bad)) (af ((aa l).getD ((↑i:Int).toNat*8+1+1+1+1+1+1) PV.bad))),AV.p (PV.ps (aj ((aa l).getD ((↑i:Int).toNat*8+1+1+1+1+1+1+1) PV.bad)) (au ((aa l).getD ((↑i:Int).toNat*8+1+1+1+1+1+1+1) PV.bad)) (af ((aa l).getD ((↑i:Int).toNat*8+1+1+1+1+1+1+1) PV.bad)))]=iV op r a b nn tg ll le)
 (.call ⟨76,[.agg [sI .i64 op,sI .i64 r,sI .u32 a,sI .u32 b,sI .i32 nn,.p (.ps tg.length 1 (bL IntKind.u32 tg)),.p (.ps ll.length 8 (aa ll)),.p (.ps le.length 8 (aa le))]],[],.p (.sc (.bool ok)),[]⟩
 (.test (!ok)
 (.out (.ret (sB false) []))
 (.must (ep (↑i:Int) l.length&&true&&true)
 (.must (aR ((aa l).getD ((↑i:Int).toNat*8+6) PV.bad)&&true)
 (.need (AV.p (PV.ps (aj ((aa l).getD ((↑i:Int).toNat*8+6) PV.bad)) (au ((aa l).getD ((↑i:Int).toNat*8+6) PV.bad)) (af ((aa l).getD ((↑i:Int).toNat*8+6) PV.bad)))=aL ll)
 (.call ⟨54,[.p (.ps ll.length 8 (aa ll))],[],.p (.sc (.bool (R (aa ll)))),[]⟩
 (.test (!R (aa ll))
 (.out (.ret (sB false) []))
 (.must (ep (↑i:Int) l.length&&true&&true)
 (.must (aR ((aa l).getD ((↑i:Int).toNat*8+7) PV.bad)&&true)
 (.need (AV.p (PV.ps (aj ((aa l).getD ((↑i:Int).toNat*8+7) PV.bad)) (au ((aa l).getD ((↑i:Int).toNat*8+7) PV.bad)) (af ((aa l).getD ((↑i:Int).toNat*8+7) PV.bad)))=aL le)
 (.call ⟨54,[.p (.ps le.length 8 (aa le))],[],.p (.sc (.bool (R (aa le)))),[]⟩
 (.test (!R (aa le))
 (.out (.ret (sB false) []))
 (.need (sI .i64 (IntKind.i64.wrap ((↑i:Int)+1))=sI IntKind.i64 (↑(i+1):Int))
 (.at (an Tryd.prog env 54 0 [.p (.ps l.length 8 (aa l)),sI .i64 (↑(i+1):Int)] ([]) 0 34))))))))))))))))))
 (.out (.ret (sB true) [])))
theorem w8 (l:List Ins) (i:Nat) (op r a b nn:Int) (tg:List Int) (ll:List Ins) (le:List Ins) (ok:Bool) (R:List PV→Bool):grow Tryd.prog env (GI l i op r a b nn tg ll le ok R) 1000000 true (an Tryd.prog env 54 0 ([aL l,sI IntKind.i64 (↑i:Int)]) ([]) 0 34) IZ atEnd=vg l i op r a b nn tg ll le ok R:=by kernel_rfl
noncomputable def GJ (l:List Ins) (i:Nat) (op r a b nn:Int) (tg:List Int) (ll:List Ins) (le:List Ins) (ok:Bool) (R:List PV→Bool):dR:=qD (LK l i op r a b nn tg ll le ok R) aW [(57,0)] [(57,0,1),(57,5,8),(57,5,16),(57,0,2)] [(57,5,2),(57,5,4),(57,5,10),(57,5,12),(57,5,18),(57,5,20)] (LJ l i op r a b nn tg ll le ok R)
def I0:Sc:=(.fork (.fork (.lit (.lit .fin)) (.fork (.lit .fin) .fin)) .fin)
noncomputable def vh (l:List Ins) (i:Nat) (_op _r _a _b _nn:Int) (tg:List Int) (ll:List Ins) (le:List Ins) (_ok:Bool) (R:List PV→Bool):Tree:=
 (.test (decide ((↑i:Int)<(↑l.length:Int)))
 (.must (ep (↑i:Int) l.length&&true&&true)
 (.must (aR ((aa l).getD ((↑i:Int).toNat*8+5) PV.bad)&&true)
 (.need (AV.p (PV.ps (aj ((aa l).getD ((↑i:Int).toNat*8+5) PV.bad)) (au ((aa l).getD ((↑i:Int).toNat*8+5) PV.bad)) (af ((aa l).getD ((↑i:Int).toNat*8+5) PV.bad)))=AV.p (PV.ps tg.length 1 (bL IntKind.u32 tg)))
 (.test (decide ((↑tg.length:Int)>16384))
 (.out (.ret (sB true) []))
 (.must (ep (↑i:Int) l.length&&true&&true)
 (.must (aR ((aa l).getD ((↑i:Int).toNat*8+6) PV.bad)&&true)
 (.need (AV.p (PV.ps (aj ((aa l).getD ((↑i:Int).toNat*8+6) PV.bad)) (au ((aa l).getD ((↑i:Int).toNat*8+6) PV.bad)) (af ((aa l).getD ((↑i:Int).toNat*8+6) PV.bad)))=aL ll)
 (.call ⟨57,[.p (.ps ll.length 8 (aa ll))],[],.p (.sc (.bool (R (aa ll)))),[]⟩
 (.test (R (aa ll))
 (.out (.ret (sB true) []))
 (.must (ep (↑i:Int) l.length&&true&&true)
 (.must (aR ((aa l).getD ((↑i:Int).toNat*8+7) PV.bad)&&true)
 (.need (AV.p (PV.ps (aj ((aa l).getD ((↑i:Int).toNat*8+7) PV.bad)) (au ((aa l).getD ((↑i:Int).toNat*8+7) PV.bad)) (af ((aa l).getD ((↑i:Int).toNat*8+7) PV.bad)))=aL le)
 (.call ⟨57,[.p (.ps le.length 8 (aa le))],[],.p (.sc (.bool (R (aa le)))),[]⟩
 (.test (R (aa le))
 (.out (.ret (sB true) []))
 (.need (sI .i64 (IntKind.i64.wrap ((↑i:Int)+1))=sI IntKind.i64 (↑(i+1):Int))
 (.at (an Tryd.prog env 57 0 [.p (.ps l.length 8 (aa l)),sI .i64 (↑(i+1):Int)] ([]) 0 33)))))))))))))))))
 (.out (.ret (sB false) [])))
theorem w9 (l:List Ins) (i:Nat) (op r a b nn:Int) (tg:List Int) (ll:List Ins) (le:List Ins) (ok:Bool) (R:List PV→Bool):grow Tryd.prog env (GJ l i op r a b nn tg ll le ok R) 1000000 true (an Tryd.prog env 57 0 ([aL l,sI IntKind.i64 (↑i:Int)]) ([]) 0 33) I0 atEnd=vh l i op r a b nn tg ll le ok R:=by kernel_rfl
noncomputable def GK (l:List Ins) (a:Bool) (n d:Int) (t:Bool):dR:=cr (MF l a n d t) aW [] [(33,0,0),(33,4,4),(33,4,9),(33,0,1)] []
def I1:Sc:=(.fork .fin (.fork (.lit (.lit .fin)) (.fork (.lit .fin) .fin)))
noncomputable def Ea (l:List Ins) (a:Bool) (n d:Int) (t:Bool):Tree:=
 (.call ⟨54,[.p (.ps l.length 8 (aa l))],[],.p (.sc (.bool a)),[]⟩
 (.test (!a)
 (.out (.ret (sI .i64 2) []))
 (.call ⟨55,[.p (.ps l.length 8 (aa l))],[],sI .i64 n,[]⟩
 (.test (decide (n>262144))
 (.out (.ret (sI .i64 141) []))
 (.call ⟨56,[.p (.ps l.length 8 (aa l))],[],sI .i64 d,[]⟩
 (.test (decide (d>900))
 (.out (.ret (sI .i64 141) []))
 (.call ⟨57,[.p (.ps l.length 8 (aa l))],[],.p (.sc (.bool t)),[]⟩
 (.test (t)
 (.out (.ret (sI .i64 141) []))
 (.out (.ret (sI .i64 0) []))))))))))
theorem CJ (l:List Ins) (a:Bool) (n d:Int) (t:Bool):bC Tryd.prog env (GK l a n d t) 1000000 33 ([aL l]) ([]) I1=Ea l a n d t:=by kernel_rfl
theorem AN {p:Ins→Bool} (hp : ∀x:Ins,aB Tryd.prog env 76 [AA x] [] (sB (p x)) []) : ∀l:List Ins,bf l≤eX→aB Tryd.prog env 54 [aL l] [] (sB (mM p l)) []:=by
 refine ko fun l IH hb=>ak names (CF l) ?_
 have loop : ∀(r k:Nat),k+r=l.length→Am.Good Tryd.prog env (an Tryd.prog env 54 0 [aL l,sI .i64 k] [] 0 34) (.ret (sB (mM p (l.drop k))) []):=by
  intro r
  induction r with
  |zero=>
   intro k hk
   refine aq names (w8 l k 0 0 0 0 0 [] [] [] true (fun _=>true)) ?_
   have h2 : ¬((k:Int)<l.length):=by omega
   rw[List.drop_eq_nil_of_le (by omega)]
   simp only[vg,Tree.ok,mM]
   exact⟨fun h=>absurd (by simpa using h) h2,fun _=>trivial⟩
  |succ r ih=>
   intro k hk
   have j8:k<l.length:=by omega
   have wU:l[k]? = some l[k]:=List.getElem?_eq_getElem j8
   have hmem:l[k]∈l:=List.getElem_mem j8
   rw[show l.drop k=l[k]::l.drop (k+1) from List.drop_eq_getElem_cons j8]
   have hlen:=dz l
   have rP:eX=1000000000000:=rfl
   generalize l[k]=x at *
   have kq:=IH x hmem
   have hpx:=hp x
   have BS:=mK hmem
   obtain⟨op,rs,a,b,nn,tg,ll,le⟩:=x
   simp only[Ins.l,Ins.e,kB] at kq BS
   obtain⟨c0,c1,c2,c3,c4,c5,c6,c7⟩:=dS wU
   have w1:IntKind.i64.wrap ((k:Int)+1)=((k+1:Nat):Int):=by rw[cC (by omega) (by omega)];rfl
   have qQ:(k:Int)<(l.length:Int):=by omega
   refine aq names (w8 l k op rs a b nn tg ll le (p (.mk op rs a b nn tg ll le)) (cZ true (mM p))) ?_
   simp only[vg,Tree.ok,Int.toNat_natCast,Nat.add_assoc,Nat.reduceAdd,c0,c1,c2,c3,c4,c5,c6,c7,isInt,aR,aA,aj,au,af,ep,w1,eZ,mM,Iy]
   refine⟨fun _=>⟨by simp[qQ],by simp,rfl,hpx,fun h=> ?_,fun h=>⟨by simp[qQ],rfl,(by trivial),kq.1 (by omega),fun h1=> ?_,fun h1=>⟨by simp[qQ],rfl,(by trivial),kq.2 (by omega),fun h2=> ?_,fun h2=>⟨(by trivial),?_⟩⟩⟩⟩,fun h=>absurd qQ (by simpa using h)⟩
   · rw[Bool.not_eq_true'] at h;rw[h];rfl
   · rw[Bool.not_eq_true'] at h1;rw[h1,Bool.false_and,Bool.and_false,Bool.false_and]
   · rw[Bool.not_eq_true'] at h2;rw[h2,Bool.and_false,Bool.and_false,Bool.false_and]
   · rw[Bool.not_eq_false'] at h h1 h2
     rw[h,h1,h2]
     exact ih (k+1) (by omega)
 have h:=loop l.length 0 (by omega)
 rw[List.drop_zero] at h
 exact h
theorem yD : ∀l:List Ins,bf l≤eX→aB Tryd.prog env 57 [aL l] [] (sB (decide (16384<eW l))) []:=by
 refine ko fun l IH hb=>ak names (CI l) ?_
 have loop : ∀(r k:Nat),k+r=l.length→Am.Good Tryd.prog env (an Tryd.prog env 57 0 [aL l,sI .i64 k] [] 0 33) (.ret (sB (decide (16384<eW (l.drop k)))) []):=by
  intro r
  induction r with
  |zero=>
   intro k hk
   refine aq names (w9 l k 0 0 0 0 0 [] [] [] true (fun _=>true)) ?_
   have h2 : ¬((k:Int)<l.length):=by omega
   rw[List.drop_eq_nil_of_le (by omega)]
   simp only[vh,Tree.ok,eW]
   exact⟨fun h=>absurd (by simpa using h) h2,fun _=>rfl⟩
  |succ r ih=>
   intro k hk
   have j8:k<l.length:=by omega
   have wU:l[k]? = some l[k]:=List.getElem?_eq_getElem j8
   have hmem:l[k]∈l:=List.getElem_mem j8
   rw[show l.drop k=l[k]::l.drop (k+1) from List.drop_eq_getElem_cons j8]
   have hlen:=dz l
   have rP:eX=1000000000000:=rfl
   generalize l[k]=x at *
   have kq:=IH x hmem
   have BS:=mK hmem
   obtain⟨op,rs,a,b,nn,tg,ll,le⟩:=x
   simp only[Ins.l,Ins.e,kB] at kq BS
   obtain⟨c0,c1,c2,c3,c4,c5,c6,c7⟩:=dS wU
   have w1:IntKind.i64.wrap ((k:Int)+1)=((k+1:Nat):Int):=by rw[cC (by omega) (by omega)];rfl
   have qQ:(k:Int)<(l.length:Int):=by omega
   refine aq names (w9 l k op rs a b nn tg ll le true (cZ true fun l=>decide (16384<eW l))) ?_
   simp only[vh,Tree.ok,Int.toNat_natCast,c5,c6,c7,aR,aj,au,af,ep,w1,eZ]
   have hT:eW (.mk op rs a b nn tg ll le::l.drop (k+1))=max (max tg.length (max (eW ll) (eW le))) (eW (l.drop (k+1))):=by simp only[eW,Ci]
   generalize eW (.mk op rs a b nn tg ll le::l.drop (k+1))=T at *
   have out:16384<T→Out.ret (.p (.sc (.bool true))) []=Out.ret (sB (decide (16384<T))) []:=fun hq=>by rw[decide_eq_true hq]
   refine⟨fun _=>⟨by simp[qQ],rfl,(by trivial),fun h=>out ?_,fun h=>⟨by simp[qQ],rfl,(by trivial),kq.1 (by omega),fun h1=>out ?_,fun h1=>⟨by simp[qQ],rfl,(by trivial),kq.2 (by omega),fun h2=>out ?_,fun h2=>⟨(by trivial),?_⟩⟩⟩⟩,fun h=>absurd qQ (by simpa using h)⟩
   · rw[decide_eq_true_eq] at h;omega
   · rw[decide_eq_true_eq] at h1;omega
   · rw[decide_eq_true_eq] at h2;omega
   · rw[decide_eq_false_iff_not] at h h1 h2
     have:=ih (k+1) (by omega)
     rw[show decide (16384<T)=decide (16384<eW (l.drop (k+1))) from Bool.eq_iff_iff.2 (by rw[decide_eq_true_eq,decide_eq_true_eq];omega)]
     exact this
 have h:=loop l.length 0 (by omega)
 rw[List.drop_zero] at h
 exact h
theorem xd : ∀l:List Ins,bf l≤eX→aB Tryd.prog env 55 [aL l] [] (sI .i64 (bf l)) []:=by
 refine ko fun l IH hb=>ak names (CG l) ?_
 have loop : ∀(r k n:Nat),k+r=l.length→n+bf (l.drop k)≤2*eX+(l.drop k).length→Am.Good Tryd.prog env (an Tryd.prog env 55 0 [aL l,sI .i64 n,sI .i64 k] [] 0 29) (.ret (sI .i64 (n+bf (l.drop k)-(l.drop k).length:Int)) []):=by
  intro r
  induction r with
  |zero=>
   intro k n hk hn
   refine aq names (wY l n k 0 0 0 0 0 [] [] [] (fun _=>0)) ?_
   have h2 : ¬((k:Int)<l.length):=by omega
   rw[List.drop_eq_nil_of_le (by omega)]
   simp only[ve,Tree.ok,bf]
   exact⟨fun h=>absurd (by simpa using h) h2,fun _=>⟨(by trivial),by simp⟩⟩
  |succ r ih=>
   intro k n hk
   have j8:k<l.length:=by omega
   have wU:l[k]? = some l[k]:=List.getElem?_eq_getElem j8
   have hmem:l[k]∈l:=List.getElem_mem j8
   rw[show l.drop k=l[k]::l.drop (k+1) from List.drop_eq_getElem_cons j8]
   have hlen:=dz l
   have iO:=dz (l.drop (k+1))
   have rP:eX=1000000000000:=rfl
   generalize l[k]=x at *
   have kq:=IH x hmem
   have BS:=mK hmem
   obtain⟨op,rs,a,b,nn,tg,ll,le⟩:=x
   simp only[Ins.l,Ins.e,kB,bf,List.length_cons] at kq BS ⊢
   intro hn
   obtain⟨c0,c1,c2,c3,c4,c5,c6,c7⟩:=dS wU
   have w1:IntKind.i64.wrap ((k:Int)+1)=((k+1:Nat):Int):=by rw[cC (by omega) (by omega)];rfl
   have w2:IntKind.i64.wrap ((n:Int)+bf ll)=((n+bf ll:Nat):Int):=by rw[cC (by omega) (by omega)];rfl
   have w3:IntKind.i64.wrap (((n+bf ll:Nat):Int)+bf le)=((n+bf ll+bf le:Nat):Int):=by rw[cC (by omega) (by omega)];rfl
   have qQ:(k:Int)<(l.length:Int):=by omega
   refine aq names (wY l n k op rs a b nn tg ll le (cZ 0 fun l=>(bf l:Int))) ?_
   simp only[ve,Tree.ok,Int.toNat_natCast,c6,c7,aR,aj,au,af,ep,w1,eZ,w2,w3]
   have:=ih (k+1) (n+bf ll+bf le) (by omega) (by omega)
   refine⟨fun _=>⟨kq.1 (by omega),kq.2 (by omega),by simp[qQ],(by trivial),?_⟩,fun h=>absurd qQ (by simpa using h)⟩
   rw[show((n:Int)+((1+bf ll+bf le+bf (l.drop (k+1)):Nat):Int)-(((l.drop (k+1)).length+1:Nat):Int))=((n+bf ll+bf le:Nat):Int)+bf (l.drop (k+1))-(l.drop (k+1)).length by omega]
   exact this
 have h:=loop l.length 0 l.length (by omega) (by rw[List.drop_zero];have rP:eX=1000000000000:=rfl;omega)
 rw[List.drop_zero,show((l.length:Int)+bf l-l.length)=bf l by omega] at h
 exact h
theorem CK (l:List Ins):bR 2 l=if l=[] then 0 else bR 1 l+1:=by
 split
 · rename_i h;rw[h];rfl
 · rename_i h;exact iJ 1 l h
theorem CL (op rs a b nn:Int) (tg:List Int) (ll le:List Ins):vc 1 (.mk op rs a b nn tg ll le)=1+max (bR 1 ll) (bR 1 le):=by
 simp only[vc,Nat.reduceAdd,CK]
 have z:bR 1 ([]:List Ins)=0:=rfl
 split<;>split<;>simp_all<;>omega
theorem yE : ∀l:List Ins,bf l≤eX→aB Tryd.prog env 56 [aL l] [] (sI .i64 (bR 1 l)) []:=by
 refine ko fun l IH hb=>ak names (CH l) ?_
 have loop : ∀(r k n:Nat),k+r=l.length→Am.Good Tryd.prog env (an Tryd.prog env 56 0 [aL l,sI .i64 n,sI .i64 k] [] 0 28) (.ret (sI .i64 (max n (bR 1 (l.drop k)):Nat)) []):=by
  intro r
  induction r with
  |zero=>
   intro k n hk
   refine aq names (wZ l n k 0 0 0 0 0 [] [] [] (fun _=>0)) ?_
   have h2 : ¬((k:Int)<l.length):=by omega
   rw[List.drop_eq_nil_of_le (by omega)]
   simp only[vf,Tree.ok,bR,Nat.max_zero]
   exact⟨fun h=>absurd (by simpa using h) h2,fun _=>⟨(by trivial),(by trivial)⟩⟩
  |succ r ih=>
   intro k n hk
   have j8:k<l.length:=by omega
   have wU:l[k]? = some l[k]:=List.getElem?_eq_getElem j8
   have hmem:l[k]∈l:=List.getElem_mem j8
   rw[show l.drop k=l[k]::l.drop (k+1) from List.drop_eq_getElem_cons j8]
   have hlen:=dz l
   have rP:eX=1000000000000:=rfl
   generalize l[k]=x at *
   have kq:=IH x hmem
   have BS:=mK hmem
   obtain⟨op,rs,a,b,nn,tg,ll,le⟩:=x
   simp only[Ins.l,Ins.e,kB] at kq BS
   have d1:=jO 1 ll
   have d2:=jO 1 le
   obtain⟨c0,c1,c2,c3,c4,c5,c6,c7⟩:=dS wU
   have w1:IntKind.i64.wrap ((k:Int)+1)=((k+1:Nat):Int):=by rw[cC (by omega) (by omega)];rfl
   have m1:max (bR 1 ll:Int) (bR 1 le:Int)=((max (bR 1 ll) (bR 1 le):Nat):Int):=by omega
   have w2:IntKind.i64.wrap (1+((max (bR 1 ll) (bR 1 le):Nat):Int))=((1+max (bR 1 ll) (bR 1 le):Nat):Int):=by rw[cC (by omega) (by omega)];rfl
   have m2:max (n:Int) ((1+max (bR 1 ll) (bR 1 le):Nat):Int)=((max n (1+max (bR 1 ll) (bR 1 le)):Nat):Int):=by omega
   have qQ:(k:Int)<(l.length:Int):=by omega
   refine aq names (wZ l n k op rs a b nn tg ll le (cZ 0 fun l=>(bR 1 l:Int))) ?_
   simp only[vf,Tree.ok,Int.toNat_natCast,c6,c7,aR,aj,au,af,ep,w1,eZ,cond_false,m1,w2,m2]
   have:=ih (k+1) (max n (1+max (bR 1 ll) (bR 1 le))) (by omega)
   refine⟨fun _=>⟨kq.1 (by omega),kq.2 (by omega),by simp[qQ],(by trivial),?_⟩,fun h=>absurd qQ (by simpa using h)⟩
   rw[show max n (bR 1 (.mk op rs a b nn tg ll le::l.drop (k+1)))=max (max n (1+max (bR 1 ll) (bR 1 le))) (bR 1 (l.drop (k+1))) by simp only[bR,CL];omega]
   exact this
 have h:=loop l.length 0 0 (by omega)
 rw[List.drop_zero,Nat.zero_max] at h
 exact h
theorem xe {p:Ins→Bool} (hp : ∀x:Ins,aB Tryd.prog env 76 [AA x] [] (sB (p x)) []) (l:List Ins) (h:bf l≤eX):aB Tryd.prog env 33 [aL l] [] (sI .i64 (bI p l)) []:=by
 refine ak names (CJ l (mM p l) (bf l) (bR 1 l) (decide (16384<eW l))) ⟨AN hp l h,fun h0=> ?_,fun h0=>⟨xd l h,fun h1=> ?_,fun h1=>⟨yE l h,fun h2=> ?_,fun h2=>⟨yD l h,fun h3=> ?_,fun h3=> ?_⟩⟩⟩⟩
 · rw[Bool.not_eq_true'] at h0
   rw[bI,if_pos h0];rfl
 all_goals
  rw[Bool.not_eq_false'] at h0
  simp only[decide_eq_true_eq,decide_eq_false_iff_not] at *
  rw[bI,if_neg (by rw[h0];simp)]
 · rw[if_pos (by omega)];rfl
 · rw[if_pos (by omega)];rfl
 · rw[if_pos (by omega)];rfl
 · rw[if_neg (by omega)];rfl
end Go.Proofs.YtddfgnmjecogdaaDoor.N
end
section
namespace Go.Am
open Go.RowKit
section
variable {P:Program} {E:Env} {g:Gh} {m:Mem} {w:World}
theorem Rel.Eb (h:Rel g m w) {i:Nat} {l l':List AV} (hb:m[i]? = some (.ac l)) (hl : ∀vs,bM g w l vs→bM g w l' vs) :
  Rel g (m.set i (.ac l')) w∧bO g m w g (m.set i (.ac l')) w:=by
 have own : ∀(j:Nat) (x:av),(m.set i (.ac l'))[j]? = some x→x.bG=true → ∃y:av,m[j]? = some y∧y.bG=true:=fun j x hj ho=>by
  rcases aC hj with⟨rfl,_⟩ | ⟨_,q⟩
  · exact⟨_,hb,rfl⟩
  · exact⟨x,q,ho⟩
 refine⟨⟨fun j hj=>h.pF j (by simpa using hj),fun j hj=> ?_,fun j x cs hj hx=> ?_,fun j c hj hc=> ?_,fun j q x x' c hj hq ho ho' hc cY=> ?_,h.there,fun j k1 l1 hj=> ?_⟩,
  ⟨Nat.le_refl _,fun _ _ _=>rfl,fun _ _ p=>⟨p,rfl⟩,fun _ _ p=> .inl p,fun c ho=> ?_,rfl,rfl,rfl⟩⟩
 · rcases aC hj with⟨_,q⟩ | ⟨_,q⟩
   · cases q
   · exact h.free j q
 · rcases aC hj with⟨rfl,rfl⟩ | ⟨_,q⟩
   · simp only[av.cells?,Option.some.injEq] at hx
     subst hx
     obtain⟨c',cs',e,q,k1,k2,k3,k4,k5⟩:=h.cells _ _ _ hb rfl
     exact⟨c',cs',e,q,k1,k2,k3,⟨hl _ k4.1,k4.2⟩,k5⟩
   · exact h.cells j x cs q hx
 · rcases aC hj with⟨_,q⟩ | ⟨_,q⟩
   · cases q
   · exact h.tok j c q hc
 · obtain⟨y,y1,y2⟩:=own j x hj ho
   obtain⟨z,z1,z2⟩:=own q x' hq ho'
   exact h.inj j q y z c y1 z1 y2 z2 hc cY
 · rcases aC hj with⟨_,q⟩ | ⟨_,q⟩
   · cases q
   · exact h.obs j k1 l1 q
 · obtain⟨j,x,hj,hx,hc⟩:=ho
   obtain⟨y,y1,y2⟩:=own j x hj hx
   exact .inl ⟨j,y,y1,y2,hc⟩
def Gh.jM (g:Gh) (b aF:Nat):Gh:=match g.aN b with
 |some c=>g.put aF c (g.lo b) (g.hi b)
 |none=>g
theorem Gh.tH {b aF:Nat} (hf:g.aN aF=none):Ext g w (g.jM b aF) w:=by
 unfold Gh.jM
 cases hc:g.aN b with
 |none=>exact Ext.refl g w
 |some c=>
  refine⟨fun j c' hj=> ?_,fun _ _ p=>⟨p,rfl⟩⟩
  have:j≠aF:=fun e=>by subst e;rw[hf] at hj;cases hj
  simp[Gh.put,this,hj]
theorem Rel.Ec (h:Rel g m w) {b aF:Nat} (hb:m[b]? = some .tok) (hn:m[aF]? = some .free) :
  Rel (g.jM b aF) ((m.set b .dead).set aF .tok) w∧bO g m w (g.jM b aF) ((m.set b .dead).set aF .tok) w:=by
 have hf:=h.free aF hn
 have ext:=Gh.tH (g:=g) (w:=w) (b:=b) hf
 have hne:b≠aF:=fun e=>by subst e;rw[hb] at hn;cases hn
 cases hc:g.aN b with
 |none=>
  obtain⟨k1,k2⟩:=h.kill b
  have hn':(m.set b .dead)[aF]? = some .free:=by rw[List.getElem?_set_ne hne];exact hn
  obtain⟨t1,t2⟩:=k1.oN hn'
  have e:g.jM b aF=g:=by unfold Gh.jM;rw[hc]
  rw[e]
  exact⟨t1,k2.trans t2⟩
 |some c=>
  have em:g.jM b aF=g.put aF c (g.lo b) (g.hi b):=by unfold Gh.jM;rw[hc]
  rw[em] at ext ⊢
  have get : ∀j x,((m.set b .dead).set aF .tok)[j]? = some x→(j=aF∧x = .tok)∨x = .dead∨(j≠aF∧j≠b∧m[j]? = some x):=by
   intro j x hj
   rcases aC hj with⟨e,q⟩ | ⟨hjn,q⟩
   · exact .inl ⟨e,q⟩
   · rcases aC q with⟨_,q⟩ | ⟨l7,q⟩
     · exact .inr (.inl q)
     · exact .inr (.inr ⟨hjn,l7,q⟩)
  have bo : ∀j,j≠aF→(g.put aF c (g.lo b) (g.hi b)).aN j=g.aN j:=fun j hj=>by simp[Gh.put,hj]
  have bi:(g.put aF c (g.lo b) (g.hi b)).aN aF=some c:=by simp[Gh.put]
  have ne : ∀j x c',j≠b→m[j]? = some x→x.bG=true→g.aN j=some c'→c'≠c:=fun j x c' l7 hj ho cY e=>l7 (h.inj j b x _ c hj hb ho rfl (e▸cY) hc)
  refine⟨⟨fun j hj=> ?_,fun j hj=> ?_,fun j x kk hj hk=> ?_,fun j c' hj cY=> ?_,fun j q x x' c' hj hk ho ho' dO dY=> ?_,h.there,fun j kk ll hj=> ?_⟩,⟨Nat.le_refl _,fun _ _ _=>rfl,fun _ _ p=>⟨p,rfl⟩,fun _ _ p=> .inl p,fun c' ho=> ?_,rfl,rfl,rfl⟩⟩
  · have hl:=aM hn
    simp only[List.length_set] at hj
    rw[bo j (by omega)];exact h.pF j hj
  · rcases get j _ hj with⟨_,e⟩ | e | ⟨hjn,_,e⟩
    · cases e
    · cases e
    · rw[bo j hjn];exact h.free j e
  · rcases get j _ hj with⟨_,e⟩ | e | ⟨hjn,l7,e⟩
    · subst e;cases hk
    · subst e;cases hk
    · obtain⟨c1,cs1,e1,n1,q1,q2,q3,q4,q5⟩:=h.cells j x kk e hk
      exact⟨c1,cs1,e1,n1,(bo j hjn).trans q1,q2,q3,q4.mono ext,q5⟩
  · rcases get j _ hj with⟨rfl,e⟩ | e | ⟨hjn,l7,e⟩
    · rw[bi] at cY
      cases cY
      obtain⟨cs1,e1,n1,q2,q3,q4,q5⟩:=h.tok b c hb hc
      have e1:(g.put j c (g.lo b) (g.hi b)).hi j=g.hi b:=by simp[Gh.put]
      have e2:(g.put j c (g.lo b) (g.hi b)).lo j=g.lo b:=by simp[Gh.put]
      rw[e1,e2]
      exact⟨cs1,_,n1,q2,q3,q4,q5⟩
    · cases e
    · rw[bo j hjn] at cY
      obtain⟨cs1,e1,n1,q2,q3,q4,q5⟩:=h.tok j c' e cY
      have e1:(g.put aF c (g.lo b) (g.hi b)).hi j=g.hi j:=by simp[Gh.put,hjn]
      have e2:(g.put aF c (g.lo b) (g.hi b)).lo j=g.lo j:=by simp[Gh.put,hjn]
      rw[e1,e2]
      exact⟨cs1,_,n1,q2,q3,q4,q5⟩
  · rcases get j _ hj with⟨rfl,e⟩ | e | ⟨hjn,l7,e⟩
    · rcases get q _ hk with⟨rfl,_⟩ | e' | ⟨Fc,HL,e'⟩
      · rfl
      · subst e';simp[av.bG] at ho'
      · rw[bi] at dO;cases dO
        rw[bo q Fc] at dY
        exact absurd rfl (ne q x' _ HL e' ho' dY)
    · subst e;simp[av.bG] at ho
    · rcases get q _ hk with⟨rfl,_⟩ | e' | ⟨Fc,HL,e'⟩
      · rw[bi] at dY;cases dY
        rw[bo j hjn] at dO
        exact absurd rfl (ne j x _ l7 e ho dO)
      · subst e';simp[av.bG] at ho'
      · rw[bo j hjn] at dO;rw[bo q Fc] at dY
        exact h.inj j q x x' c' e e' ho ho' dO dY
  · rcases get j _ hj with⟨rfl,e⟩ | e | ⟨hjn,l7,e⟩
    · cases e
    · cases e
    · obtain⟨c1,o1,vs1,q1,q2,q3,q4,q5,q6⟩:=h.obs j kk ll e
      exact⟨c1,o1,vs1,(bo j hjn).trans q1,q2,q3.mono ext,q4,q5,by simpa[Gh.put,hjn] using q6⟩
  · obtain⟨j,x,hj,hx,xz⟩:=ho
    rcases get j _ hj with⟨rfl,e⟩ | e | ⟨hjn,l7,e⟩
    · rw[bi] at xz;cases xz
      exact .inl ⟨b,_,hb,rfl,hc⟩
    · subst e;simp[av.bG] at hx
    · rw[bo j hjn] at xz
      exact .inl ⟨j,x,e,hx,xz⟩
theorem Good.CM {c:bD} {len sz:Nat} {X:List PV} {r:Mem} {o:Out} (hm:c.st.mem = .tok :: .ac [.os (some 0) len sz X]::r) (hc:yz c=true)
  (h:Good P E {c with st:={c.st with mem:= .dead :: .ac [.os (some (r.length+2)) len sz X]::r++[.tok]}} o):Good P E c o:=by
 refine Good.aH (fun g fr w hr cs=> ?_) h
 obtain⟨f,todo,st⟩:=c
 obtain⟨tm,nt,mem,fix,bq,aZ⟩:=st
 dsimp only at hm
 subst hm
 match todo,hc with
 |.code i x::k,_=>
  obtain⟨b,a,q1,q2,q3,q4,q5,q6⟩:=hr
  have yl:Rel g (.tok :: .ac [.os (some 0) len sz X]::r) w:=q5.rel
  obtain⟨f1,f2⟩:=yl.bu 1
  have hb:((.tok :: .ac [.os (some 0) len sz X]::r:Mem)++bu 1)[0]? = some .tok:=rfl
  have hlen:(.tok :: .ac [.os (some 0) len sz X]::r:Mem).length=r.length+2:=rfl
  have hn:((.tok :: .ac [.os (some 0) len sz X]::r:Mem)++bu 1)[r.length+2]? = some .free:=by
   rw[List.getElem?_append_right (by rw[hlen];exact Nat.le_refl _),hlen,Nat.sub_self];rfl
  have hf:=f1.free _ hn
  have ext:=Gh.tH (g:=g) (w:=w) (b:=0) hf
  obtain⟨m1,m2⟩:=f1.Ec hb hn
  have Fm:((((.tok :: .ac [.os (some 0) len sz X]::r:Mem)++bu 1).set 0 .dead).set (r.length+2) .tok)[1]? = some (.ac [.os (some 0) len sz X]):=by
   rw[List.getElem?_set_ne (by omega)];rfl
  obtain⟨z1,z2⟩:=m1.Eb Fm (l':=[.os (some (r.length+2)) len sz X]) fun vs hv=>by
   match vs,hv with
   |[v],hv=>
    refine⟨?_,trivial⟩
    have hv1:VA (g.jM 0 (r.length+2)) w (.os (some 0) len sz X) v:=hv.1
    cases hv1 with
    |os _ _ _ _ a' cap h' hr'=>
     refine .os _ _ _ _ a' cap h' ?_
     rcases hr' with hr' | ⟨t,b',o',e1,e2,e3,e4,e5,e6⟩
     · exact .inl hr'
     · cases e1
       unfold Gh.jM at e3 e4 e5 ⊢
       cases hc0:g.aN 0 with
       |none=>
        rw[hc0] at e3
        dsimp only at e3
        rw[hc0] at e3;cases e3
       |some c0=>
        rw[hc0] at e3 e4 e5
        dsimp only at e3 e4 e5 ⊢
        have h0:(0:Nat)≠r.length+2:=by omega
        simp only[Gh.put,h0,if_false] at e3 e4 e5
        rw[hc0] at e3
        cases e3
        exact .inr ⟨_,_,o',rfl,e2,by simp[Gh.put],by simpa[Gh.put] using e4,by simpa[Gh.put] using e5,e6⟩
  have hmem:((((.tok :: .ac [.os (some 0) len sz X]::r:Mem)++bu 1).set 0 .dead).set (r.length+2) .tok).set 1 (.ac [.os (some (r.length+2)) len sz X]) = .dead :: .ac [.os (some (r.length+2)) len sz X]::r++[.tok]:=by
   simp[bu]
  rw[hmem] at z1 z2
  refine⟨_,fr,w,Steps.refl _ _,⟨b,a,q1,q2,q3.ext (fun i c q=>(ext.aN i c q).1),q4.ext (fun i c q=>(ext.aN i c q).1),⟨fun k=>(q5.tm k).mono ext,q5.nt,z1,?_,q5.ct.mono fun c o p=>(ext.pure c o p)⟩,q6⟩,(f2.trans m2).trans z2,fun k c' hk cY=> ?_,rfl,rfl,rfl⟩
  · have:=q5.fix
    simp only[List.length_append,List.length_cons,List.length_nil] at this ⊢
    omega
  · have:=(ext.aN k c' cY)
    exact this
theorem aB.iL {f:FuncId} {args:List AV} {sz:Nat} {v:AV} {m':Mem} (hz:1≤sz) (h:aB P E f (.os (some 0) 0 sz []::args) [.tok] v m'):aB P E f (.os none 0 0 []::args) [] v m':=by
 refine⟨h.1,fun g w bS cs hr hv hg=> ?_⟩
 have hf:g.aN 0=none:=hr.pF 0 (Nat.le_refl _)
 have Fx:Rel g [.tok] w:=by
  have h1:=(hr.bu 1).1
  have h2:=(h1.oN (i:=0) rfl).1
  exact h2
 have own : ∀c,¬dH g ([.tok]:Mem) c:=fun c ho=>by
  obtain⟨i,b,hi,_,hc⟩:=ho
  match i,hi with
  |0,_=>rw[hf] at hc;cases hc
 match hl:bS.toList,hv with
 |x::xs,hv=>
  have hx:VA g w (.os (some 0) 0 sz []) x:=by
   have h1:VA g w (.os none 0 0 []) x:=hv.1
   cases h1 with
   |os _ _ _ _ a cap h' hr'=>
    have hcap:cap=0:=by
     rcases hr' with h | ⟨t,b,o,e,_⟩
     · exact h
     · cases e
    subst hcap
    exact .os _ _ _ _ a 0 (.lT sz a 0 (.inl hz)) (.inl rfl)
  obtain⟨w',g',cv,fr,s1,s2,s3,s4,s5,s6,s7,s8⟩:=h.2 g w bS cs Fx (by rw[hl];exact⟨hx,hv.2⟩) hg
  refine⟨w',g',cv,fr,s1,s2,s3,s4,s5,⟨s6.size,fun c hc ho=>s6.keep c hc (own c),s6.pure,fun c o hp=> ?_,fun c ho=> ?_,s6.os,s6.tape,s6.output⟩,fun k c hk hc=>absurd hk (Nat.not_lt_zero _),Nat.zero_le _⟩
  · rcases s6.fresh c o hp with q | q | q
    · exact .inl q
    · exact absurd q (own c)
    · exact .inr (.inr q)
  · rcases s6.owned c ho with q | q
    · exact absurd q (own c)
    · exact .inr q
def qR (n sz j:Nat):mO→mO
 |[]=>[]
 |(k,v)::r=>(k,cond (Nat.beq k j) (.os (some n) 0 sz []) v)::qR n sz j r
theorem VA.iL {t sz:Nat} {x:Value} (hz:1≤sz) (h:VA g w (.os none 0 0 []) x):VA g w (.os (some t) 0 sz []) x:=by
 cases h with
 |os _ _ _ _ a cap h' hr'=>
  have hcap:cap=0:=by
   rcases hr' with h | ⟨t,b,o,e,_⟩
   · exact h
   · cases e
  subst hcap
  exact .os _ _ _ _ a 0 (.lT sz a 0 (.inl hz)) (.inl rfl)
theorem lF {n sz j:Nat} : ∀{tm:mO},look tm j = .os none 0 0 [] → ∀k,look (qR n sz j tm) k=look tm k∨(look tm k = .os none 0 0 []∧look (qR n sz j tm) k = .os (some n) 0 sz [])
 |[],_,_=> .inl rfl
 |(i,v)::r,h,k=>by
  simp only[look,qR] at h ⊢
  cases hi:Nat.beq i j with
  |true=>
   rw[hi] at h
   cases hk:Nat.beq i k with
   |true=>exact .inr ⟨h,rfl⟩
   |false=>
    simp only[cond_false]
    clear h
    obtain rfl:=Nat.eq_of_beq_eq_true hi
    by_cases hr:look r i = .os none 0 0 []
    · exact lF hr k
    · exact .inl (qT hk)
  |false=>
   rw[hi] at h
   cases hk:Nat.beq i k with
   |true=>exact .inl rfl
   |false=>exact lF h k
where
 qT {n sz i k:Nat} (hk:Nat.beq i k=false) : ∀{r:mO},look (qR n sz i r) k=look r k
  |[]=>rfl
  |(a,v)::r=>by
   simp only[look,qR]
   cases ha:Nat.beq a k with
   |true=>
    obtain rfl:=Nat.eq_of_beq_eq_true ha
    have:Nat.beq a i=false:=by
     cases MG:Nat.beq a i with
     |false=>rfl
     |true=>obtain rfl:=Nat.eq_of_beq_eq_true MG;rw[Nat.beq_refl] at hk;cases hk
    rw[this];rfl
   |false=>exact qT hk
theorem Good.iL {c:bD} {o:Out} (j sz:Nat) (hz:1≤sz) (hj:look c.st.tm j = .os none 0 0 []) (hc:yz c=true)
  (h:Good P E {c with st:={c.st with tm:=qR c.st.mem.length sz j c.st.tm,mem:=c.st.mem++[.tok]}} o):Good P E c o:=by
 refine Good.aH (fun g fr w hr cs=> ?_) h
 obtain⟨f,todo,st⟩:=c
 obtain⟨tm,nt,mem,fix,bq,aZ⟩:=st
 dsimp only at hj h ⊢
 match todo,hc with
 |.code i x::k,_=>
  obtain⟨b,a,q1,q2,q3,q4,q5,q6⟩:=hr
  have yl:Rel g mem w:=q5.rel
  obtain⟨f1,f2⟩:=yl.bu 1
  have hn:(mem++bu 1)[mem.length]? = some .free:=by rw[List.getElem?_append_right (Nat.le_refl _),Nat.sub_self];rfl
  obtain⟨z1,z2⟩:=f1.oN hn
  have hmem:(mem++bu 1).set mem.length .tok=mem++[.tok]:=by simp[bu]
  rw[hmem] at z1 z2
  refine⟨g,fr,w,Steps.refl _ _,⟨b,a,q1,q2,q3,q4,⟨fun k=> ?_,q5.nt,z1,?_,q5.ct⟩,q6⟩,f2.trans z2,aP.refl _ _,rfl,rfl,rfl⟩
  · rcases lF (n:=mem.length) (sz:=sz) hj k with e | ⟨e1,e2⟩
    · dsimp only;rw[e];exact q5.tm k
    · dsimp only;rw[e2]
      have:=q5.tm k
      dsimp only at this
      rw[e1] at this
      exact VA.iL hz this
  · have:=q5.fix
    dsimp only at this ⊢
    rw[List.length_append]
    omega
end
end Go.Am
end
section
set_option linter.unusedSimpArgs false
set_option linter.unusedVariables false
namespace Go.Proofs.YtddfgnmjecogdaaDoor.N
open Go Go.Am
def MH (n:Int) (k:Nat) (X:List PV) (f:FuncId) (_:List AV) (m:Mem):Option (AV×Mem):=cond (Nat.beq f 59) (some (.p (.ps k 1 X),m)) none
def MI (n:Int) (k:Nat) (X:List PV) (f:FuncId) (_:List AV) (m:Mem):Option (AV×Mem):=cond (Nat.beq f 74) (some (.p (.ps k 1 X),m)) none
noncomputable def I2 (n:Int) (k:Nat) (X:List PV):dR:=cr (MH n k X) aW [] [] []
def KO:Sc:= .fin
noncomputable def CN (n:Int) (k:Nat) (X:List PV):Tree:=
 (.call ⟨59,[AV.p (PV.sc (Value.int IntKind.u32 n)),AV.fn (Fn.func 60) [] []],[],AV.p (PV.ps k 1 X),[]⟩
  (.out (Out.ret (AV.p (PV.ps k 1 X)) [])))
theorem Ed (n:Int) (k:Nat) (X:List PV):bC Tryd.prog env (I2 n k X) 1000000 35 ([sI IntKind.u32 n]) ([]) KO=CN n k X:=by kernel_rfl
noncomputable def GL:dR:=cr bk aW [(36,0)] [] []
def I3:Sc:= .fin
noncomputable def zI (n:Int):Tree:=
 (.at (an Tryd.prog env 36 0 [AV.p (PV.sc (Value.int IntKind.u32 n)),AV.os Option.none 0 0 []] ([]) 0 20))
theorem CO (n:Int):bC Tryd.prog env GL 1000000 36 ([sI IntKind.u32 n]) ([]) I3=zI n:=by kernel_rfl
noncomputable def I4:dR:=cr bk aW [(59,0)] [] []
def KP:Sc:= .fin
noncomputable def CP (n:Int):Tree:=
 (.at (an Tryd.prog env 59 0 [AV.p (PV.sc (Value.int IntKind.u32 n)),AV.fn (Fn.func 60) [] [],AV.os Option.none 0 0 []] ([]) 0 25))
theorem Ee (n:Int):bC Tryd.prog env I4 1000000 59 ([sI IntKind.u32 n,AV.fn (Fn.func 60) [] []]) ([]) KP=CP n:=by kernel_rfl
noncomputable def GM:dR:=cr bk aW [(59,0)] [(59,0,1)] [(59,6,3),(59,7,4)]
def I5:Sc:= .fin
noncomputable def vi (n:Int) (k:Nat) (X:List PV):Tree:=
 (.test (n.fdiv 128==0)
  (.must (((k+1)*1).ble aJ&&(k+1).ble aJ&&true)
   (.out (Out.ret (AV.os (Option.some 0) (k+1) 1 (X++[PV.sc (Value.int IntKind.u8 (IntKind.u8.wrap (IntKind.u32.wrap (↑(BitVec.ofInt 32 n&&&BitVec.ofInt 32 127).toNat:Int))))])) [av.tok])))
  (.must (((k+1)*1).ble aJ&&(k+1).ble aJ&&true)
   (.at (an Tryd.prog env 59 0 [AV.p (PV.sc (Value.int IntKind.u32 (n.fdiv 128))),AV.fn (Fn.func 60) [] [],AV.os (Option.some 0) (k+1) 1 (X++[PV.sc (Value.int IntKind.u8 (IntKind.u8.wrap (↑(BitVec.ofInt 8 (IntKind.u8.wrap (IntKind.u32.wrap (↑(BitVec.ofInt 32 n&&&BitVec.ofInt 32 127).toNat:Int)))|||BitVec.ofInt 8 128).toNat:Int)))])] ([av.tok]) 0 25))))
theorem xg (n:Int) (k:Nat) (X:List PV):grow Tryd.prog env GM 1000000 true (an Tryd.prog env 59 0 ([sI IntKind.u32 n,AV.fn (Fn.func 60) [] [],AV.os (Option.some 0) k 1 X]) ([av.tok]) 0 25) I5 atEnd=vi n k X:=by kernel_rfl
noncomputable def Ef:dR:=cr bk aW [(36,0)] [(36,0,1)] [(36,4,6),(36,6,4)]
def GN:Sc:= .fin
noncomputable def qV (n:Int) (k:Nat) (X:List PV):Tree:=
 (.test (decide (n≥128))
  (.must (((k+1)*1).ble aJ&&(k+1).ble aJ&&true)
   (.at (an Tryd.prog env 36 0 [AV.p (PV.sc (Value.int IntKind.u32 (IntKind.u32.wrap (n.tdiv 128)))),AV.os (Option.some 0) (k+1) 1 (X++[PV.sc (Value.int IntKind.u8 (IntKind.u8.wrap (IntKind.u8.wrap (n.tmod 128)+128)))])] ([av.tok]) 0 20)))
  (.must (((k+1)*1).ble aJ&&(k+1).ble aJ&&true)
   (.out (Out.ret (AV.os (Option.some 0) (k+1) 1 (X++[PV.sc (Value.int IntKind.u8 (IntKind.u8.wrap n))])) [av.tok]))))
theorem tJ (n:Int) (k:Nat) (X:List PV):grow Tryd.prog env Ef 1000000 true (an Tryd.prog env 36 0 ([sI IntKind.u32 n,AV.os (Option.some 0) k 1 X]) ([av.tok]) 0 20) GN atEnd=qV n k X:=by kernel_rfl
noncomputable def I6 (n:Int) (k:Nat) (X:List PV):dR:=cr (MI n k X) aW [] [] []
def KQ:Sc:= .fin
noncomputable def CQ (n:Int) (k:Nat) (X:List PV):Tree:=
 (.call ⟨74,[AV.p (PV.sc (Value.int IntKind.i32 n)),AV.fn (Fn.func 75) [] []],[],AV.p (PV.ps k 1 X),[]⟩
  (.out (Out.ret (AV.p (PV.ps k 1 X)) [])))
theorem Eg (n:Int) (k:Nat) (X:List PV):bC Tryd.prog env (I6 n k X) 1000000 52 ([sI IntKind.i32 n]) ([]) KQ=CQ n k X:=by kernel_rfl
noncomputable def I7:dR:=cr bk aW [(74,0)] [] []
def KR:Sc:= .fin
noncomputable def CR (n:Int):Tree:=
 (.at (an Tryd.prog env 74 0 [AV.p (PV.sc (Value.int IntKind.i32 n)),AV.fn (Fn.func 75) [] [],AV.os Option.none 0 0 []] ([]) 0 25))
theorem Eh (n:Int):bC Tryd.prog env I7 1000000 74 ([sI IntKind.i32 n,AV.fn (Fn.func 75) [] []]) ([]) KR=CR n:=by kernel_rfl
noncomputable def GO:dR:=cr bk aW [(77,0)] [] []
def I8:Sc:= .fin
noncomputable def zJ (n:Int):Tree:=
 (.at (an Tryd.prog env 77 0 [AV.os Option.none 0 0 [],AV.p (PV.sc (Value.int IntKind.i64 (IntKind.i64.wrap n)))] ([]) 0 28))
theorem CS (n:Int):bC Tryd.prog env GO 1000000 77 ([sI IntKind.i32 n]) ([]) I8=zJ n:=by kernel_rfl
noncomputable def GP:dR:=cr bk aW [(74,0)] [(75,2,3),(75,2,8),(75,2,11),(74,0,1)] [(74,6,3),(74,7,4)]
def I9:Sc:=(.fork (.fork (.lit .fin) (.no (.lit .fin))) (.lit (.fork .fin (.lit .fin))))
noncomputable def mL (n:Int) (k:Nat) (X:List PV):Tree:=
 (.test (n.fdiv 128==0)
  (.test (IntKind.u8.wrap (↑(BitVec.ofInt 8 (IntKind.u8.wrap (IntKind.i32.wrap (↑(BitVec.ofInt 32 n&&&BitVec.ofInt 32 127).toNat:Int)))&&&BitVec.ofInt 8 64).toNat:Int)==0)
   (.must (((k+1)*1).ble aJ&&(k+1).ble aJ&&true)
    (.out (Out.ret (AV.os (Option.some 0) (k+1) 1 (X++[PV.sc (Value.int IntKind.u8 (IntKind.u8.wrap (IntKind.i32.wrap (↑(BitVec.ofInt 32 n&&&BitVec.ofInt 32 127).toNat:Int))))])) [av.tok])))
   (.must (!(n.fdiv 128 == -1))
    (.must (((k+1)*1).ble aJ&&(k+1).ble aJ&&true)
     (.at (an Tryd.prog env 74 0 [AV.p (PV.sc (Value.int IntKind.i32 (n.fdiv 128))),AV.fn (Fn.func 75) [] [],AV.os (Option.some 0) (k+1) 1 (X++[PV.sc (Value.int IntKind.u8 (IntKind.u8.wrap (↑(BitVec.ofInt 8 (IntKind.u8.wrap (IntKind.i32.wrap (↑(BitVec.ofInt 32 n&&&BitVec.ofInt 32 127).toNat:Int)))|||BitVec.ofInt 8 128).toNat:Int)))])] ([av.tok]) 0 25)))))
  (.test (n.fdiv 128 == -1)
   (.test (IntKind.u8.wrap (↑(BitVec.ofInt 8 (IntKind.u8.wrap (IntKind.i32.wrap (↑(BitVec.ofInt 32 n&&&BitVec.ofInt 32 127).toNat:Int)))&&&BitVec.ofInt 8 64).toNat:Int) != 0)
    (.must (((k+1)*1).ble aJ&&(k+1).ble aJ&&true)
     (.out (Out.ret (AV.os (Option.some 0) (k+1) 1 (X++[PV.sc (Value.int IntKind.u8 (IntKind.u8.wrap (IntKind.i32.wrap (↑(BitVec.ofInt 32 n&&&BitVec.ofInt 32 127).toNat:Int))))])) [av.tok])))
    (.must (((k+1)*1).ble aJ&&(k+1).ble aJ&&true)
     (.at (an Tryd.prog env 74 0 [AV.p (PV.sc (Value.int IntKind.i32 (n.fdiv 128))),AV.fn (Fn.func 75) [] [],AV.os (Option.some 0) (k+1) 1 (X++[PV.sc (Value.int IntKind.u8 (IntKind.u8.wrap (↑(BitVec.ofInt 8 (IntKind.u8.wrap (IntKind.i32.wrap (↑(BitVec.ofInt 32 n&&&BitVec.ofInt 32 127).toNat:Int)))|||BitVec.ofInt 8 128).toNat:Int)))])] ([av.tok]) 0 25))))
   (.must (((k+1)*1).ble aJ&&(k+1).ble aJ&&true)
    (.at (an Tryd.prog env 74 0 [AV.p (PV.sc (Value.int IntKind.i32 (n.fdiv 128))),AV.fn (Fn.func 75) [] [],AV.os (Option.some 0) (k+1) 1 (X++[PV.sc (Value.int IntKind.u8 (IntKind.u8.wrap (↑(BitVec.ofInt 8 (IntKind.u8.wrap (IntKind.i32.wrap (↑(BitVec.ofInt 32 n&&&BitVec.ofInt 32 127).toNat:Int)))|||BitVec.ofInt 8 128).toNat:Int)))])] ([av.tok]) 0 25)))))
theorem xh (n:Int) (k:Nat) (X:List PV):grow Tryd.prog env GP 1000000 true (an Tryd.prog env 74 0 ([sI IntKind.i32 n,AV.fn (Fn.func 75) [] [],AV.os (Option.some 0) k 1 X]) ([av.tok]) 0 25) I9 atEnd=mL n k X:=by kernel_rfl
noncomputable def Ei:dR:=cr bk aW [(77,0)] [(77,4,3),(77,0,1)] [(77,5,6),(77,7,5)]
def GQ:Sc:=(.fork (.lit .fin) .fin)
noncomputable def qW (n:Int) (k:Nat) (X:List PV):Tree:=
 (.test (decide (n < -64))
  (.must (((k+1)*1).ble aJ&&(k+1).ble aJ&&true)
   (.at (an Tryd.prog env 77 0 [AV.os (Option.some 0) (k+1) 1 (X++[PV.sc (Value.int IntKind.u8 (IntKind.u8.wrap (IntKind.u8.wrap (IntKind.i64.wrap (↑(BitVec.ofInt 64 n&&&BitVec.ofInt 64 127).toNat:Int))+128)))]),AV.p (PV.sc (Value.int IntKind.i64 (n.fdiv 128)))] ([av.tok]) 0 28)))
  (.test (decide (n>63))
   (.must (((k+1)*1).ble aJ&&(k+1).ble aJ&&true)
    (.at (an Tryd.prog env 77 0 [AV.os (Option.some 0) (k+1) 1 (X++[PV.sc (Value.int IntKind.u8 (IntKind.u8.wrap (IntKind.u8.wrap (IntKind.i64.wrap (↑(BitVec.ofInt 64 n&&&BitVec.ofInt 64 127).toNat:Int))+128)))]),AV.p (PV.sc (Value.int IntKind.i64 (n.fdiv 128)))] ([av.tok]) 0 28)))
   (.must (((k+1)*1).ble aJ&&(k+1).ble aJ&&true)
    (.out (Out.ret (AV.os (Option.some 0) (k+1) 1 (X++[PV.sc (Value.int IntKind.u8 (IntKind.u8.wrap (IntKind.i64.wrap (↑(BitVec.ofInt 64 n&&&BitVec.ofInt 64 127).toNat:Int))))])) [av.tok])))))
theorem tK (n:Int) (k:Nat) (X:List PV):grow Tryd.prog env Ei 1000000 true (an Tryd.prog env 77 0 ([AV.os (Option.some 0) k 1 X,sI IntKind.i64 n]) ([av.tok]) 0 28) GQ atEnd=qW n k X:=by kernel_rfl
def bt (l:List Nat):List PV:=l.map fun(c:Nat)=> .sc (.int .u8 (c:Int))
theorem aE (l:List Nat):(bt l).length=l.length:=by simp[bt]
theorem kr (a b:List Nat):bt (a++b)=bt a++bt b:=by simp[bt]
theorem oQ (X:List PV) (c:Nat) (l:List Nat):(X++[.sc (.int .u8 (c:Int))])++bt l=X++bt (c::l):=by simp[bt]
def pU:Nat→Nat→List Nat
 |0,n=>[n%128]
 |f+1,n=>if n / 128=0 then[n%128] else(n%128+128)::pU f (n / 128)
def pS:Nat→Int→List Nat
 |0,n=>[(n%128).toNat]
 |f+1,n=>if -64≤n∧n≤63 then[(n%128).toNat] else((n%128).toNat+128)::pS f (n / 128)
theorem jR : ∀(f n:Nat),(pU f n).length≤f+1
 |0,_=>Nat.le_refl _
 |f+1,n=>by
  unfold pU
  split
  · simp
  · simp only[List.length_cons];have:=jR f (n / 128);omega
theorem yF : ∀(f:Nat) (n:Int),(pS f n).length≤f+1
 |0,_=>Nat.le_refl _
 |f+1,n=>by
  unfold pS
  split
  · simp
  · simp only[List.length_cons];have:=yF f (n / 128);omega
theorem ny (n:Int):(BitVec.ofInt 32 n&&&BitVec.ofInt 32 127).toNat=(n%128).toNat:=by
 rw[BitVec.toNat_and,BitVec.toNat_ofInt,BitVec.toNat_ofInt,show((127:Int)%((2 ^ 32:Nat):Int)).toNat=2 ^ 7-1 from by decide,Nat.and_two_pow_sub_one_eq_mod]
 omega
theorem zK (n:Int):(BitVec.ofInt 64 n&&&BitVec.ofInt 64 127).toNat=(n%128).toNat:=by
 rw[BitVec.toNat_and,BitVec.toNat_ofInt,BitVec.toNat_ofInt,show((127:Int)%((2 ^ 64:Nat):Int)).toNat=2 ^ 7-1 from by decide,Nat.and_two_pow_sub_one_eq_mod]
 omega
theorem CT : ∀m:Nat,m<128→(BitVec.ofInt 8 (m:Int)|||BitVec.ofInt 8 128).toNat=m+128:=by decide +kernel
theorem EZ : ∀m:Nat,m<128→(BitVec.ofInt 8 (m:Int)&&&BitVec.ofInt 8 64).toNat=(if m<64 then 0 else 64):=by decide +kernel
theorem qX {n:Int} (h0:0≤n) (h1:n<256):IntKind.u8.wrap n=n:=by rw[LB];omega
theorem zL {n:Int} (h0 : -2147483648≤n) (h1:n<2147483648):IntKind.i32.wrap n=n:=by rw[Kw];omega
theorem Ej : ∀(f n:Nat) (X:List PV),n<128 ^ (f+1)→n<4294967296→X.length+f≤1000000000000→f≤100 →
  Am.Good Tryd.prog env (an Tryd.prog env 59 0 [sI .u32 n,.fn (.func 60) [] [],.os (some 0) X.length 1 X] [.tok] 0 25) (.ret (.os (some 0) (X++bt (pU f n)).length 1 (X++bt (pU f n))) [.tok]):=by
 have aY:aJ=70368744177664:=rfl
 intro f
 induction f with
 |zero=>
  intro n X h1 h2 h3 _
  have h1':n<128:=by simpa using h1
  have d:(n:Int).fdiv 128=0:=by rw[Int.fdiv_eq_ediv_of_nonneg _ (by decide)];omega
  have e1:(((n:Int)%128).toNat:Int)=((n%128:Nat):Int):=by omega
  refine aq names (xg n X.length X) ?_
  simp(disch:=omega) only[vi,Tree.ok,d,ny,e1,oa,qX,aY,Nat.ble_eq,Bool.and_eq_true,and_true,pU,bt,List.map_cons,List.map_nil,List.length_append,List.length_cons,List.length_nil]
  simp only[beq_self_eq_true,Bool.true_eq_false,false_implies,true_implies,and_true]
  exact⟨by omega,by omega⟩
 |succ f ih=>
  intro n X h1 h2 h3 hf
  have d:(n:Int).fdiv 128=((n / 128:Nat):Int):=by rw[Int.fdiv_eq_ediv_of_nonneg _ (by decide)];omega
  have e1:(((n:Int)%128).toNat:Int)=((n%128:Nat):Int):=by omega
  have e2:=CT (n%128) (by omega)
  refine aq names (xg n X.length X) ?_
  simp(disch:=omega) only[vi,Tree.ok,d,ny,e1,e2,oa,qX,aY,Nat.ble_eq,Bool.and_eq_true,and_true]
  refine⟨fun h=>⟨⟨by omega,by omega⟩,?_⟩,fun h=>⟨⟨by omega,by omega⟩,?_⟩⟩
  · have h0:n / 128=0:=by have:=eq_of_beq h;omega
    simp[pU,h0,bt]
  · have h0 : ¬n / 128=0:=by intro e;rw[e] at h;cases h
    have k:=ih (n / 128) (X++[.sc (.int .u8 ((n%128+128:Nat):Int))]) (by rw[Nat.pow_succ] at h1;exact Nat.div_lt_of_lt_mul (by rw[Nat.mul_comm];exact h1)) (by omega) (by simp only[List.length_append,List.length_cons,List.length_nil];omega) (by omega)
    have e3:pU (f+1) n=(n%128+128)::pU f (n / 128):=by rw[pU,if_neg h0]
    rw[oQ] at k
    rw[e3]
    simpa only[List.length_append,List.length_cons,List.length_nil,Nat.zero_add] using k
theorem CU : ∀(f n:Nat) (X:List PV),n<128 ^ (f+1)→n<4294967296→X.length+f≤1000000000000→f≤100 →
  Am.Good Tryd.prog env (an Tryd.prog env 36 0 [sI .u32 n,.os (some 0) X.length 1 X] [.tok] 0 20) (.ret (.os (some 0) (X++bt (pU f n)).length 1 (X++bt (pU f n))) [.tok]):=by
 have aY:aJ=70368744177664:=rfl
 intro f
 induction f with
 |zero=>
  intro n X h1 h2 h3 _
  have h1':n<128:=by simpa using h1
  have d:decide ((n:Int)≥128)=false:=decide_eq_false (by omega)
  have e1:n%128=n:=by omega
  refine aq names (tJ n X.length X) ?_
  simp(disch:=omega) only[qV,Tree.ok,d,e1,oa,qX,aY,Nat.ble_eq,Bool.and_eq_true,and_true,pU,bt,List.map_cons,List.map_nil,List.length_append,List.length_cons,List.length_nil,Bool.false_eq_true,false_implies,true_implies,true_and]
  exact⟨by omega,by omega⟩
 |succ f ih=>
  intro n X h1 h2 h3 hf
  have d:(n:Int).tdiv 128=((n / 128:Nat):Int):=by rw[DX (by omega)];omega
  have e1:(n:Int).tmod 128=((n%128:Nat):Int):=by rw[DW (by omega)];omega
  have e2:((n%128:Nat):Int)+128=((n%128+128:Nat):Int):=by omega
  refine aq names (tJ n X.length X) ?_
  simp(disch:=omega) only[qV,Tree.ok,d,e1,e2,oa,qX,aY,Nat.ble_eq,Bool.and_eq_true,and_true,decide_eq_true_eq,decide_eq_false_iff_not]
  refine⟨fun h=>⟨⟨by omega,by omega⟩,?_⟩,fun h=>⟨⟨by omega,by omega⟩,?_⟩⟩
  · have h0 : ¬n / 128=0:=by omega
    have k:=ih (n / 128) (X++[.sc (.int .u8 ((n%128+128:Nat):Int))]) (by rw[Nat.pow_succ] at h1;exact Nat.div_lt_of_lt_mul (by rw[Nat.mul_comm];exact h1)) (by omega) (by simp only[List.length_append,List.length_cons,List.length_nil];omega) (by omega)
    have e3:pU (f+1) n=(n%128+128)::pU f (n / 128):=by rw[pU,if_neg h0]
    rw[oQ] at k
    rw[e3]
    simpa only[List.length_append,List.length_cons,List.length_nil,Nat.zero_add] using k
  · have h0:n / 128=0:=by omega
    have e3:n%128=n:=by omega
    simp(disch:=omega) [pU,h0,bt,e3,qX]
theorem aB.qY {f:FuncId} {args:List AV} {n:Nat} {X:List PV} (h:aB Tryd.prog env f args [] (.os (some 0) n 1 X) [.tok]):aB Tryd.prog env f args [] (.p (.ps n 1 X)) []:=aB.pure h
theorem tM (n:Nat) (h:n<4294967296):aB Tryd.prog env 35 [sI .u32 n] [] (.p (.ps (pU 4 n).length 1 (bt (pU 4 n)))) []:=by
 refine ak names (Ed n (pU 4 n).length (bt (pU 4 n))) ?_
 simp only[CN,Tree.ok,and_true]
 refine aB.qY (ak names (Ee n) ?_)
 simp only[CP,Tree.ok]
 have k:=Ej 4 n [] (by omega) h (by simp) (by omega)
 rw[List.nil_append,aE] at k
 exact Good.iL 5 1 (Nat.le_refl 1) rfl rfl k
theorem qZ (n:Nat) (h:n<4294967296):aB Tryd.prog env 36 [sI .u32 n] [] (.p (.ps (pU 4 n).length 1 (bt (pU 4 n)))) []:=by
 refine aB.qY (ak names (CO n) ?_)
 simp only[zI,Tree.ok]
 have k:=CU 4 n [] (by omega) h (by simp) (by omega)
 rw[List.nil_append,aE] at k
 exact Good.iL 3 1 (Nat.le_refl 1) rfl rfl k
theorem Ek : ∀(f:Nat) (n:Int) (X:List PV),-(64*128 ^ f)≤n→n<64*128 ^ f → -2147483648≤n→n<2147483648→X.length+f≤1000000000000→f≤100 →
  Am.Good Tryd.prog env (an Tryd.prog env 74 0 [sI .i32 n,.fn (.func 75) [] [],.os (some 0) X.length 1 X] [.tok] 0 25) (.ret (.os (some 0) (X++bt (pS f n)).length 1 (X++bt (pS f n))) [.tok]):=by
 have aY:aJ=70368744177664:=rfl
 intro f
 induction f with
 |zero=>
  intro n X h1 h2 h4 h5 h3 _
  have d:n.fdiv 128=n / 128:=Int.fdiv_eq_ediv_of_nonneg _ (by decide)
  obtain⟨m,hm⟩ : ∃m:Nat,(n%128).toNat=m:=⟨_,rfl⟩
  have hm1:n=128*(n / 128)+m∧m<128:=by omega
  have e1:=EZ m hm1.2
  have e2:=CT m hm1.2
  refine aq names (xh n X.length X) ?_
  by_cases h6:m<64
  · have h7:n / 128=0:=by omega
    rw[if_pos h6] at e1
    simp(disch:=omega) only[mL,Tree.ok,d,ny,hm,zL,qX,e1,e2,aY,Nat.ble_eq,Bool.and_eq_true,and_true,h7,show((0:Int)==0)=true from rfl,Bool.true_eq_false,false_implies,true_implies,show(((0:Nat):Int)==0)=true from rfl,pS,bt,List.map_cons,List.map_nil,List.length_append,List.length_cons,List.length_nil]
    exact⟨by omega,by omega⟩
  · have h7:n / 128 = -1:=by omega
    rw[if_neg h6] at e1
    simp(disch:=omega) only[mL,Tree.ok,d,ny,hm,zL,qX,e1,e2,aY,Nat.ble_eq,Bool.and_eq_true,and_true,h7,show((-1:Int)==0)=false from rfl,show((-1:Int) == -1)=true from rfl,Bool.true_eq_false,Bool.false_eq_true,false_implies,true_implies,true_and,show(((64:Nat):Int) != 0)=true from rfl,pS,bt,List.map_cons,List.map_nil,List.length_append,List.length_cons,List.length_nil]
    exact⟨by omega,by omega⟩
 |succ f ih=>
  intro n X h1 h2 h4 h5 h3 hf
  have d:n.fdiv 128=n / 128:=Int.fdiv_eq_ediv_of_nonneg _ (by decide)
  obtain⟨m,hm⟩ : ∃m:Nat,(n%128).toNat=m:=⟨_,rfl⟩
  have hm1:n=128*(n / 128)+m∧m<128:=by omega
  have e1:=EZ m hm1.2
  have e2:=CT m hm1.2
  have hb:(X.length+1)*1≤70368744177664∧X.length+1≤70368744177664:=⟨by omega,by omega⟩
  have more : ¬(-64≤n∧n≤63)→Am.Good Tryd.prog env (an Tryd.prog env 74 0 [sI .i32 (n / 128),.fn (.func 75) [] [],.os (some 0) (X.length+1) 1 (X++[.sc (.int .u8 ((m+128:Nat):Int))])] [.tok] 0 25) (.ret (.os (some 0) (X++bt (pS (f+1) n)).length 1 (X++bt (pS (f+1) n))) [.tok]):=fun h0=>by
   have hp:(128:Int) ^ (f+1)=128*128 ^ f:=by rw[Int.pow_succ,Int.mul_comm]
   have k:=ih (n / 128) (X++[.sc (.int .u8 ((m+128:Nat):Int))]) (by rw[hp] at h1;omega) (by rw[hp] at h2;omega) (by omega) (by omega) (by simp only[List.length_append,List.length_cons,List.length_nil];omega) (by omega)
   have e3:pS (f+1) n=(m+128)::pS f (n / 128):=by rw[pS,if_neg h0,hm]
   rw[oQ] at k
   rw[e3]
   simpa only[List.length_append,List.length_cons,List.length_nil,Nat.zero_add] using k
  have last:(-64≤n∧n≤63)→Out.ret (.os (some 0) (X.length+1) 1 (X++[.sc (.int .u8 (m:Int))])) [.tok] = .ret (.os (some 0) (X++bt (pS (f+1) n)).length 1 (X++bt (pS (f+1) n))) [.tok]:=fun h0=>by
   rw[pS,if_pos h0,hm];simp[bt]
  refine aq names (xh n X.length X) ?_
  by_cases h6:m<64
  · rw[if_pos h6] at e1
    simp(disch:=omega) only[mL,Tree.ok,d,ny,hm,zL,qX,e1,e2,aY,Nat.ble_eq,Bool.and_eq_true,and_true,Bool.true_eq_false,Bool.false_eq_true,false_implies,true_implies,true_and,show(((0:Nat):Int)==0)=true from rfl,show(((0:Nat):Int) != 0)=false from rfl]
    refine⟨fun h=>⟨hb,last ?_⟩,fun h=>⟨fun _=>⟨hb,more ?_⟩,fun _=>⟨hb,more ?_⟩⟩⟩
    · have:n / 128=0:=eq_of_beq h
      omega
    · have : ¬n / 128=0:=fun e=>by rw[e] at h;cases h
      omega
    · have : ¬n / 128=0:=fun e=>by rw[e] at h;cases h
      omega
  · rw[if_neg h6] at e1
    simp(disch:=omega) only[mL,Tree.ok,d,ny,hm,zL,qX,e1,e2,aY,Nat.ble_eq,Bool.and_eq_true,and_true,Bool.true_eq_false,Bool.false_eq_true,false_implies,true_implies,true_and,show(((64:Nat):Int)==0)=false from rfl,show(((64:Nat):Int) != 0)=true from rfl]
    refine⟨fun h=>⟨?_,hb,more ?_⟩,fun _=>⟨fun h=>⟨hb,last ?_⟩,fun h=>⟨hb,more ?_⟩⟩⟩
    · have:n / 128=0:=eq_of_beq h
      rw[this];rfl
    · have:n / 128=0:=eq_of_beq h
      omega
    · have:n / 128 = -1:=eq_of_beq h
      omega
    · have : ¬n / 128 = -1:=fun e=>by rw[e] at h;cases h
      omega
theorem CV : ∀(f:Nat) (n:Int) (X:List PV),-(64*128 ^ f)≤n→n<64*128 ^ f → -2147483648≤n→n<2147483648→X.length+f≤1000000000000→f≤100 →
  Am.Good Tryd.prog env (an Tryd.prog env 77 0 [.os (some 0) X.length 1 X,sI .i64 n] [.tok] 0 28) (.ret (.os (some 0) (X++bt (pS f n)).length 1 (X++bt (pS f n))) [.tok]):=by
 have aY:aJ=70368744177664:=rfl
 intro f
 induction f with
 |zero=>
  intro n X h1 h2 h4 h5 h3 _
  have d1:decide (n < -64)=false:=decide_eq_false (by omega)
  have d2:decide (n>63)=false:=decide_eq_false (by omega)
  refine aq names (tK n X.length X) ?_
  simp(disch:=omega) only[qW,Tree.ok,d1,d2,zK,cC,qX,aY,Nat.ble_eq,Bool.and_eq_true,and_true,pS,bt,List.map_cons,List.map_nil,List.length_append,List.length_cons,List.length_nil,Bool.false_eq_true,false_implies,true_implies,true_and]
  exact⟨by omega,by omega⟩
 |succ f ih=>
  intro n X h1 h2 h4 h5 h3 hf
  have d:n.fdiv 128=n / 128:=Int.fdiv_eq_ediv_of_nonneg _ (by decide)
  have e2:(((n%128).toNat:Nat):Int)+128=(((n%128).toNat+128:Nat):Int):=by omega
  refine aq names (tK n X.length X) ?_
  simp(disch:=omega) only[qW,Tree.ok,d,zK,cC,qX,e2,aY,Nat.ble_eq,Bool.and_eq_true,and_true,decide_eq_true_eq,decide_eq_false_iff_not]
  have hb:(X.length+1)*1≤70368744177664∧X.length+1≤70368744177664:=⟨by omega,by omega⟩
  have more : ¬(-64≤n∧n≤63)→Am.Good Tryd.prog env (an Tryd.prog env 77 0 [.os (some 0) (X.length+1) 1 (X++[.sc (.int .u8 (((n%128).toNat+128:Nat):Int))]),sI .i64 (n / 128)] [.tok] 0 28) (.ret (.os (some 0) (X++bt (pS (f+1) n)).length 1 (X++bt (pS (f+1) n))) [.tok]):=fun h0=>by
   have hp:(128:Int) ^ (f+1)=128*128 ^ f:=by rw[Int.pow_succ,Int.mul_comm]
   have k:=ih (n / 128) (X++[.sc (.int .u8 (((n%128).toNat+128:Nat):Int))]) (by rw[hp] at h1;omega) (by rw[hp] at h2;omega) (by omega) (by omega) (by simp only[List.length_append,List.length_cons,List.length_nil];omega) (by omega)
   have e3:pS (f+1) n=((n%128).toNat+128)::pS f (n / 128):=by rw[pS,if_neg h0]
   rw[oQ] at k
   rw[e3]
   simpa only[List.length_append,List.length_cons,List.length_nil,Nat.zero_add] using k
  refine⟨fun h=>⟨hb,more (by omega)⟩,fun h=>⟨fun h'=>⟨hb,more (by omega)⟩,fun h'=>⟨hb,?_⟩⟩⟩
  rw[pS,if_pos (by omega)];simp[bt]
theorem AO (n:Int) (h0 : -2147483648≤n) (h:n<2147483648):aB Tryd.prog env 52 [sI .i32 n] [] (.p (.ps (pS 4 n).length 1 (bt (pS 4 n)))) []:=by
 refine ak names (Eg n (pS 4 n).length (bt (pS 4 n))) ?_
 simp only[CQ,Tree.ok,and_true]
 refine aB.qY (ak names (Eh n) ?_)
 simp only[CR,Tree.ok]
 have k:=Ek 4 n [] (by omega) (by omega) h0 h (by simp) (by omega)
 rw[List.nil_append,aE] at k
 exact Good.iL 5 1 (Nat.le_refl 1) rfl rfl k
theorem yG (n:Int) (h0 : -2147483648≤n) (h:n<2147483648):aB Tryd.prog env 77 [sI .i32 n] [] (.p (.ps (pS 4 n).length 1 (bt (pS 4 n)))) []:=by
 refine aB.qY (ak names (CS n) ?_)
 simp(disch:=omega) only[zJ,Tree.ok,cC]
 have k:=CV 4 n [] (by omega) (by omega) h0 h (by simp) (by omega)
 rw[List.nil_append,aE] at k
 exact Good.iL 3 1 (Nat.le_refl 1) rfl rfl k
end Go.Proofs.YtddfgnmjecogdaaDoor.N
end
section
namespace Go.Proofs.YtddfgnmjecogdaaDoor.N
open Go Go.Am
mutual
def cU:Ins→List Nat
 |.mk op r a b nn tg ll le=>(op%256).toNat::(if gw op=true then(if r=1 then 127 else 64)::(iW ll++((if le.length=0 then[] else 5::iW le)++[11]))
    else if op=17 then pU 4 a.toNat++[0]
    else if gR op=true then pU 4 a.toNat
    else if op=14 then pU 4 tg.length++(tg.flatMap (fun t=>pU 4 t.toNat)++pU 4 a.toNat)
    else if op=63∨op=64 then[0]
    else if op=65 then pS 4 nn
    else if eJ op=true then pU 4 a.toNat++pU 4 b.toNat
    else[])
def iW:List Ins→List Nat
 |[]=>[]
 |x::r=>cU x++iW r
end
theorem xj : ∀tg:List Int,(tg.flatMap (fun t=>pU 4 t.toNat)).length≤5*tg.length
 |[]=>Nat.le_refl _
 |t::r=>by
  have:=jR 4 t.toNat
  have:=xj r
  simp only[List.flatMap_cons,List.length_append,List.length_cons]
  omega
mutual
theorem vk : ∀x:Ins,(cU x).length≤20*fF x
 |.mk op r a b nn tg ll le=>by
  have h1:=eK ll
  have h2:=eK le
  have h3:=jR 4 a.toNat
  have h4:=jR 4 b.toNat
  have h5:=yF 4 nn
  have h6:=jR 4 tg.length
  have h7:=xj tg
  simp only[cU,fF,List.length_cons]
  repeat' split
  all_goals (try simp only[List.length_append,List.length_cons,List.length_nil])
  all_goals omega
theorem eK : ∀l:List Ins,(iW l).length≤20*bZ l
 |[]=>Nat.zero_le _
 |x::r=>by
  have h1:=vk x
  have h2:=eK r
  simp only[iW,bZ,List.length_append]
  omega
end
theorem nA {a:Int} (h:(Lit.int .u32 a).wf=true):0≤a∧a<4294967296:=by
 have h:IntKind.u32.min≤a∧a≤IntKind.u32.max:=by simpa[Lit.wf] using h
 exact⟨h.1,Int.lt_of_le_of_lt h.2 (by decide)⟩
theorem CW {a:Int} (h:(Lit.int .i32 a).wf=true) : -2147483648≤a∧a<2147483648:=by
 have h:IntKind.i32.min≤a∧a≤IntKind.i32.max:=by simpa[Lit.wf] using h
 exact⟨h.1,Int.lt_of_le_of_lt h.2 (by decide)⟩
theorem bJ (n:Int):IntKind.u8.wrap n=((n%256).toNat:Int):=by rw[LB];omega
def jU (n:Int):Nat:=(pU 4 n.toNat).length
def qU (n:Int):List PV:=bt (pU 4 n.toNat)
def jS (n:Int):Nat:=(pS 4 n).length
def qS (n:Int):List PV:=bt (pS 4 n)
noncomputable def qL (cs:List PV):List PV:=cZ [] (fun l=>bt (iW l)) cs
noncomputable def jL (cs:List PV):Nat:=cZ 0 (fun l=>(iW l).length) cs
theorem dI (l:List Ins):qL (aa l)=bt (iW l):=eZ _ _ l
theorem cM (l:List Ins):jL (aa l)=(iW l).length:=eZ _ _ l
theorem bU {a:Int} (h:0≤a∧a<4294967296):aB Tryd.prog env 35 [sI .u32 a] [] (.p (.ps (jU a) 1 (qU a))) []:=by
 have:=tM a.toNat (by omega)
 rwa [show((a.toNat:Nat):Int)=a by omega] at this
theorem eo {a:Int} (h:0≤a∧a<4294967296):aB Tryd.prog env 36 [sI .u32 a] [] (.p (.ps (jU a) 1 (qU a))) []:=by
 have:=qZ a.toNat (by omega)
 rwa [show((a.toNat:Nat):Int)=a by omega] at this
theorem AP {a:Int} (h : -2147483648≤a∧a<2147483648):aB Tryd.prog env 52 [sI .i32 a] [] (.p (.ps (jS a) 1 (qS a))) []:=AO a h.1 h.2
theorem yH {a:Int} (h : -2147483648≤a∧a<2147483648):aB Tryd.prog env 77 [sI .i32 a] [] (.p (.ps (jS a) 1 (qS a))) []:=yG a h.1 h.2
theorem kP (n:Int):jU n≤5:=jR 4 _
theorem E0 (n:Int):jS n≤5:=yF 4 _
end Go.Proofs.YtddfgnmjecogdaaDoor.N
end
