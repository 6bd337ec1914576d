import Derived.Test.YtdmmllcjgjmbbaaGreatDoorMT
import Derived.Test.YtdmmllcjgjmbbaaGreatDoorMN
import Derived.Test.YtdmmllcjgjmbbaaGreatDoorMH
import Derived.Test.YtdmmllcjgjmbbaaGreatDoorRows
import Derived.MakeChecks
open List renaming flatMap→aem,mem_append→na,getElem?_map→dT,getElem?_eq_getElem→cb,getElem?_cons_zero→mf,getElem?_cons_succ→mi,mem_singleton→ab5,getElem?_take→db,getElem?_drop→df,map→ab6,flatMap_cons→adE,not_mem_nil→afx,map_cons→oT,mem_cons→mv,map_nil→wi
open Go.IntKind renaming i64→sb
open Go.Operand renaming tmp→afz
open Go.Proofs.Tryz renaming prog→acb
open Nat renaming le_of_ble_eq_true→en,ble_eq→aeN,le_trans→ba
open Bool renaming false_eq_true→pb,true_eq_false→ae5,and_eq_true→c8,and_true→aeq
open Go.DataW renaming weightsEach→afA,weights→afB,trod_struct→afD,trod_int→abR,trod→abO
open Array renaming getElem?_toList→lv
open Go.Lib.laidMet renaming reads→afE
noncomputable section
section
set_option linter.unusedSimpArgs false
set_option linter.unusedVariables false
namespace Go.Proofs.YtdmmllcjgjmbbaaGreatDoor.N
open Go Go.Am
def abz:bH:=aT aH aA [] [(5,3,3),(5,0,0),(5,0,1),(5,0,3),(5,0,4),(5,0,6)] [(5,7,6),(5,14,6),(5,16,6),(5,22,3),(5,22,8)]
def aeI (M:Mo) (lg:Bool) (e n i a:Int):Sc:=(.ans 22 (sB true) ([]) (.ans 6 (.p (.sc (.bool lg))) ([]) (.fork (.lit .fin) (.ans 20 (.agg [sI .i64 e,sI .i64 n,sI .i64 i,sI .i64 a]) ([]) (.fork .fin (.fork (.ans 20 (.agg [sI .i64 0,sI .i64 0,sI .i64 0,sI .i64 0]) ([]) (.fork (.fork (.ans 20 (.agg [sI .i64 0,sI .i64 0,sI .i64 0,sI .i64 0]) ([]) (.fork (.ans 20 (.agg [sI .i64 0,sI .i64 0,sI .i64 0,sI .i64 0]) ([.tok]) .fin) (.ans 20 (.agg [sI .i64 0,sI .i64 0,sI .i64 0,sI .i64 0]) ([]) .fin))) (.ans 20 (.agg [sI .i64 0,sI .i64 0,sI .i64 0,sI .i64 0]) ([]) (.fork (.ans 20 (.agg [sI .i64 0,sI .i64 0,sI .i64 0,sI .i64 0]) ([.tok]) .fin) (.ans 20 (.agg [sI .i64 0,sI .i64 0,sI .i64 0,sI .i64 0]) ([]) .fin)))) (.fork (.ans 20 (.agg [sI .i64 0,sI .i64 0,sI .i64 0,sI .i64 0]) ([]) (.fork (.ans 20 (.agg [sI .i64 0,sI .i64 0,sI .i64 0,sI .i64 0]) ([.tok]) .fin) (.ans 20 (.agg [sI .i64 0,sI .i64 0,sI .i64 0,sI .i64 0]) ([]) .fin))) (.ans 20 (.agg [sI .i64 0,sI .i64 0,sI .i64 0,sI .i64 0]) ([]) (.fork (.ans 20 (.agg [sI .i64 0,sI .i64 0,sI .i64 0,sI .i64 0]) ([.tok]) .fin) (.ans 20 (.agg [sI .i64 0,sI .i64 0,sI .i64 0,sI .i64 0]) ([]) .fin)))))) (.ans 20 (.agg [sI .i64 0,sI .i64 0,sI .i64 0,sI .i64 0]) ([]) (.fork (.fork (.ans 20 (.agg [sI .i64 0,sI .i64 0,sI .i64 0,sI .i64 0]) ([]) (.fork (.ans 20 (.agg [sI .i64 0,sI .i64 0,sI .i64 0,sI .i64 0]) ([.tok]) .fin) (.ans 20 (.agg [sI .i64 0,sI .i64 0,sI .i64 0,sI .i64 0]) ([]) .fin))) (.ans 20 (.agg [sI .i64 0,sI .i64 0,sI .i64 0,sI .i64 0]) ([]) (.fork (.ans 20 (.agg [sI .i64 0,sI .i64 0,sI .i64 0,sI .i64 0]) ([.tok]) .fin) (.ans 20 (.agg [sI .i64 0,sI .i64 0,sI .i64 0,sI .i64 0]) ([]) .fin)))) (.fork (.ans 20 (.agg [sI .i64 0,sI .i64 0,sI .i64 0,sI .i64 0]) ([]) (.fork (.ans 20 (.agg [sI .i64 0,sI .i64 0,sI .i64 0,sI .i64 0]) ([.tok]) .fin) (.ans 20 (.agg [sI .i64 0,sI .i64 0,sI .i64 0,sI .i64 0]) ([]) .fin))) (.ans 20 (.agg [sI .i64 0,sI .i64 0,sI .i64 0,sI .i64 0]) ([]) (.fork (.ans 20 (.agg [sI .i64 0,sI .i64 0,sI .i64 0,sI .i64 0]) ([.tok]) .fin) (.ans 20 (.agg [sI .i64 0,sI .i64 0,sI .i64 0,sI .i64 0]) ([]) .fin))))))))))))
def oG (M:Mo):az:=
 (.test (decide ((↑M.tys.length:Int)>0)) (.must (((0+M.fns.length)*40).ble gi&&(0+M.fns.length).ble gi&&true) (.must (((0+M.fns.length+1)*40).ble gi&&(0+M.fns.length+1).ble gi&&true) (.call ⟨20,[.agg [.p (.ps M.tys.length 2 (aem cP M.tys)),.p (.ps M.aQ.length 3 (aem bK M.aQ)),.os (some 0) (0+M.fns.length+1) 3 ([]++aem bG M.fns++[sP 0,sP 0,.ps 1 8 [sP 0,sP 0,.sc (.int .u32 0),.sc (.int .u32 0),.sc (.int .i32 0),.ps 0 0 [],.ps 0 0 [],.ps 0 0 []]]),.p (.ps M.fR.length 3 (aem bN M.fR)),.p (.ps M.gA.length 3 (aem bN M.gA)),.p (.ps M.gls.length 2 (aem dD M.gls)),.p (.ps M.exs.length 3 (aem aS M.exs)),.p (.sc (.bool M.st)),sI .u32 M.sn,.p (.ps M.els.length 2 (aem bA M.els)),.p (.ps M.bk.length 2 (aem bU M.bk))]],[.tok],.agg [sI .i64 0,sI .i64 0,sI .i64 0,sI .i64 0],[.tok]⟩ F1))) (.call ⟨20,[.agg (ab6 AV.p M.aI)],[],.agg [sI .i64 0,sI .i64 0,sI .i64 0,sI .i64 0],[]⟩ F1))
def yY (M:Mo):az:=
 (.test (decide ((↑M.bk.length:Int)>0)) (.must (decide (0≤sb.wrap ((↑M.bk.length:Int)-1))&&true&&(sb.wrap ((↑M.bk.length:Int)-1)).toNat.ble M.bk.length&&true&&true) (.test (decide ((↑M.els.length:Int)>0)) (.must (decide (0≤sb.wrap ((↑M.els.length:Int)-1))&&true&&(sb.wrap ((↑M.els.length:Int)-1)).toNat.ble M.els.length&&true&&true) (.call ⟨20,[.agg [.p (.ps M.tys.length 2 (aem cP M.tys)),.p (.ps M.aQ.length 3 (aem bK M.aQ)),.p (.ps M.fns.length 3 (aem bG M.fns)),.p (.ps M.fR.length 3 (aem bN M.fR)),.p (.ps M.gA.length 3 (aem bN M.gA)),.p (.ps M.gls.length 2 (aem dD M.gls)),.p (.ps M.exs.length 3 (aem aS M.exs)),.p (.sc (.bool M.st)),sI .u32 M.sn,.p (.ps ((sb.wrap ((↑M.els.length:Int)-1)).toNat-0) 2 (cut (aem bA M.els) (times none 0 2) (times (some (afz 57)) (sb.wrap ((↑M.els.length:Int)-1)).toNat 2))),.p (.ps ((sb.wrap ((↑M.bk.length:Int)-1)).toNat-0) 2 (cut (aem bU M.bk) (times none 0 2) (times (some (afz 45)) (sb.wrap ((↑M.bk.length:Int)-1)).toNat 2)))]],[],.agg [sI .i64 0,sI .i64 0,sI .i64 0,sI .i64 0],[]⟩ (oG M))) (.call ⟨20,[.agg [.p (.ps M.tys.length 2 (aem cP M.tys)),.p (.ps M.aQ.length 3 (aem bK M.aQ)),.p (.ps M.fns.length 3 (aem bG M.fns)),.p (.ps M.fR.length 3 (aem bN M.fR)),.p (.ps M.gA.length 3 (aem bN M.gA)),.p (.ps M.gls.length 2 (aem dD M.gls)),.p (.ps M.exs.length 3 (aem aS M.exs)),.p (.sc (.bool M.st)),sI .u32 M.sn,.p (.ps M.els.length 2 (aem bA M.els)),.p (.ps ((sb.wrap ((↑M.bk.length:Int)-1)).toNat-0) 2 (cut (aem bU M.bk) (times none 0 2) (times (some (afz 45)) (sb.wrap ((↑M.bk.length:Int)-1)).toNat 2)))]],[],.agg [sI .i64 0,sI .i64 0,sI .i64 0,sI .i64 0],[]⟩ (oG M)))) (.test (decide ((↑M.els.length:Int)>0)) (.must (decide (0≤sb.wrap ((↑M.els.length:Int)-1))&&true&&(sb.wrap ((↑M.els.length:Int)-1)).toNat.ble M.els.length&&true&&true) (.call ⟨20,[.agg [.p (.ps M.tys.length 2 (aem cP M.tys)),.p (.ps M.aQ.length 3 (aem bK M.aQ)),.p (.ps M.fns.length 3 (aem bG M.fns)),.p (.ps M.fR.length 3 (aem bN M.fR)),.p (.ps M.gA.length 3 (aem bN M.gA)),.p (.ps M.gls.length 2 (aem dD M.gls)),.p (.ps M.exs.length 3 (aem aS M.exs)),.p (.sc (.bool M.st)),sI .u32 M.sn,.p (.ps ((sb.wrap ((↑M.els.length:Int)-1)).toNat-0) 2 (cut (aem bA M.els) (times none 0 2) (times (some (afz 57)) (sb.wrap ((↑M.els.length:Int)-1)).toNat 2))),.p (.ps M.bk.length 2 (aem bU M.bk))]],[],.agg [sI .i64 0,sI .i64 0,sI .i64 0,sI .i64 0],[]⟩ (oG M))) (.call ⟨20,[.agg (ab6 AV.p M.aI)],[],.agg [sI .i64 0,sI .i64 0,sI .i64 0,sI .i64 0],[]⟩ (oG M))))
def PS (M:Mo) (lg:Bool) (e n i a:Int):az:=
 (.call ⟨22,[],[],sB true,[]⟩
 (.call ⟨6,[.agg (ab6 AV.p M.aI),sI .i64 5000],[],.p (.sc (.bool lg)),[]⟩
 (.test (lg)
 F1
 (.call ⟨20,[.agg (ab6 AV.p M.aI)],[],.agg [sI .i64 e,sI .i64 n,sI .i64 i,sI .i64 a],[]⟩
 (.test (!(fun r=>e==0&&r) ((fun r=>n==0&&r) ((fun r=>i==0&&r) ((fun r=>a==0&&r) true))))
 F1
 (.test (decide ((↑M.exs.length:Int)>0))
 (.must (decide (0≤sb.wrap ((↑M.exs.length:Int)-1))&&true&&(sb.wrap ((↑M.exs.length:Int)-1)).toNat.ble M.exs.length&&true&&true)
 (.call ⟨20,[.agg [.p (.ps M.tys.length 2 (aem cP M.tys)),.p (.ps M.aQ.length 3 (aem bK M.aQ)),.p (.ps M.fns.length 3 (aem bG M.fns)),.p (.ps M.fR.length 3 (aem bN M.fR)),.p (.ps M.gA.length 3 (aem bN M.gA)),.p (.ps M.gls.length 2 (aem dD M.gls)),.p (.ps ((sb.wrap ((↑M.exs.length:Int)-1)).toNat-0) 3 (cut (aem aS M.exs) (times none 0 3) (times (some (afz 26)) (sb.wrap ((↑M.exs.length:Int)-1)).toNat 3))),sB false,sI .u32 0,.p (.ps M.els.length 2 (aem bA M.els)),.p (.ps M.bk.length 2 (aem bU M.bk))]],[],.agg [sI .i64 0,sI .i64 0,sI .i64 0,sI .i64 0],[]⟩
 (yY M)))
 (.call ⟨20,[.agg [.p (.ps M.tys.length 2 (aem cP M.tys)),.p (.ps M.aQ.length 3 (aem bK M.aQ)),.p (.ps M.fns.length 3 (aem bG M.fns)),.p (.ps M.fR.length 3 (aem bN M.fR)),.p (.ps M.gA.length 3 (aem bN M.gA)),.p (.ps M.gls.length 2 (aem dD M.gls)),.p (.ps M.exs.length 3 (aem aS M.exs)),sB false,sI .u32 0,.p (.ps M.els.length 2 (aem bA M.els)),.p (.ps M.bk.length 2 (aem bU M.bk))]],[],.agg [sI .i64 0,sI .i64 0,sI .i64 0,sI .i64 0],[]⟩
 (yY M))))))))
theorem Tm (M:Mo) (lg:Bool) (e n i a:Int):aG acb env abz 1000000 5 ([AV.agg (ab6 AV.p M.aI)]) ([]) (aeI M lg e n i a)=PS M lg e n i a:=by kernel_rfl
theorem PT {g:Gh} {w:World} : ∀(l l':List AV) (vs:List Value),bu KQ l l'→cL g w l vs→cL (g.pack []) w l' vs:=by
 intro l
 induction l with
 |nil=>intro l' vs h1 h2;cases l'<;>cases vs<;>first | trivial | exact h1.elim | exact h2.elim
 |cons a l ih=>
  intro l' vs h1 h2
  cases l' with
  |nil=>exact h1.elim
  |cons b l'=>cases vs with
   |nil=>exact h2.elim
   |cons x vs=>exact⟨h1.1 g w x h2.1,ih l' vs h1.2 h2.2⟩
theorem KQ.agg {l l':List AV} (h:bu KQ l l'):KQ (.agg l) (.agg l'):=fun g w v hv=>by
 cases hv with
 |agg _ cs hn hc=>exact VA.zk.2 (PT _ _ _ h (bu.dA hn hc))
theorem Bx {α:Type} {z:Nat} {enc:α→List PV} (hz : ∀x,(enc x).length=z) : ∀(l:List α) (n:Nat),(l.flatMap enc).take (n*z)=(l.take n).flatMap enc
 |[],n=>by simp
 |x::r,0=>by simp
 |x::r,n+1=>by
  rw[List.take_succ_cons,adE,adE,show(n+1)*z=z+n*z by rw[Nat.add_mul];omega,List.take_append,hz,List.take_of_length_le (by rw[hz];omega),show z+n*z-z=n*z by omega,Bx hz r n]
theorem fm {α:Type} {z:Nat} {enc:α→List PV} (hz : ∀x,(enc x).length=z) (l:List α) (hl:0<l.length) (h:l.length≤1000000) (t:Operand) :
  (AV.p (.ps ((sb.wrap ((l.length:Int)-1)).toNat-0) z (cut (l.flatMap enc) (times none 0 z) (times (some t) (sb.wrap ((l.length:Int)-1)).toNat z)))) = .p (.ps (l.take (l.length-1)).length z ((l.take (l.length-1)).flatMap enc)):=by
 have w:sb.wrap ((l.length:Int)-1)=((l.length-1:Nat):Int):=by rw[aN (by omega) (by omega)];omega
 rw[w,Int.toNat_natCast]
 show AV.p (.ps (l.length-1-0) z ((l.flatMap enc).take ((l.length-1)*z)))=_
 rw[Bx hz,List.length_take,Nat.sub_zero,Nat.min_eq_left (by omega)]
theorem eo {α:Type} {l:List α} (h : ¬0<l.length):l.take (l.length-1)=l:=by
 have e:l=[]:=List.length_eq_zero_iff.1 (by omega)
 rw[e];rfl
theorem Fb {M:Mo} (h:M.fit) (h5:M.fns.length≤16000):(cm M).fit:=⟨h.tys,h.aQ,by simp[cm];omega,h.fR,h.gA,h.gls,h.exs,h.els,h.bk⟩
theorem Tn:QW pX:=by
 refine⟨by decide,by decide,by decide,?_⟩
 show F0 [pW]
 simp only[F0,QJ,pW]
 decide
theorem To {M:Mo} (h:M.wf) (h5:M.fns.length≤16000):(cm M).wf:=⟨h.tys,h.aQ,⟨by simp[cm];unfold maxLen;omega,fun x hx=>by
 rcases na.1 hx with q | q
 · exact h.fns.2 x q
 · rw[ab5] at q
   subst q
   exact Tn⟩,h.fR,h.gA,h.gls,h.exs,h.sn,h.els,h.bk⟩
theorem KM {M:Mo} (h:M.vn):(cm M).vn:=fun l hl=>by
 simp only[qw,cm,List.map_append,oT,wi,na,ab5] at hl
 rcases hl with((((q | q) | q) | q) | q)
 · exact h l (by simp only[qw,na];exact .inl (.inl (.inl q)))
 · subst q
   exact ba (by decide:cN pX.l≤1) (by decide)
 · exact h l (by simp only[qw,na];exact .inl (.inl (.inr q)))
 · exact h l (by simp only[qw,na];exact .inl (.inr q))
 · exact h l (by simp only[qw,na];exact .inr q)
theorem KN {M:Mo} (h:oz M=false) : ∀x∈M.els,x.fs.length≤1000000000:=by
 unfold oz at h
 split at h
 · cases h
 rename_i q
 have h : ¬J8 M>5000:=by simpa using h
 have q:lens M≤5000:=by omega
 intro x hx
 have h1:1≤M.els.length:=List.length_pos_of_mem hx
 have hl:(M.els.length:Int)≤lens M:=by unfold lens;omega
 have r1:=cq Ew M.fns (lens M)
 have r2:=cq Ey M.gls (bW qD (lens M) M.fns)
 have c:=oZ Ez M.els (bW vo (bW qD (lens M) M.fns) M.gls) x hx
 have r4:=cq EA M.bk (bW zX (bW vo (bW qD (lens M) M.fns) M.gls) M.els)
 have r5:=cq Iz M.aQ (bW Gw (bW zX (bW vo (bW qD (lens M) M.fns) M.gls) M.els) M.bk)
 have r6:=cq Oi M.exs (bW P5 (bW Gw (bW zX (bW vo (bW qD (lens M) M.fns) M.gls) M.els) M.bk) M.aQ)
 unfold J8 at h
 have e:zX x=dn x.l 5000 0+min (x.fs.length:Int) 5000:=rfl
 have i:=bZ x.l 5000 0 (by decide) (by decide) (by decide)
 omega
theorem PU (M:Mo):L7 (.ps (0+M.fns.length+1) 3 ([]++aem bG M.fns++[sP 0,sP 0,.ps 1 8 [sP 0,sP 0,.sc (.int .u32 0),.sc (.int .u32 0),.sc (.int .i32 0),.ps 0 0 [],.ps 0 0 [],.ps 0 0 []]])) (.ps (cm M).fns.length 3 ((cm M).fns.flatMap bG)):=by
 have e1:(cm M).fns.length=0+M.fns.length+1:=by simp[cm]
 have e2:(cm M).fns.flatMap bG=[]++M.fns.flatMap bG++bG pX:=by simp[cm]
 rw[e1,e2]
 exact L7.ps (zP.append (.refl _) ⟨.refl _,.refl _,.ps ⟨.refl _,.refl _,.refl _,.refl _,.refl _,.nil,.nil,.nil,trivial⟩,trivial⟩)
theorem Tp (M:Mo) (hw:M.wf) (hs:M.short):an acb env 5 [.agg (M.aI.map .p)] [] (sB true) []:=by
 have haw:an acb env 22 [] [] (sB true) []:=Go.Am.an.env Yg fun _ _ q=>q
 have hlg:=Gx M hw hs
 refine af aM (Tm M (oz M) (ng M (cj M)).1 (ng M (cj M)).2.1 (ng M (cj M)).2.2.1 (ng M (cj M)).2.2.2) ?_
 simp only[PS,oG,yY,bF,az.ok]
 refine⟨haw,hlg,fun _=>(by first | rfl | trivial),fun hl=> ?_⟩
 obtain⟨hf,Qd,h5⟩:=J9 hl
 have hel : ∀x∈M.els,x.fs.length≤1000000000:=KN hl
 have h1:=hf.exs;have h2:=hf.els;have h3:=hf.bk;have h4:=hf.fns
 have hfn:M.fns.length≤5000:=by unfold lens at h5;omega
 have h0:=uZ M hf hw Qd hel
 refine⟨h0,fun _=>(by first | rfl | trivial),fun hz=> ?_⟩
 have hz:ng M (cj M)=(0,0,0,0):=by
  generalize ng M (cj M)=W at hz
  obtain⟨a,b,c,d⟩:=W
  simp only[Bool.not_eq_false',aeq,c8,beq_iff_eq] at hz
  obtain⟨rfl,rfl,rfl,rfl⟩:=hz
  rfl
 have hv:M.Valid:=(Bc M).1 hz
 have z : ∀A:Mo,A.Valid→A.fit→A.wf→A.vn→(∀x∈A.els,x.fs.length≤1000000000)→an acb env 20 [.agg (A.aI.map .p)] [] (.agg [sI .i64 0,sI .i64 0,sI .i64 0,sI .i64 0]) []:=fun A v f w s e=>by
  have k:=uZ A f w s e
  rw[(Bc A).2 v] at k
  exact k
 have hN:=z M hv hf hw Qd hel
 have hX:=z (yH M) (EG hv) (Ov (so M) hf) (TR (so M) hw) (ID (so M) Qd) hel
 have hD:=z (sk M) (EH hv) (Ov (sr M) hf) (TR (sr M) hw) (ID (sr M) Qd) (fun x hx=>hel x (List.mem_of_mem_take hx))
 have hT:0<M.tys.length→_:=fun ht=>an.Zh (m:=[.tok]) (args:=[.agg [.p (.ps M.tys.length 2 (aem cP M.tys)),.p (.ps M.aQ.length 3 (aem bK M.aQ)),.os (some 0) (0+M.fns.length+1) 3 ([]++aem bG M.fns++[sP 0,sP 0,.ps 1 8 [sP 0,sP 0,.sc (.int .u32 0),.sc (.int .u32 0),.sc (.int .i32 0),.ps 0 0 [],.ps 0 0 [],.ps 0 0 []]]),.p (.ps M.fR.length 3 (aem bN M.fR)),.p (.ps M.gA.length 3 (aem bN M.gA)),.p (.ps M.gls.length 2 (aem dD M.gls)),.p (.ps M.exs.length 3 (aem aS M.exs)),.p (.sc (.bool M.st)),sI .u32 M.sn,.p (.ps M.els.length 2 (aem bA M.els)),.p (.ps M.bk.length 2 (aem bU M.bk))]])
  (z (cm M) (GC hv (by omega) hf (Fb hf (by omega)) ht) (Fb hf (by omega)) (To hw (by omega)) (KM Qd) hel)
  ⟨KQ.agg ⟨.p (.refl _),.p (.refl _),.os (PU M),.p (.refl _),.p (.refl _),.p (.refl _),.p (.refl _),.p (.refl _),.p (.refl _),.p (.refl _),.p (.refl _),trivial⟩,trivial⟩
 have mu : ∀n:Nat,0<n→n≤1000000→(decide (0≤sb.wrap ((n:Int)-1))&&true&&(sb.wrap ((n:Int)-1)).toNat.ble n&&true&&true)=true:=fun n a b=>by
  rw[aN (n:=(n:Int)-1) (by omega) (by omega)]
  simp only[aeq,c8,decide_eq_true_eq,aeN]
  omega
 have Cr:gi=70368744177664:=rfl
 have l1:(((0+M.fns.length)*40).ble gi&&(0+M.fns.length).ble gi&&true)=true:=by simp only[aeq,c8,aeN];omega
 have l2:(((0+M.fns.length+1)*40).ble gi&&(0+M.fns.length+1).ble gi&&true)=true:=by simp only[aeq,c8,aeN];omega
 by_cases cX:0<M.exs.length<;>by_cases cD:0<M.bk.length<;>by_cases cE:0<M.els.length
 · have gX:decide ((M.exs.length:Int)>0)=true:=decide_eq_true (by omega)
   have eX:=fm (z:=3) (enc:=aS) (fun _=>rfl) M.exs cX (by omega)
   have gD:decide ((M.bk.length:Int)>0)=true:=decide_eq_true (by omega)
   have eD:=fm (z:=2) (enc:=bU) (fun _=>rfl) M.bk cD (by omega)
   have gE:decide ((M.els.length:Int)>0)=true:=decide_eq_true (by omega)
   have eE:=fm (z:=2) (enc:=bA) (fun _=>rfl) M.els cE (by omega)
   simp only[gX,eX,mu _ cX (by omega:M.exs.length≤1000000),gD,eD,mu _ cD (by omega:M.bk.length≤1000000),gE,eE,mu _ cE (by omega:M.els.length≤1000000),pb,ae5,false_implies,true_implies,true_and,and_true]
   exact⟨hX,hD,fun gt=>⟨l1,l2,hT (by simpa using gt)⟩,fun _=>hN⟩
 · have gX:decide ((M.exs.length:Int)>0)=true:=decide_eq_true (by omega)
   have eX:=fm (z:=3) (enc:=aS) (fun _=>rfl) M.exs cX (by omega)
   have gD:decide ((M.bk.length:Int)>0)=true:=decide_eq_true (by omega)
   have eD:=fm (z:=2) (enc:=bU) (fun _=>rfl) M.bk cD (by omega)
   have gE:decide ((M.els.length:Int)>0)=false:=decide_eq_false (by omega)
   have hD:an acb env 20 [.agg (({M with els:=M.els,bk:=M.bk.take (M.bk.length-1)}:Mo).aI.map .p)] [] (.agg [sI .i64 0,sI .i64 0,sI .i64 0,sI .i64 0]) []:=by
    have k:=hD
    unfold sk at k
    rw[eo cE] at k
    exact k
   simp only[gX,eX,mu _ cX (by omega:M.exs.length≤1000000),gD,eD,mu _ cD (by omega:M.bk.length≤1000000),gE,pb,ae5,false_implies,true_implies,true_and,and_true]
   exact⟨hX,hD,fun gt=>⟨l1,l2,hT (by simpa using gt)⟩,fun _=>hN⟩
 · have gX:decide ((M.exs.length:Int)>0)=true:=decide_eq_true (by omega)
   have eX:=fm (z:=3) (enc:=aS) (fun _=>rfl) M.exs cX (by omega)
   have gD:decide ((M.bk.length:Int)>0)=false:=decide_eq_false (by omega)
   have gE:decide ((M.els.length:Int)>0)=true:=decide_eq_true (by omega)
   have eE:=fm (z:=2) (enc:=bA) (fun _=>rfl) M.els cE (by omega)
   have hD:an acb env 20 [.agg (({M with els:=M.els.take (M.els.length-1),bk:=M.bk}:Mo).aI.map .p)] [] (.agg [sI .i64 0,sI .i64 0,sI .i64 0,sI .i64 0]) []:=by
    have k:=hD
    unfold sk at k
    rw[eo cD] at k
    exact k
   simp only[gX,eX,mu _ cX (by omega:M.exs.length≤1000000),gD,gE,eE,mu _ cE (by omega:M.els.length≤1000000),pb,ae5,false_implies,true_implies,true_and,and_true]
   exact⟨hX,hD,fun gt=>⟨l1,l2,hT (by simpa using gt)⟩,fun _=>hN⟩
 · have gX:decide ((M.exs.length:Int)>0)=true:=decide_eq_true (by omega)
   have eX:=fm (z:=3) (enc:=aS) (fun _=>rfl) M.exs cX (by omega)
   have gD:decide ((M.bk.length:Int)>0)=false:=decide_eq_false (by omega)
   have gE:decide ((M.els.length:Int)>0)=false:=decide_eq_false (by omega)
   have hD:an acb env 20 [.agg (({M with els:=M.els,bk:=M.bk}:Mo).aI.map .p)] [] (.agg [sI .i64 0,sI .i64 0,sI .i64 0,sI .i64 0]) []:=by
    have k:=hD
    unfold sk at k
    rw[eo cE] at k
    rw[eo cD] at k
    exact k
   simp only[gX,eX,mu _ cX (by omega:M.exs.length≤1000000),gD,gE,pb,ae5,false_implies,true_implies,true_and,and_true]
   exact⟨hX,hD,fun gt=>⟨l1,l2,hT (by simpa using gt)⟩,fun _=>hN⟩
 · have gX:decide ((M.exs.length:Int)>0)=false:=decide_eq_false (by omega)
   have gD:decide ((M.bk.length:Int)>0)=true:=decide_eq_true (by omega)
   have eD:=fm (z:=2) (enc:=bU) (fun _=>rfl) M.bk cD (by omega)
   have gE:decide ((M.els.length:Int)>0)=true:=decide_eq_true (by omega)
   have eE:=fm (z:=2) (enc:=bA) (fun _=>rfl) M.els cE (by omega)
   have hX:an acb env 20 [.agg (({M with exs:=M.exs,st:=false,sn:=0}:Mo).aI.map .p)] [] (.agg [sI .i64 0,sI .i64 0,sI .i64 0,sI .i64 0]) []:=by
    have k:=hX
    unfold yH at k
    rw[eo cX] at k
    exact k
   simp only[gX,gD,eD,mu _ cD (by omega:M.bk.length≤1000000),gE,eE,mu _ cE (by omega:M.els.length≤1000000),pb,ae5,false_implies,true_implies,true_and,and_true]
   exact⟨hX,hD,fun gt=>⟨l1,l2,hT (by simpa using gt)⟩,fun _=>hN⟩
 · have gX:decide ((M.exs.length:Int)>0)=false:=decide_eq_false (by omega)
   have gD:decide ((M.bk.length:Int)>0)=true:=decide_eq_true (by omega)
   have eD:=fm (z:=2) (enc:=bU) (fun _=>rfl) M.bk cD (by omega)
   have gE:decide ((M.els.length:Int)>0)=false:=decide_eq_false (by omega)
   have hX:an acb env 20 [.agg (({M with exs:=M.exs,st:=false,sn:=0}:Mo).aI.map .p)] [] (.agg [sI .i64 0,sI .i64 0,sI .i64 0,sI .i64 0]) []:=by
    have k:=hX
    unfold yH at k
    rw[eo cX] at k
    exact k
   have hD:an acb env 20 [.agg (({M with els:=M.els,bk:=M.bk.take (M.bk.length-1)}:Mo).aI.map .p)] [] (.agg [sI .i64 0,sI .i64 0,sI .i64 0,sI .i64 0]) []:=by
    have k:=hD
    unfold sk at k
    rw[eo cE] at k
    exact k
   simp only[gX,gD,eD,mu _ cD (by omega:M.bk.length≤1000000),gE,pb,ae5,false_implies,true_implies,true_and,and_true]
   exact⟨hX,hD,fun gt=>⟨l1,l2,hT (by simpa using gt)⟩,fun _=>hN⟩
 · have gX:decide ((M.exs.length:Int)>0)=false:=decide_eq_false (by omega)
   have gD:decide ((M.bk.length:Int)>0)=false:=decide_eq_false (by omega)
   have gE:decide ((M.els.length:Int)>0)=true:=decide_eq_true (by omega)
   have eE:=fm (z:=2) (enc:=bA) (fun _=>rfl) M.els cE (by omega)
   have hX:an acb env 20 [.agg (({M with exs:=M.exs,st:=false,sn:=0}:Mo).aI.map .p)] [] (.agg [sI .i64 0,sI .i64 0,sI .i64 0,sI .i64 0]) []:=by
    have k:=hX
    unfold yH at k
    rw[eo cX] at k
    exact k
   have hD:an acb env 20 [.agg (({M with els:=M.els.take (M.els.length-1),bk:=M.bk}:Mo).aI.map .p)] [] (.agg [sI .i64 0,sI .i64 0,sI .i64 0,sI .i64 0]) []:=by
    have k:=hD
    unfold sk at k
    rw[eo cD] at k
    exact k
   simp only[gX,gD,gE,eE,mu _ cE (by omega:M.els.length≤1000000),pb,ae5,false_implies,true_implies,true_and,and_true]
   exact⟨hX,hD,fun gt=>⟨l1,l2,hT (by simpa using gt)⟩,fun _=>hN⟩
 · have gX:decide ((M.exs.length:Int)>0)=false:=decide_eq_false (by omega)
   have gD:decide ((M.bk.length:Int)>0)=false:=decide_eq_false (by omega)
   have gE:decide ((M.els.length:Int)>0)=false:=decide_eq_false (by omega)
   have hX:an acb env 20 [.agg (({M with exs:=M.exs,st:=false,sn:=0}:Mo).aI.map .p)] [] (.agg [sI .i64 0,sI .i64 0,sI .i64 0,sI .i64 0]) []:=by
    have k:=hX
    unfold yH at k
    rw[eo cX] at k
    exact k
   have hD:an acb env 20 [.agg (({M with els:=M.els,bk:=M.bk}:Mo).aI.map .p)] [] (.agg [sI .i64 0,sI .i64 0,sI .i64 0,sI .i64 0]) []:=by
    have k:=hD
    unfold sk at k
    rw[eo cE] at k
    rw[eo cD] at k
    exact k
   simp only[gX,gD,gE,pb,ae5,false_implies,true_implies,true_and,and_true]
   exact⟨hX,hD,fun gt=>⟨l1,l2,hT (by simpa using gt)⟩,fun _=>hN⟩
end Go.Proofs.YtdmmllcjgjmbbaaGreatDoor.N
end
section
set_option linter.unusedVariables false
namespace Go.Am
open Go.RowKit Go.Lib
section
variable {H:Type} {enc:TypeId×Value→H} {P:Program} {w:World} {base:Nat} {spare:Nat→Bool} {held:Bool}
theorem yZ {lt te:TypeId} (ht:P.underlying lt=some (.slice te)) (hb:1≤P.bytesOf te) {fuel:Nat} {v:Value} {x:DataW H×List MemPlace} (h:abO enc P w base spare held fuel lt [v]=some x)
  (hw : ∀n∈x.1.weights P lt,n≤reachBytes) {g:Gh} {len sz:Nat} {cells:List PV} (hv:VP g w (.ps len sz cells) v):len≤reachBytes:=by
 rcases DataW.trod_slice ht h with⟨e,_⟩ | ⟨a,len',cap,elems,rest,n,rfl,e,rfl,_,_,_,hel,_,_,_⟩
 · obtain rfl:v = .slice none 0 0:=(List.cons.inj e).1
   cases hv with
   |sS=>exact Nat.zero_le _
 · obtain rfl:v = .slice (some a) len' cap:=(List.cons.inj e).1
   have hm:(elems.length+rest.length)*P.bytesOf te∈afB P lt (.slice (elems.map (·.1)) (rest.map (·.1))):=by
    rw[afB,ht]
    simp
   have q:=hw _ hm
   have r:elems.length≤(elems.length+rest.length)*P.bytesOf te:=ba (Nat.le_add_right _ _) (Nat.le_mul_of_pos_right _ hb)
   have hlen:len=len':=by cases hv<;>rfl
   omega
theorem oH : ∀{ts:List TypeId} {ds:List (DataW H)} {i:Nat} {t:TypeId} {d:DataW H},ts[i]? = some t→ds[i]? = some d → ∀n∈d.weights P t,n∈afA P ts ds
 |t'::ts,d'::ds,0,t,d,h1,h2,n,hn=>by
  simp only[mf,Option.some.injEq] at h1 h2
  subst h1;subst h2
  rw[afA]
  exact List.mem_append_left _ hn
 |t'::ts,d'::ds,i+1,t,d,h1,h2,n,hn=>by
  simp only[mi] at h1 h2
  rw[afA]
  exact List.mem_append_right _ (oH h1 h2 n hn)
variable {tM sD sE sF nw sG sH sJ sK uN uO vI zT rS uP uQ uR uS tL tI ti tu tn tt ts tb t8 tk:TypeId}
theorem PW (T:Ff P tM sD sE sF nw sG sH sJ sK uN uO vI zT rS uP uQ uR uS tL tI ti tu tn tt ts tb t8 tk) (hb : ∀t∈[uN,uO,vI,rS,uP,uQ,uR,uS],1≤P.bytesOf t)
  {fuel:Nat} {cs:List Value} {x:DataW H×List MemPlace} (h:abO enc P w base spare held fuel tM cs=some x) (hw : ∀n∈x.1.weights P tM,n≤reachBytes) {g:Gh} {M:Mo} (hv:Ho g w M.aI cs):M.short:=by
 obtain⟨fs,q1,q2,q3⟩:=T.st (tM,[sD,sE,sF,nw,nw,sG,sH,tb,tu,sJ,sK]) (by simp)
 obtain⟨xs,n,rfl,rfl,h3,h4,h5⟩:=afD q1 h
 have hW : ∀n∈afA P (fs.toList.map (·.type)) (xs.map (·.1)),n≤reachBytes:=by
  intro n hn
  refine hw n ?_
  rw[afB,q1]
  exact hn
 have one : ∀(i:Nat) (lt te:TypeId) (len sz:Nat) (cells:List PV) (v:Value),[sD,sE,sF,nw,nw,sG,sH,tb,tu,sJ,sK][i]? = some lt→(lt,te)∈[(sD,uN),(sE,uO),(sF,vI),(nw,rS),(sG,uP),(sH,uQ),(sJ,uR),(sK,uS)] →
   P.cellsOf lt=1→1≤P.bytesOf te→(cs.drop i).take 1=[v]→VP g w (.ps len sz cells) v→len≤1000000000000000:=by
  intro i lt te len sz cells v hi hm gP Qj hcs hvp
  obtain⟨f,f1,f2,f3⟩:=UU (fs:=fs) (i:=i) (o:=i) (t:=lt) (by rw[q3,dT,List.getElem?_zipIdx,hi];simp)
  have e:=h5 i f f1
  rw[f2,f3,gP,hcs] at e
  have BP:i<xs.length:=by
   rw[h4]
   rcases Nat.lt_or_ge i fs.size with q | q
   · exact q
   · rw[Array.getElem?_eq_none q] at f1;cases f1
  rw[cb BP] at e
  have r:=yZ (T.sl (lt,te) hm) Qj e (fun n hn=>hW n (oH (i:=i) (t:=lt) (d:=xs[i].1) (by rw[dT,lv,f1];simp[f3]) (by rw[dT,cb BP];rfl) n hn)) hvp
  have:reachBytes≤1000000000000000:=by decide
  omega
 match cs,hv with
 |[u0,u1,u2,u3,u4,u5,u6,u7,u8,u9,u10],hv=>
  obtain⟨v0,v1,v2,v3,v4,v5,v6,v7,v8,v9,v10,_⟩:=hv
  exact⟨one 0 sD uN _ _ _ u0 rfl (by simp) (T.c1 (by simp)) (hb _ (by simp)) rfl v0,one 1 sE uO _ _ _ u1 rfl (by simp) (T.c1 (by simp)) (hb _ (by simp)) rfl v1,one 2 sF vI _ _ _ u2 rfl (by simp) (T.c1 (by simp)) (hb _ (by simp)) rfl v2,
   one 3 nw rS _ _ _ u3 rfl (by simp) (T.c1 (by simp)) (hb _ (by simp)) rfl v3,one 4 nw rS _ _ _ u4 rfl (by simp) (T.c1 (by simp)) (hb _ (by simp)) rfl v4,one 5 sG uP _ _ _ u5 rfl (by simp) (T.c1 (by simp)) (hb _ (by simp)) rfl v5,
   one 6 sH uQ _ _ _ u6 rfl (by simp) (T.c1 (by simp)) (hb _ (by simp)) rfl v6,one 9 sJ uR _ _ _ u9 rfl (by simp) (T.c1 (by simp)) (hb _ (by simp)) rfl v9,one 10 sK uS _ _ _ u10 rfl (by simp) (T.c1 (by simp)) (hb _ (by simp)) rfl v10⟩
end
theorem G6 {P:Program} {W:World} {name:String} {d:DataW Unit} {k:IntKind} {zs:List (Int×Int)} {g t e n t1:Nat} {fs:Array Field} (h:VarReads P W name d) (hd:d = .agg (zs.map fun z=> .agg [.lit (.int k z.1),.lit (.int k z.2)])) (hg:P.globalNamed name=some g)
  (ht:(P.globals[g]?).map (·.type)=some t) (hu:P.underlying t=some (.array n e)) (he:P.underlying e=some (.struct fs)) (hf:(fs.toList.map fun f=>(f.offset,f.type))=[(0,t1),(1,t1)]) (hk:P.underlying t1=some (.int k)) (hc:P.cellsOf e=2) (gP:P.cellsOf t1=1) (hn:zs.length≤n) :
  ∀(i:Nat) (v:Value),((zs.flatMap fun z=>[z.1,z.2]).map (Value.int k))[i]? = some v→W.cell? ⟨g,i,none⟩=some v∧v.oneCell'=true:=by
 subst hd
 obtain⟨g',t',cs,fuel,p,h1,h2,h3,h4⟩:=h
 rw[hg] at h1;cases h1
 rw[ht] at h2;cases h2
 have two : ∀(i:Nat) (z:Int×Int),zs[i]? = some z→W.cell? ⟨g,i*2,none⟩=some (.int k z.1)∧W.cell? ⟨g,i*2+1,none⟩=some (.int k z.2):=by
  intro i z hz
  have hi:i<zs.length:=(List.getElem?_eq_some_iff.1 hz).1
  obtain⟨fuel',d,q,hd,TE⟩:=array_elem hu h4 i (by omega)
  rw[dT,hz] at hd
  simp only[Option.map_some,Option.some.injEq] at hd
  subst hd
  obtain⟨xs,m,rfl,hx,hl,hxl,lK⟩:=afD he TE
  obtain⟨f0,a1,a2,a3⟩:=UU (fs:=fs) (i:=0) (o:=0) (t:=t1) (by rw[hf];rfl)
  obtain⟨f1,b1,b2,b3⟩:=UU (fs:=fs) (i:=1) (o:=1) (t:=t1) (by rw[hf];rfl)
  have e0:=lK 0 f0 a1
  have e1:=lK 1 f1 b1
  rw[a2,a3,gP] at e0
  rw[b2,b3,gP] at e1
  have hxs:=congrArg Prod.fst hx
  simp only[DataW.agg.injEq] at hxs
  have hs:fs.size=2:=by
   have:=congrArg List.length hf
   simpa using this
  rw[hs] at hxl
  match xs,hxl with
  |[x0,x1],_=>
   simp only[oT,wi,List.cons.injEq,and_true] at hxs
   simp only[mf,mi] at e0 e1
   obtain⟨z0,g0,k0,_⟩:=abR hk e0
   obtain⟨z1,g1,k1,_⟩:=abR hk e1
   obtain⟨y0,y1⟩:=hxs
   rw[k0] at y0
   rw[k1] at y1
   simp only[DataW.lit.injEq,Lit.int.injEq,true_and] at y0 y1
   subst y0;subst y1
   refine⟨?_,?_⟩
   · rw[World.var?_cell hg h3 (i*2),←lv]
     have:=congrArg (·[0]?) g0
     simpa[db,df,hc] using this
   · rw[World.var?_cell hg h3 (i*2+1),←lv]
     have:=congrArg (·[0]?) g1
     simpa[db,df,hc] using this
 have at2 : ∀(l:List (Int×Int)) (i:Nat) (v:Int),(l.flatMap fun z=>[z.1,z.2])[i]? = some v → ∃z,l[i / 2]? = some z∧((i%2=0∧v=z.1)∨(i%2=1∧v=z.2)):=by
  intro l
  induction l with
  |nil=>intro i v h;cases h
  |cons z r ih=>
   intro i v h
   match i,h with
   |0,h=>exact⟨z,rfl,.inl ⟨rfl,by simpa using h.symm⟩⟩
   |1,h=>exact⟨z,rfl,.inr ⟨rfl,by simpa using h.symm⟩⟩
   |i+2,h=>
    obtain⟨y,h1,h2⟩:=ih i v (by simpa using h)
    refine⟨y,?_,?_⟩
    · rw[show(i+2) / 2=i / 2+1 by omega];exact h1
    · rcases h2 with⟨a,b⟩ | ⟨a,b⟩
      · exact .inl ⟨by omega,b⟩
      · exact .inr ⟨by omega,b⟩
 intro i v hv
 rw[dT,Option.map_eq_some_iff] at hv
 obtain⟨z,hz,rfl⟩:=hv
 obtain⟨y,h1,h2⟩:=at2 zs i z hz
 obtain⟨c1,c2⟩:=two (i / 2) y h1
 refine⟨?_,rfl⟩
 rcases h2 with⟨a,rfl⟩ | ⟨a,rfl⟩
 · rw[show i / 2*2=i by omega] at c1;exact c1
 · rw[show i / 2*2+1=i by omega] at c2;exact c2
end Go.Am
end
section
namespace Go.Proofs.YtdmmllcjgjmbbaaGreatDoor.N
open Go Go.Am
def pz:List (String×DataW Unit):=Rows.validLessRow.laid
def abA:List (Int×Int):=[(128,191),(160,191),(128,159),(144,191),(128,143)]++List.replicate 11 (0,0)
theorem aeJ:Zi=abA.flatMap fun z=>[z.1,z.2]:=by decide
def fieldsOf (t:TypeId):Array Field:=match acb.underlying t with
 |some (.struct fs)=>fs
 |_=> #[]
theorem By {W:World} (h:laidMetH acb pz W):kg tabs W:=by
 rw[MakeChecks.laidMetH_plain _ _ _ (by kernel_rfl)] at h
 refine lp (uK (n:=256) (t:=190) (e:=5) (k:= .u8) (zs:=Mb) (afE h (n:= "strings.asciiSpace") (d:=Rows.laid_strings_asciiSpace) (.tail _ (.tail _ (.head _)))) (by kernel_rfl) (by kernel_rfl) (by kernel_rfl) (by kernel_rfl) (by kernel_rfl) (by kernel_rfl) (en (by kernel_rfl)))
  (lp (uK (n:=256) (t:=190) (e:=5) (k:= .u8) (zs:=iK) (afE h (n:= "unicode/utf8.first") (d:=Rows.laid_unicode_utf8_first) (.tail _ (.tail _ (.tail _ (.head _))))) (by kernel_rfl) (by kernel_rfl) (by kernel_rfl) (by kernel_rfl) (by kernel_rfl) (by kernel_rfl) (en (by kernel_rfl)))
  (lp ?_ Co))
 rw[aeJ]
 exact G6 (n:=16) (t:=194) (e:=193) (t1:=5) (k:= .u8) (zs:=abA) (fs:=fieldsOf 193) (afE h (n:= "unicode/utf8.acceptRanges") (d:=Rows.laid_unicode_utf8_acceptRanges) (.head _)) (by kernel_rfl) (by kernel_rfl) (by kernel_rfl) (by kernel_rfl) (by kernel_rfl) (by kernel_rfl) (by kernel_rfl) (by kernel_rfl) (by kernel_rfl) (en (by kernel_rfl))
theorem aeK:UT acb 53 55 3 28 21 52 (fieldsOf 55) where
 hL:=by kernel_rfl
 hI:=by kernel_rfl
 hz:=by kernel_rfl
 hf:=by kernel_rfl
 h1:=⟨by kernel_rfl,by kernel_rfl,by kernel_rfl,by kernel_rfl,by kernel_rfl⟩
 ki:=by kernel_rfl
 ku:=by kernel_rfl
 kn:=by kernel_rfl
 kt:=by kernel_rfl
theorem moT:Ff acb 32 22 23 24 25 26 27 29 30 36 70 59 57 105 63 72 65 68 53 55 3 28 21 52 9 4 66 5 where
 ins:=⟨_,aeK⟩
 us:=by kernel_rfl
 ub:=by kernel_rfl
 u8:=by kernel_rfl
 uk:=by kernel_rfl
 one:=by kernel_rfl
 sl q hq:=by
  simp only[mv,afx,or_false] at hq
  rcases hq with rfl | rfl | rfl | rfl | rfl | rfl | rfl | rfl
  · kernel_rfl
  · kernel_rfl
  · kernel_rfl
  · kernel_rfl
  · kernel_rfl
  · kernel_rfl
  · kernel_rfl
  · kernel_rfl
 st q hq:=by
  simp only[mv,afx,or_false] at hq
  rcases hq with rfl | rfl | rfl | rfl | rfl | rfl | rfl | rfl | rfl
  · exact⟨fieldsOf 32,by kernel_rfl,by kernel_rfl,by kernel_rfl⟩
  · exact⟨fieldsOf 36,by kernel_rfl,by kernel_rfl,by kernel_rfl⟩
  · exact⟨fieldsOf 70,by kernel_rfl,by kernel_rfl,by kernel_rfl⟩
  · exact⟨fieldsOf 57,by kernel_rfl,by kernel_rfl,by kernel_rfl⟩
  · exact⟨fieldsOf 105,by kernel_rfl,by kernel_rfl,by kernel_rfl⟩
  · exact⟨fieldsOf 63,by kernel_rfl,by kernel_rfl,by kernel_rfl⟩
  · exact⟨fieldsOf 72,by kernel_rfl,by kernel_rfl,by kernel_rfl⟩
  · exact⟨fieldsOf 65,by kernel_rfl,by kernel_rfl,by kernel_rfl⟩
  · exact⟨fieldsOf 68,by kernel_rfl,by kernel_rfl,by kernel_rfl⟩
 fu:=⟨fieldsOf 59,by kernel_rfl,by kernel_rfl,by kernel_rfl⟩
theorem moB : ∀t∈[36,70,59,105,63,72,65,68],1≤acb.bytesOf t:=by
 have h:([36,70,59,105,63,72,65,68].all fun t=>Nat.ble 1 (acb.bytesOf t))=true:=by kernel_rfl
 intro t ht
 exact en (List.all_eq_true.1 h t ht)
end Go.Proofs.YtdmmllcjgjmbbaaGreatDoor.N
end
