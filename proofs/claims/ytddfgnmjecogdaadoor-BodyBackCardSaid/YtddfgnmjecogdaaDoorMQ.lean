import Derived.Test.YtddfgnmjecogdaaDoorMP
open List renaming length_nil→VS,cons_append→Vw,length_append→ei,length_cons→pa
open Nat renaming zero_le→Vr,le_trans→ch,le_refl→df,beq→be,max_le→WJ
open Bool renaming false_eq_true→rh,and_true→Wi,true_eq_false→Wa
open Go.IntKind renaming i64→vj,u64→Wh,u32→VO
open Go.Proofs.Tryd renaming prog→ae
open Go.Value renaming int→yb
noncomputable section
section
set_option linter.unusedSimpArgs false
set_option linter.unusedVariables false
namespace Go.Proofs.YtddfgnmjecogdaaDoor.N
open Go Go.Am
theorem EP {p:Ins→Bool} : ∀{l:List Ins} {x:Ins},qi p l=true→F6 p x=true→qi p (l++[x])=true
 |[],x,_,h=>by rw[List.nil_append,qi,h,qi];rfl
 |y::l,x,h,h'=>by
  rw[qi,Bool.and_eq_true] at h
  rw[Vw,qi,h.1,EP h.2 h'];rfl
theorem ER : ∀{l:List Ins} {x:Ins},tA l→AQ x→tA (l++[x])
 |[],x,_,h=>⟨h,trivial⟩
 |y::l,x,h,h'=>⟨h.1,ER h.2 h'⟩
theorem CA : ∀(l:List Ins) (x:Ins),eV (l++[x])=max (eV l) (wT x)
 |[],x=>by simp[eV]
 |y::l,x=>by rw[Vw,eV,eV,CA l x];omega
theorem CB (d:Nat) : ∀(l:List Ins) (x:Ins),dN d (l++[x])=max (dN d l) (rm d x)
 |[],x=>by simp[dN]
 |y::l,x=>by rw[Vw,dN,dN,CB d l x];omega
theorem xA : ∀(l:List Ins) (x:Ins),bU (l++[x])=bU l+oO x
 |[],x=>by simp[bU]
 |y::l,x=>by rw[Vw,bU,bU,xA l x];omega
theorem A3 : ∀(l:List Ins) (x:Ins),(fc (l++[x])).length=(fc l).length+(gK x).length
 |[],x=>by simp[fc]
 |y::l,x=>by rw[Vw,fc,fc,ei,ei,A3 l x];omega
structure PW (SU:Nat) (f:Fr):Prop where
 ok:qi fK f.l=true
 SV:qi fK f.il=true
 w:tA f.l
 wi:tA f.il
 t:eV f.l≤16384
 ti:eV f.il≤16384
 d:dN SU f.l≤900
 di:dN SU f.il≤900
 o:f.aB=true→f.op=4
 n:f.aB=false→f.il=[]
def Be:List Fr→Fr→Nat→Nat→Prop
 |[],t,y,c=>PW 1 t∧t.aB=false∧(fc t.l).length≤y∧bU t.l≤c
 |g::fs,t,y,c=>PW (fs.length+2) t∧fs.length+1≤900∧(∃o:Nat,t.op=o∧o<256)∧dx t.op=true∧nm t.op≠⟨#[]⟩∧(t.r=0∨t.r=1) ∧ ∃y' c',Be fs g y' c'∧y'+2+(fc t.il).length+(if t.aB=true then 1 else 0)+(fc t.l).length≤y∧c'+1+bU t.il+bU t.l≤c
theorem Be.mono {fs:List Fr} {t:Fr} {y c y' c':Nat} (h:Be fs t y c) (hy:y≤y') (hc:c≤c'):Be fs t y' c':=by
 cases fs with
 |nil=>exact⟨h.1,h.2.1,ch h.2.2.1 hy,ch h.2.2.2 hc⟩
 |cons g fs=>
  obtain⟨h1,h2,h3,h4,h5,h6,a,b,h7,h8,h9⟩:=h
  exact⟨h1,h2,h3,h4,h5,h6,a,b,h7,ch h8 hy,ch h9 hc⟩
theorem PW.add {d:Nat} {t:Fr} {x:Ins} (h:PW d t) (ho:F6 fK x=true) (hw:AQ x) (ht:wT x≤16384) (hd:rm d x≤900):PW d {t with l:=t.l++[x]}:=
 ⟨EP h.ok ho,h.SV,ER h.w hw,h.wi,by rw[CA];exact WJ.2 ⟨h.t,ht⟩,h.ti,by rw[CB];exact WJ.2 ⟨h.d,hd⟩,h.di,h.o,h.n⟩
theorem Be.add {fs:List Fr} {t:Fr} {y c:Nat} {x:Ins} (h:Be fs t y c) (ho:F6 fK x=true) (hw:AQ x) (ht:wT x≤16384) (hd:rm (fs.length+1) x≤900):Be fs {t with l:=t.l++[x]} (y+(gK x).length) (c+oO x):=by
 cases fs with
 |nil=>
  refine⟨h.1.add ho hw ht hd,h.2.1,?_,?_⟩
  · have:=h.2.2.1
    simp only[A3];omega
  · have:=h.2.2.2
    simp only[xA];omega
 |cons g fs=>
  obtain⟨h1,h2,h3,h4,h5,h6,a,b,h7,h8,h9⟩:=h
  refine⟨h1.add ho hw ht hd,h2,h3,h4,h5,h6,a,b,h7,?_,?_⟩
  · simp only[A3];omega
  · simp only[xA];omega
theorem IN {op r:Int} {ll le:List Ins} (h:dx op=true):(gK (.mk op r 0 0 0 [] ll le)).length≤2+(fc ll).length+(if le.length=0 then 0 else 1+(fc le).length)+1:=by
 rw[gK,if_pos h]
 simp only[pa,ei,VS]
 split
 · simp only[VS];omega
 · simp only[pa];omega
theorem Be.pop {f t:Fr} {fs:List Fr} {y c:Nat} (h:Be (f::fs) t y c) (hc:c≤262144):Be fs {f with l:=f.l++[t.done]} (y+1) c:=by
 obtain⟨h1,h2,⟨o,h3,h3'⟩,h4,h5,h6,a,b,h7,h8,h9⟩:=h
 have n1:=kN t.l
 have n2:=kN t.il
 obtain⟨op,r,il,l,aB⟩:=t
 dsimp only at h3 h4 h5 h6 h8 h9 n1 n2
 have rw':(Lit.int .i64 r).wf=true:=by rcases h6 with rfl | rfl<;>decide
 have ow:(Lit.int .i64 op).wf=true:=by rw[h3];exact SS h3'
 have z:(Lit.int .u32 0).wf=true:=by decide
 have z':(Lit.int .i32 0).wf=true:=by decide
 cases aB with
 |false=>
  have e:il=[]:=h1.n rfl
  subst e
  have hx:fK (.mk op r 0 0 0 [] l [])=true:=IL h5 h4 h6 (fun _=>rfl)
  have ha:=Be.add (x:= .mk op r 0 0 0 [] l []) h7 (by simp only[F6,hx,h1.ok,qi,Wi]) (by simp only[AQ];exact⟨ow,rw',z,z,z',⟨Vr _,fun t q=>by cases q⟩,⟨max_le (by omega),h1.w⟩,Vr _,trivial⟩)
   (by have q:eV l≤16384:=h1.t;simp only[wT,eV,VS];omega) (by have q:dN (fs.length+1+1) l≤900:=h1.d;simp only[rm,dN];omega)
  refine Be.mono ha ?_ ?_
  · have:=IN (op:=op) (r:=r) (ll:=l) (le:=[]) h4
    simp only[VS,if_true,fc,rh,if_false] at this h8
    omega
  · simp only[oO,bU] at h9 ⊢
    omega
 |true=>
  have e:op=4:=h1.o rfl
  have hx:fK (.mk op r 0 0 0 [] il l)=true:=IL h5 h4 h6 (fun q=>absurd e q)
  have ha:=Be.add (x:= .mk op r 0 0 0 [] il l) h7 (by simp only[F6,hx,h1.ok,h1.SV,Wi]) (by simp only[AQ];exact⟨ow,rw',z,z,z',⟨Vr _,fun t q=>by cases q⟩,⟨max_le (by omega),h1.wi⟩,max_le (by omega),h1.w⟩)
   (by have q:eV l≤16384:=h1.t;have q':eV il≤16384:=h1.ti;simp only[wT,eV,VS];omega) (by have q:dN (fs.length+1+1) l≤900:=h1.d;have q':dN (fs.length+1+1) il≤900:=h1.di;simp only[rm,dN];omega)
  refine Be.mono ha ?_ ?_
  · have:=IN (op:=op) (r:=r) (ll:=il) (le:=l) h4
    simp only[if_true] at h8
    split at this<;>omega
  · simp only[oO,bU] at h9 ⊢
    omega
structure Dk (l:List Ins) (y:Nat):Prop where
 ok:qi fK l=true
 w:tA l
 t:eV l≤16384
 d:dN 1 l≤900
 n:bU l≤262144
 y:(fc l).length+1≤y
theorem FX {c:Nat} {b:List Nat} {go:List Fr→Fr→Nat→Nat→Option (List Ins)×RS} {fs:List Fr} {t:Fr} {p many y:Nat} {l:List Ins} {s:RS} (hc:c<256) (hs:Be fs t y many) (hm:many≤262144)
  (ih : ∀fs t p many y,Be fs t y many→many≤262144→go fs t p many=(some l,s)→s.e=0∧p≤s.p∧Dk l (y+(s.p-p)))
  (h:oa c (ah b c (p+1)) go fs t p many=(some l,s)):s.e=0∧p≤s.p∧Dk l (y+(s.p-p)):=by
 unfold oa at h
 have Qq : ∀{p' y'},p+(y'-y)≤p'→y≤y'→(s.e=0∧p'≤s.p∧Dk l (y'+(s.p-p')))→s.e=0∧p≤s.p∧Dk l (y+(s.p-p)):=fun h1 h2 ⟨k1,k2,k3⟩=>
  ⟨k1,by omega,⟨k3.ok,k3.w,k3.t,k3.d,k3.n,by have:=k3.y;omega⟩⟩
 by_cases h1:c=11
 · rw[if_pos h1] at h
   cases fs with
   |nil=>
    simp only[Prod.mk.injEq,Option.some.injEq] at h
    obtain⟨rfl,rfl⟩:=h
    obtain⟨k1,k2,k3,k4⟩:=hs
    refine⟨rfl,by simp,k1.ok,k1.w,k1.t,k1.d,by omega,?_⟩
    simp only
    omega
   |cons f fs=>exact Qq (p':=p+1) (y':=y+1) (by omega) (by omega) (ih _ _ _ _ _ (hs.pop hm) hm h)
 rw[if_neg h1] at h
 by_cases h2:c=5∧fs≠[]∧t.op=4∧t.aB=false
 · rw[if_pos h2] at h
   obtain⟨_,q1,q2,q3⟩:=h2
   cases fs with
   |nil=>exact absurd rfl q1
   |cons f fs=>
    obtain⟨k1,k2,k3,k4,k5,k6,a,b',k7,k8,k9⟩:=hs
    have e:t.il=[]:=k1.n q3
    refine Qq (p':=p+1) (y':=y+1) (by omega) (by omega) (ih _ _ _ _ _ ?_ hm h)
    refine⟨⟨by rfl,k1.ok,trivial,k1.w,by simp[eV],k1.t,by simp[dN],k1.d,fun _=>q2,fun q=>by cases q⟩,k2,k3,k4,k5,k6,a,b',k7,?_,?_⟩
    · rw[e,q3] at k8
      simp only[fc,VS,if_true,rh,if_false] at k8 ⊢
      omega
    · rw[e] at k9
      simp only[bU] at k9 ⊢
      omega
 rw[if_neg h2] at h
 by_cases h3:nm c=⟨#[]⟩
 · rw[if_pos h3] at h;cases h
 rw[if_neg h3] at h
 by_cases h4:900<fs.length+1∨262144≤many
 · rw[if_pos h4] at h;cases h
 rw[if_neg h4] at h
 by_cases h5:(ah b c (p+1)).2.e≠0
 · rw[if_pos h5] at h;cases h
 rw[if_neg h5] at h
 have h5:(ah b c (p+1)).2.e=0:=by simpa using h5
 by_cases h7:dx c=true
 · rw[if_pos h7] at h
   obtain⟨r,r1,r2,r3⟩:=KJ h7 h5
   rw[r2,r3] at h
   refine Qq (p':=p+1+1) (y':=y+2) (by omega) (by omega) (ih _ _ _ _ _ ?_ (by omega) h)
   exact⟨⟨rfl,rfl,trivial,trivial,by simp[eV],by simp[eV],by simp[dN],by simp[dN],(fun q=>by cases q),fun _=>rfl⟩,by omega,⟨c,rfl,hc⟩,h7,h3,r1,y,many,hs,by simp[fc],by simp[bU]⟩
 · rw[if_neg h7] at h
   obtain⟨a,bb,nn,tg,e1,e2,e3,e4,e5⟩:=FW h3 hc (by simpa using h7) h5
   rw[e1] at h
   have eb:(gK (.mk c 0 a bb nn tg [] [])).length=(A0 c a bb nn tg).length+1:=by rw[uX (by simpa using h7)];rfl
   refine Qq (p':=(ah b c (p+1)).2.p) (y':=y+(gK (.mk c 0 a bb nn tg [] [])).length) (by omega) (by omega) (ih _ _ _ _ _ ?_ (by omega) h)
   exact Be.add hs (by simp only[F6,e2,qi,Wi]) e3 (by simp only[wT,eV];omega) (by simp only[rm,dN];omega)
theorem CC {b:List Nat} (hb : ∀x∈b,x<256) {l:List Ins} {s:RS} : ∀(m:Nat) (fs:List Fr) (t:Fr) (p many y:Nat),Be fs t y many→many≤262144→cG b m fs t p many=(some l,s)→s.e=0∧p≤s.p∧Dk l (y+(s.p-p))
 |0,_,_,_,_,_,_,_,h=>by unfold cG at h;cases h
 |m+1,fs,t,p,many,y,hs,hm,h=>by
  by_cases hlt:p<b.length
  · rw[xz hlt] at h
    have hc:b.getD p 0<256:=by
     rw[List.getD_eq_getElem?_getD,List.getElem?_eq_getElem hlt]
     exact hb _ (List.getElem_mem hlt)
    exact FX hc hs hm (fun fs t p many y h1 h2 h3=>CC hb m fs t p many y h1 h2 h3) h
  · unfold cG at h
    rw[if_pos (by omega)] at h
    cases h
theorem Nl {c p:Nat} {b:List Nat} {go:List Fr→Fr→Nat→Nat→Option (List Ins)×RS} {fs:List Fr} {t:Fr} {many:Nat} (hr:(ah b c (p+1)).2.e=0→p+1≤(ah b c (p+1)).2.p∧(ah b c (p+1)).2.p≤b.length) (hp:p<b.length)
  (ih : ∀fs t p' many,p+1≤p'→p'≤b.length→(go fs t p' many).1=none→(go fs t p' many).2.e≠0) (h:(oa c (ah b c (p+1)) go fs t p many).1=none):(oa c (ah b c (p+1)) go fs t p many).2.e≠0:=by
 unfold oa at h ⊢
 by_cases h1:c=11
 · rw[if_pos h1] at h ⊢
   cases fs with
   |nil=>cases h
   |cons f fs=>exact ih _ _ _ _ (df _) hp h
 rw[if_neg h1] at h ⊢
 by_cases h2:c=5∧fs≠[]∧t.op=4∧t.aB=false
 · rw[if_pos h2] at h ⊢
   exact ih _ _ _ _ (df _) hp h
 rw[if_neg h2] at h ⊢
 by_cases h3:nm c=⟨#[]⟩
 · rw[if_pos h3];exact(by decide:(160:Nat)≠0)
 rw[if_neg h3] at h ⊢
 by_cases h4:900<fs.length+1∨262144≤many
 · rw[if_pos h4];exact(by decide:(141:Nat)≠0)
 rw[if_neg h4] at h ⊢
 by_cases h5:(ah b c (p+1)).2.e≠0
 · rw[if_pos h5];exact h5
 rw[if_neg h5] at h ⊢
 obtain⟨r1,r2⟩:=hr (by simpa using h5)
 by_cases h7:dx c=true
 · rw[if_pos h7] at h ⊢
   exact ih _ _ _ _ r1 r2 h
 · rw[if_neg h7] at h ⊢
   exact ih _ _ _ _ r1 r2 h
theorem IP {b:List Nat} (hb : ∀x∈b,x<256) (hl:b.length≤1000000000) : ∀(m:Nat) (fs:List Fr) (t:Fr) (p many:Nat),p≤b.length→b.length<p+m→(cG b m fs t p many).1=none→(cG b m fs t p many).2.e≠0
 |0,_,_,p,_,h1,h2,_=>by omega
 |m+1,fs,t,p,many,h1,h2,h=>by
  by_cases hlt:p<b.length
  · rw[xz hlt] at h ⊢
    refine Nl (fun q=> ?_) hlt (fun fs t p' many q1 q2 q3=>IP hb hl m fs t p' many q2 (by omega) q3) h
    exact⟨(IJ (n:=b.length) _ (df _) hlt q).1,xw _ ⟨hb,hl,hlt⟩⟩
  · unfold cG
    rw[if_pos (by omega)]
    exact(by decide:(4:Nat)≠0)
theorem KK {b:List Nat} {p:Nat} (hb:cP b ⟨p,0,0⟩) (h:(mK b p).e=0):p≤(mK b p).p∧Dk (xy b p) ((mK b p).p-p):=by
 unfold mK at h ⊢
 unfold xy
 have hn:=IP hb.gi hb.len (b.length+1) [] ⟨0,0,[],[],false⟩ p 0 hb.p (by omega)
 have hr:=CC hb.gi (b.length+1) [] ⟨0,0,[],[],false⟩ p 0 0 (l:=(ID b p).1.getD []) (s:=(ID b p).2)
  ⟨⟨rfl,rfl,trivial,trivial,by simp[eV],by simp[eV],by simp[dN],by simp[dN],(fun q=>by cases q),fun _=>rfl⟩,rfl,by simp[fc],by simp[bU]⟩ (by omega)
 have e:cG b (b.length+1) [] ⟨0,0,[],[],false⟩ p 0=ID b p:=rfl
 rw[e] at hn hr
 generalize ID b p=x at h hn hr ⊢
 obtain⟨o,s⟩:=x
 cases o with
 |none=>exact absurd h (hn rfl)
 |some l=>
  obtain⟨_,k1,k2⟩:=hr rfl
  exact⟨k1,by rw[Nat.zero_add] at k2;exact k2⟩
theorem Dk.check {l:List Ins} {y:Nat} (h:Dk l y):eG fK l=0:=by
 unfold eG
 rw[if_neg (by rw[h.ok];exact(by decide : ¬(true=false))),if_neg (by have:=h.n;have:=h.t;have:=h.d;omega)]
def rG (c:Nat):Bool:=decide (c=127)
def Uh (k:Nat) (B:List PV) (n:Int) (s i:Nat) (p e fa:Int) (ln:Nat) (LX:List PV) (lp le lf:Int) (nV nP nE nF zV zP zE zF:Int→Int→Int→Int) (f:FuncId) (args:List AV) (m:Mem):Option (AV×Mem):=
 match m with
 |[.pc [x,.sc (.int _ p),.sc (.int _ e),.sc (.int _ fa)]]=>
  cond (be f 37) (some (sI .u32 (nV p e fa),[.pc [x,.sc (.int .i64 (nP p e fa)),.sc (.int .i64 (nE p e fa)),.sc (.int .i64 (nF p e fa))]]))
  (cond (be f 39) (some (sI .u8 (zV p e fa),[.pc [x,.sc (.int .i64 (zP p e fa)),.sc (.int .i64 (zE p e fa)),.sc (.int .i64 (zF p e fa))]]))
  (cond (be f 27) (some (.p (.ps ln 8 LX),[.pc [x,.sc (.int .i64 lp),.sc (.int .i64 le),.sc (.int .i64 lf)]])) none))
 |_=>none
def Ui (k:Nat) (B:List PV) (n:Int) (s i:Nat) (p e fa:Int) (ln:Nat) (LX:List PV) (lp le lf:Int) (nV nP nE nF zV zP zE zF:Int→Int→Int→Int):FuncId→Nat→Nat→Option (AV→AV):=eF [(21,7,1,sI .u32 ((i+1:Nat):Int))]
def Uj (k:Nat) (B:List PV) (a:Int) (v1 p1 e1 DN:Int) (f:FuncId) (args:List AV) (m:Mem):Option (AV×Mem):=
 cond (be f 37) (some (sI .u32 v1,[.pc [.ps k 1 B,.sc (.int .i64 p1),.sc (.int .i64 e1),.sc (.int .i64 DN)]])) none
def Nn (k:Nat) (B:List PV) (p e fa c p2 e2 bE:Int):gQ:=fy (MY k B p e fa c p2 e2 bE) cC [] [(39,0,2),(38,0,0)] []
def PX:Sc:= .fin
def ES (k:Nat) (B:List PV) (p e fa c p2 e2 bE:Int):aN:=
 (.call ⟨43,[.mp 0 0],[.pc [.ps k 1 B,sP p,sP e,sP fa]],sI .u8 c,[.pc [.ps k 1 B,sP p2,sP e2,sP bE]]⟩
 (.test (c==127)
 (.out (.ret (sI .u8 c) [.pc [.ps k 1 B,sP p2,sP e2,sP bE]]))
 (.test (!e2 != 0)
 (.out (.ret (sI .u8 0) [.pc [.ps k 1 B,sP p2,sP 140,sP (vj.wrap (p2-1))]]))
 (.out (.ret (sI .u8 0) [.pc [.ps k 1 B,sP p2,sP e2,sP bE]])))))
theorem IQ (k:Nat) (B:List PV) (p e fa c p2 e2 bE:Int):dF ae env (Nn k B p e fa c p2 e2 bE) 1000000 39 ([AV.mp 0 0,AV.os Option.none 1 1 [PV.sc (yb IntKind.u8 127)]]) ([aH.pc [PV.ps k 1 B,PV.sc (yb vj p),PV.sc (yb vj e),PV.sc (yb vj fa)]]) PX=ES k B p e fa c p2 e2 bE:=by kernel_rfl
def PY (k:Nat) (B:List PV) (a v1 p1 e1 DN:Int):gQ:=fy (Uj k B a v1 p1 e1 DN) cC [(21,0)] [(25,3,3),(25,0,0)] []
def R0:Sc:=(.fork (.lit .fin) .fin)
def rH (k:Nat) (B:List PV) (v1 p1 e1 DN:Int):aN:=
 (.at (aj ae env 21 0 [.mp 0 0,.mp 1 0,.mp 2 0,sI .u32 v1,sI .u64 0,sI .u32 0] ([.ac [sI .i64 0,cD],.pc [sP 0,sP 0],.pc [.ps k 1 B,sP p1,sP e1,sP DN]]) 0 75))
def IS (k:Nat) (B:List PV) (a v1 p1 e1 DN:Int):aN:=
 (.test (decide (a<0))
 (.call ⟨37,[.mp 0 0],[.pc [.ps k 1 B,sP a,sP 5,sP 0]],sI .u32 v1,[.pc [.ps k 1 B,sP p1,sP e1,sP DN]]⟩
 (rH k B v1 p1 e1 DN))
 (.test (decide (a>(↑k:Int)))
 (.call ⟨37,[.mp 0 0],[.pc [.ps k 1 B,sP a,sP 5,sP 0]],sI .u32 v1,[.pc [.ps k 1 B,sP p1,sP e1,sP DN]]⟩
 (rH k B v1 p1 e1 DN))
 (.call ⟨37,[.mp 0 0],[.pc [.ps k 1 B,sP a,sP 0,sP 0]],sI .u32 v1,[.pc [.ps k 1 B,sP p1,sP e1,sP DN]]⟩
 (rH k B v1 p1 e1 DN))))
theorem KL (k:Nat) (B:List PV) (a v1 p1 e1 DN:Int):dF ae env (PY k B a v1 p1 e1 DN) 1000000 21 ([AV.p (PV.ps k 1 B),sI vj a]) ([]) R0=IS k B a v1 p1 e1 DN:=by kernel_rfl
def PZ (k:Nat) (B:List PV) (n:Int) (s:Nat) (i:Nat) (p e fa:Int) (ln:Nat) (LX:List PV) (lp le lf:Int) (nV:Int→Int→Int→Int) (nP:Int→Int→Int→Int) (nE:Int→Int→Int→Int) (nF:Int→Int→Int→Int) (zV:Int→Int→Int→Int) (zP:Int→Int→Int→Int) (zE:Int→Int→Int→Int) (zF:Int→Int→Int→Int):gQ:=pY (Uh k B n s i p e fa ln LX lp le lf nV nP nE nF zV zP zE zF) cC [(21,0)] [(21,6,4),(21,0,1),(21,0,2),(38,0,0),(21,0,3),(21,0,4)] [] (Ui k B n s i p e fa ln LX lp le lf nV nP nE nF zV zP zE zF)
def R2:Sc:=(.fork (.fork .fin (.yes .fin)) (.lit .fin))
def oc (k:Nat) (B:List PV) (n:Int) (s:Nat) (i:Nat) (p e fa:Int) (nV:Int→Int→Int→Int) (nP:Int→Int→Int→Int) (nE:Int→Int→Int→Int) (nF:Int→Int→Int→Int) (zV:Int→Int→Int→Int) (zP:Int→Int→Int→Int) (zE:Int→Int→Int→Int) (zF:Int→Int→Int→Int):aN:=
 (.call ⟨39,[.mp 0 0,.os none 1 1 [.sc (.int .u8 127)]],[.pc [.ps k 1 B,sP (nP p e fa),sP (nE p e fa),sP (nF p e fa)]],sI .u8 (zV (nP p e fa) (nE p e fa) (nF p e fa)),[.pc [.ps k 1 B,sP (zP (nP p e fa) (nE p e fa) (nF p e fa)),sP (zE (nP p e fa) (nE p e fa) (nF p e fa)),sP (zF (nP p e fa) (nE p e fa) (nF p e fa))]]⟩ (.need (sI .u32 (VO.wrap ((↑i:Int)+1))=sI VO (↑(i+1):Int)) (.at (aj ae env 21 0 [.mp 0 0,.mp 1 0,.mp 2 0,sI .u32 n,sI .u64 (Wh.wrap ((↑s:Int)+Wh.wrap (nV p e fa))),sI .u32 (↑(i+1):Int)] ([.ac [sI .i64 0,cD],.pc [sP 0,sP 0],.pc [.ps k 1 B,sP (zP (nP p e fa) (nE p e fa) (nF p e fa)),sP (zE (nP p e fa) (nE p e fa) (nF p e fa)),sP (zF (nP p e fa) (nE p e fa) (nF p e fa))]]) 0 75))))
def A4 (k:Nat) (B:List PV) (n:Int) (s:Nat) (i:Nat) (p e fa:Int) (ln:Nat) (LX:List PV) (lp le lf:Int) (nV:Int→Int→Int→Int) (nP:Int→Int→Int→Int) (nE:Int→Int→Int→Int) (nF:Int→Int→Int→Int) (zV:Int→Int→Int→Int) (zP:Int→Int→Int→Int) (zE:Int→Int→Int→Int) (zF:Int→Int→Int→Int):aN:=
 (.test (decide ((↑i:Int)<n))
 (.test (!e != 0)
 (.call ⟨37,[.mp 0 0],[.pc [.ps k 1 B,sP p,sP e,sP fa]],sI .u32 (nV p e fa),[.pc [.ps k 1 B,sP (nP p e fa),sP (nE p e fa),sP (nF p e fa)]]⟩
 (.test (decide (Wh.wrap ((↑s:Int)+Wh.wrap (nV p e fa))>50000))
 (.test (!nE p e fa != 0)
 (.call ⟨39,[.mp 0 0,.os none 1 1 [.sc (.int .u8 127)]],[.pc [.ps k 1 B,sP (nP p e fa),sP 141,sP p]],sI .u8 (zV (nP p e fa) 141 p),[.pc [.ps k 1 B,sP (zP (nP p e fa) 141 p),sP (zE (nP p e fa) 141 p),sP (zF (nP p e fa) 141 p)]]⟩
 (.need (sI .u32 (VO.wrap ((↑i:Int)+1))=sI VO (↑(i+1):Int))
 (.at (aj ae env 21 0 [.mp 0 0,.mp 1 0,.mp 2 0,sI .u32 n,sI .u64 (Wh.wrap ((↑s:Int)+Wh.wrap (nV p e fa))),sI .u32 (↑(i+1):Int)] ([.ac [sI .i64 0,cD],.pc [sP 0,sP 0],.pc [.ps k 1 B,sP (zP (nP p e fa) 141 p),sP (zE (nP p e fa) 141 p),sP (zF (nP p e fa) 141 p)]]) 0 75))))
 (oc k B n s i p e fa nV nP nE nF zV zP zE zF))
 (oc k B n s i p e fa nV nP nE nF zV zP zE zF)))
 (.must (e != 0)
 (.out (.ret (.bk [.agg [sI .i64 0,cD],sI .i64 0,.agg [sI .i64 e,sI .i64 fa]]) []))))
 (.test (e != 0)
 (.out (.ret (.bk [.agg [sI .i64 0,cD],sI .i64 0,.agg [sI .i64 e,sI .i64 fa]]) []))
 (.call ⟨27,[.mp 0 0],[.pc [.ps k 1 B,sP p,sP e,sP fa]],.p (.ps ln 8 LX),[.pc [.ps k 1 B,sP lp,sP le,sP lf]]⟩
 (.test (le != 0)
 (.out (.ret (.bk [.agg [sI .i64 0,cD],sI .i64 0,.agg [sI .i64 le,sI .i64 lf]]) []))
 (.out (.ret (.bk [.agg [sI .i64 (vj.wrap (↑s:Int)),.p (.ps ln 8 LX)],sI .i64 lp,.agg [sI .i64 le,sI .i64 lf]]) []))))))
theorem A5 (k:Nat) (B:List PV) (n:Int) (s:Nat) (i:Nat) (p e fa:Int) (ln:Nat) (LX:List PV) (lp le lf:Int) (nV:Int→Int→Int→Int) (nP:Int→Int→Int→Int) (nE:Int→Int→Int→Int) (nF:Int→Int→Int→Int) (zV:Int→Int→Int→Int) (zP:Int→Int→Int→Int) (zE:Int→Int→Int→Int) (zF:Int→Int→Int→Int):grow ae env (PZ k B n s i p e fa ln LX lp le lf nV nP nE nF zV zP zE zF) 1000000 true (aj ae env 21 0 ([AV.mp 0 0,AV.mp 1 0,AV.mp 2 0,sI VO n,sI Wh (↑s:Int),sI VO (↑i:Int)]) ([aH.ac [sI vj 0,AV.os Option.none 0 0 []],aH.pc [PV.sc (yb vj 0),PV.sc (yb vj 0)],aH.pc [PV.ps k 1 B,PV.sc (yb vj p),PV.sc (yb vj e),PV.sc (yb vj fa)]]) 0 75) R2 atEnd=A4 k B n s i p e fa ln LX lp le lf nV nP nE nF zV zP zE zF:=by kernel_rfl
theorem xB {b:List Nat} {s:RS} (h:cP b s):aG ae env 39 [.mp 0 0,.os none 1 1 [.sc (.int .u8 127)]] [s.aP b] (sI .u8 (cO rG b s).1) [(cO rG b s).2.aP b]:=by
 have hb:=cq h
 have hf:=jz h
 have hpos:=sY (b:=b) (s:=s)
 have e1:cO rG b s=if rG (aR b s).1=true then aR b s else(0,if(aR b s).2.e=0 then⟨(aR b s).2.p,140,(aR b s).2.p-1⟩ else(aR b s).2):=rfl
 rw[e1]
 generalize aR b s=r at *
 obtain⟨c,⟨p2,e2,bE⟩⟩:=r
 have C9:p2≤b.length:=hf.p
 have hl:=hf.len
 refine ak cV (IQ b.length (bt b) s.p s.e s.fa c p2 e2 bE) ?_
 simp only[ES,aN.ok]
 refine⟨hb,fun h1=> ?_,fun h1=>⟨fun h2=> ?_,fun h2=> ?_⟩⟩
 · have:c=127:=by have:=eq_of_beq h1;omega
   rw[if_pos (by simp[rG,this])];rfl
 · have : ¬c=127:=fun e=>by rw[e] at h1;cases h1
   have e0:e2=0:=by rw[rB] at h2;simpa using h2
   subst e0
   have:=hpos rfl
   have w:vj.wrap ((p2:Int)-1)=((p2-1:Nat):Int):=by rw[aX (by omega) (by omega)];simp only at this;omega
   rw[if_neg (by simp[rG,this];omega),w];rfl
 · have : ¬c=127:=fun e=>by rw[e] at h1;cases h1
   have e0 : ¬e2=0:=by rw[rB] at h2;simpa using h2
   rw[if_neg (by simp[rG];omega)]
   simp[e0,RS.aP]
def jc (b:List Nat):Nat→Nat→RS→Nat×RS
 |0,s,r=>(s,r)
 |f+1,s,r=>if r.e≠0 then(s,r) else jc b f (s+(aA b r).1) (cO rG b (if 50000<s+(aA b r).1∧(aA b r).2.e=0 then⟨(aA b r).2.p,141,r.p⟩ else(aA b r).2)).2
def DO (b:List Nat) (x:Nat×RS):Out:=
 if x.2.e≠0 then .ret (.bk [.agg [sI .i64 0,.os none 0 0 []],sI .i64 0,.agg [sI .i64 x.2.e,sI .i64 x.2.fa]]) []
 else if(mK b x.2.p).e≠0 then .ret (.bk [.agg [sI .i64 0,.os none 0 0 []],sI .i64 0,.agg [sI .i64 (mK b x.2.p).e,sI .i64 (mK b x.2.p).fa]]) []
 else .ret (.bk [.agg [sI .i64 x.1,.p (.ps (xy b x.2.p).length 8 (aa (xy b x.2.p)))],sI .i64 (mK b x.2.p).p,.agg [sI .i64 (mK b x.2.p).e,sI .i64 (mK b x.2.p).fa]]) []
theorem xC {b:List Nat} {s:Nat} {r:RS} (h:r.e≠0):DO b (s,r) = .ret (.bk [.agg [sI .i64 0,.os none 0 0 []],sI .i64 0,.agg [sI .i64 r.e,sI .i64 r.fa]]) []:=if_pos h
theorem zI {b:List Nat} {s:Nat} {r:RS} (h:r.e=0) (h2:(mK b r.p).e≠0):DO b (s,r) = .ret (.bk [.agg [sI .i64 0,.os none 0 0 []],sI .i64 0,.agg [sI .i64 (mK b r.p).e,sI .i64 (mK b r.p).fa]]) []:=by
 unfold DO
 rw[if_neg (fun q=>q h),if_pos h2]
theorem ET {b:List Nat} {s:Nat} {r:RS} (h:r.e=0) (h2:(mK b r.p).e=0):DO b (s,r) = .ret (.bk [.agg [sI .i64 s,.p (.ps (xy b r.p).length 8 (aa (xy b r.p)))],sI .i64 (mK b r.p).p,.agg [sI .i64 (mK b r.p).e,sI .i64 (mK b r.p).fa]]) []:=by
 unfold DO
 rw[if_neg (fun q=>q h),if_neg (fun q=>q h2)]
theorem EU {b:List Nat} {s:RS} (h:(aA b s).2.e=0):(aA b s).2.fa=s.fa:=by
 unfold aA at h ⊢
 by_cases h1:s.e≠0
 · rw[if_pos h1]
 · rw[if_neg h1] at h ⊢
   by_cases h2:(gU b s.p).e≠0
   · rw[if_pos h2] at h;exact absurd h h2
   · rw[if_neg h2]
theorem IT {b:List Nat} {s:RS} (h:(aR b s).2.e=0):(aR b s).2.fa=s.fa:=by
 unfold aR at h ⊢
 by_cases h1:s.e≠0
 · rw[if_pos h1]
 · rw[if_neg h1] at h ⊢
   by_cases h2:b.length≤s.p
   · rw[if_pos h2] at h;simp at h
   · rw[if_neg h2]
theorem KM {b:List Nat} {s:RS} {ok:Nat→Bool} (h:(cO ok b s).2.e=0):(cO ok b s).2.fa=s.fa:=by
 unfold cO at h ⊢
 by_cases h1:ok (aR b s).1=true
 · rw[if_pos h1] at h ⊢;exact IT h
 · rw[if_neg h1] at h
   by_cases h2:(aR b s).2.e=0
   · simp only[if_pos h2] at h;simp at h
   · simp only[if_neg h2] at h;exact absurd h h2
theorem IU {b:List Nat} {s:RS} (h:(aA b s).2.e≠0):(aA b s).1=0:=by
 unfold aA at h ⊢
 by_cases h1:s.e≠0
 · rw[if_pos h1]
 · rw[if_neg h1] at h ⊢
   by_cases h2:(gU b s.p).e≠0
   · rw[if_pos h2]
   · rw[if_neg h2] at h;simp at h;omega
theorem No {b:List Nat} {n:Nat} (hn:n<4294967296) : ∀(f i s:Nat) (r:RS),i+f=n→cP b r→(r.e=0→r.fa=0∧s≤50000)→s≤5000000000 →
  dK ae env (aj ae env 21 0 [.mp 0 0,.mp 1 0,.mp 2 0,sI .u32 n,sI .u64 s,sI .u32 i] [.ac [sI .i64 0,.os none 0 0 []],.pc [.sc (.int .i64 0),.sc (.int .i64 0)],r.aP b] 0 75) (DO b (jc b f s r)):=by
 intro f
 induction f with
 |zero=>
  intro i s r hi hr hz hs
  have d:decide ((i:Int)<(n:Int))=false:=decide_eq_false (by omega)
  obtain⟨p,e,fa⟩:=r
  refine aC cV (A5 b.length (bt b) n s i p e fa (xy b p).length (aa (xy b p)) (mK b p).p (mK b p).e (mK b p).fa (FO b) (Ih b) (FP b) (Ii b) (Jl rG b) (NT rG b) (NU rG b) (NV rG b)) ?_
  simp only[A4,oc,ct,aN.ok,d,rh,false_implies,true_implies,true_and,jc]
  refine⟨fun h=> ?_,fun h=> ?_⟩
  · rw[rB] at h
    have h:e≠0:=of_decide_eq_true h
    rw[xC h]
  · rw[rB] at h
    have h:e=0:=Decidable.byContradiction fun q=>absurd (decide_eq_true q) (by rw[h];exact Bool.false_ne_true)
    obtain⟨z1,z2⟩:=hz h
    simp only at z1
    subst h z1
    refine⟨FU ⟨hr.gi,hr.len,hr.p⟩,fun h=> ?_,fun h=> ?_⟩
    · rw[rB] at h
      have h:(mK b p).e≠0:=of_decide_eq_true h
      rw[zI rfl h]
    · rw[rB] at h
      have h : ¬(mK b p).e≠0:=of_decide_eq_false h
      rw[ET rfl (by simpa using h),aX (by omega) (by omega)]
 |succ f ih=>
  intro i s r hi hr hz hs
  have d:decide ((i:Int)<(n:Int))=true:=decide_eq_true (by omega)
  have w:VO.wrap ((i:Int)+1)=((i+1:Nat):Int):=by rw[zm (by omega) (by omega)];rfl
  by_cases h0:r.e=0
  · obtain⟨z1,z2⟩:=hz h0
    have FQ:=jA hr
    have hlt:=uV (b:=b) (s:=r)
    have hfit:=dy hr
    have R3:=IU (b:=b) (s:=r)
    have za:=EU (b:=b) (s:=r)
    have e1:jc b (f+1) s r=jc b f (s+(aA b r).1) (cO rG b (if 50000<s+(aA b r).1∧(aA b r).2.e=0 then⟨(aA b r).2.p,141,r.p⟩ else(aA b r).2)).2:=by rw[jc,if_neg (by simpa using h0)]
    rw[e1]
    have w2:Wh.wrap ((s:Int)+Wh.wrap (((aA b r).1:Nat):Int))=((s+(aA b r).1:Nat):Int):=by rw[Cp (n:=(((aA b r).1:Nat):Int)) (by omega) (by omega),Cp (by omega) (by omega)];rfl
    obtain⟨p,e,fa⟩:=r
    dsimp only at h0 z1
    subst h0 z1
    refine aC cV (A5 b.length (bt b) n s i p 0 0 0 [] 0 0 0 (FO b) (Ih b) (FP b) (Ii b) (Jl rG b) (NT rG b) (NU rG b) (NV rG b)) ?_
    simp only[A4,oc,ct,aN.ok,d,show(!((0:Int) != 0))=true from rfl,Wa,rh,false_implies,true_implies,true_and,and_true,FO,Ih,FP,Ii,Jl,NT,NU,NV,Int.toNat_natCast,Int.toNat_zero,w,w2]
    refine⟨FQ,fun h1=>⟨fun h2=> ?_,fun h2=> ?_⟩,fun h1=> ?_⟩
    · have h1:50000<s+(aA b ⟨p,0,0⟩).1:=by have:=of_decide_eq_true h1;omega
      have h2:(aA b ⟨p,0,0⟩).2.e=0:=by
       rw[rB] at h2
       simpa using h2
      rw[if_pos ⟨h1,h2⟩]
      have Dd:cP b ⟨(aA b ⟨p,0,0⟩).2.p,141,p⟩:=⟨hr.gi,hr.len,hfit.p⟩
      have hbk:(cO rG b ⟨(aA b ⟨p,0,0⟩).2.p,141,p⟩).2.e≠0:=fun q=>by
       have:=(ke (B:=b) (n:=0) (ok:=rG) (Vr _)).back q
       simp at this
      exact⟨xB Dd,ih (i+1) _ _ (by omega) (j5 Dd) (fun q=>absurd q hbk) (by omega)⟩
    · have h2:(aA b ⟨p,0,0⟩).2.e≠0:=by
       rw[rB] at h2
       simpa using h2
      have:=R3 h2
      have h1:=of_decide_eq_true h1
      omega
    · have h1 : ¬50000<s+(aA b ⟨p,0,0⟩).1:=by have:=of_decide_eq_false h1;omega
      rw[if_neg (fun q=>h1 q.1)]
      refine⟨xB hfit,ih (i+1) _ _ (by omega) (j5 hfit) (fun q=> ?_) (by omega)⟩
      have q2:=(ke (B:=b) (n:=0) (ok:=rG) (Vr _)).back q
      exact⟨by rw[KM q,za q2],by omega⟩
  · have e1:jc b (f+1) s r=(s,r):=by rw[jc,if_pos h0]
    rw[e1]
    obtain⟨p,e,fa⟩:=r
    dsimp only at h0
    have Uk:((e:Int) != 0)=true:=by rw[rB,decide_eq_true h0]
    refine aC cV (A5 b.length (bt b) n s i p e fa 0 [] 0 0 0 (FO b) (Ih b) (FP b) (Ii b) (Jl rG b) (NT rG b) (NU rG b) (NV rG b)) ?_
    simp only[A4,oc,ct,aN.ok,d,Uk,Bool.not_true,Wa,rh,false_implies,true_implies,true_and,and_true]
    rw[xC h0]
def ju (b:List Nat) (p:Nat):Nat×RS:=jc b (aA b ⟨p,0,0⟩).1 0 (aA b ⟨p,0,0⟩).2
theorem A6 {b:List Nat} {p:Nat} {v:AV} (hb:cP b ⟨p,0,0⟩) (h:DO b (ju b p) = .ret v []):aG ae env 21 [.p (.ps b.length 1 (bt b)),sI .i64 p] [] v []:=by
 refine ak cV (KL b.length (bt b) p (aA b ⟨p,0,0⟩).1 (aA b ⟨p,0,0⟩).2.p (aA b ⟨p,0,0⟩).2.e (aA b ⟨p,0,0⟩).2.fa) ?_
 have h0:decide ((p:Int)<0)=false:=decide_eq_false (by omega)
 have h1:decide ((p:Int)>(b.length:Int))=false:=decide_eq_false (by have:p≤b.length:=hb.p;omega)
 simp only[IS,rH,ct,aN.ok,h0,h1,rh,false_implies,true_implies,true_and]
 refine⟨jA hb,?_⟩
 have k:=No (b:=b) (uV (b:=b) (s:=⟨p,0,0⟩)) (aA b ⟨p,0,0⟩).1 0 0 (aA b ⟨p,0,0⟩).2 (by omega) (dy hb) (fun q=>⟨EU q,by omega⟩) (by omega)
 rw[←h]
 exact k
end Go.Proofs.YtddfgnmjecogdaaDoor.N
end
