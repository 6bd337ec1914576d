import Derived.Test.YtjfgfhaoeicpdaaGreatDoorMV
import Derived.Test.YtjfgfhaoeicpdaaGreatDoorMO
import Derived.Test.YtjfgfhaoeicpdaaGreatDoorMH
import Derived.Test.YtjfgfhaoeicpdaaGreatDoorRows
import Derived.MakeChecks
open Go.IntKind renaming u64→afo,u32→abb
open List renaming getElem?_map→dC,replicate→bx,getElem?_eq_getElem→bm,mem_append→mi,getElem?_cons_zero→lv,getElem?_cons_succ→lL,getElem?_take→c9,getElem?_drop→dd,map→abG,not_mem_nil→ah9,mem_cons→oi,map_nil→vd
open Go.Value renaming pointer→ah6
open Go.Proofs.Tryz renaming prog→ab5
open Nat renaming le_of_ble_eq_true→eh,zero_le→QQ,le_of_not_lt→aia
open Bool renaming and_eq_true→ch,or_eq_false_iff→oT
open Go.DataW renaming weightsEach→aib,weights→aic,trod_struct→aid,trod_int→aa3,trod→aa0
open Array renaming getElem?_toList→lj
open Go.Lib.laidMet renaming reads→aie
noncomputable section
section
set_option linter.unusedSimpArgs false
set_option linter.unusedVariables false
namespace Go.Proofs.YtjfgfhaoeicpdaaGreatDoor.N
open Go Go.Am
def hH:Env where
 cQ:=pF tabs
 wr:=wrs
 keep:=xT I1
 told f d:=cond (Nat.beq f 3&&Nat.beq d 87) (some (sB true)) none
def enR:FuncId→Nat→Nat→Option (AV→AV):=cL [(9,6,6,.p kQ)]
def Me (M:Mo):AV:= .agg [.p (.ps M.tys.length 2 (M.tys.flatMap bW)),.os none 0 0 [],.p (.ps M.fns.length 3 (M.fns.flatMap aV)),.p (.ps M.cj.length 3 (M.cj.flatMap aN)),.p (.ps M.cM.length 3 (M.cM.flatMap aN)),.p (.ps M.gls.length 2 (M.gls.flatMap aY)),.p (.ps M.exs.length 3 (M.exs.flatMap aW)),.p (.sc (.bool M.st)),sI .u32 M.sn,.os none 0 0 [],.os none 0 0 []]
def RO (M:Mo) (x y:Li):Mo:={M with cM:=[x],cj:=[y]}
def Af (M:Mo) (x y:Li):Mem:=[Wd (RO M x y) (.mp 1 0) (tbV 2 y),meB 3 x,tbC y,.ob (.map [] [] 0) []]
def ahU (M:Mo) (x y:Li) (lg wd:Bool) (e n i a wh k:Int):=enR
def ahV:AV:= .mp 1 0
def VE (M:Mo) (x y:Li) (lg wd:Bool) (e n i a wh k:Int) (_:Nat) (f:FuncId) (_:List AV) (m:Mem):Option (AV×Mem):=
 match f with
 |4=>some (sB true,m)
 |5=>some (sB lg,m)
 |6=>some (sB wd,m)
 |7=>some (.agg [sI .i64 e,sI .i64 n,sI .i64 i,sI .i64 a],m)
 |8=>some (sj,kK (RO M x y))
 |11=>some (ahV,m)
 |13=>some (sI .u32 x.mn,m)
 |14=>some (sB true,m)
 |_=>none
def RP (M:Mo) (x y:Li):Mo:={M with cM:=[x],cj:=[]}
def Dh (M:Mo) (x y:Li):Mem:=[Wd (RP M x y) (.mp 1 0) (.os none 0 0 []),meB 2 x,.ob (.map [] [] 0) []]
def ahW (M:Mo) (x y:Li) (lg wd:Bool) (e n i a wh k:Int):=enR
def ahX:AV:= .mp 1 0
def aeF (M:Mo) (x y:Li) (lg wd:Bool) (e n i a wh k:Int) (_:Nat) (f:FuncId) (_:List AV) (m:Mem):Option (AV×Mem):=
 match f with
 |4=>some (sB true,m)
 |5=>some (sB lg,m)
 |6=>some (sB wd,m)
 |7=>some (.agg [sI .i64 e,sI .i64 n,sI .i64 i,sI .i64 a],m)
 |8=>some (sj,kK (RP M x y))
 |11=>some (ahX,m)
 |13=>some (sI .u32 x.mn,m)
 |14=>some (sB true,m)
 |_=>none
def So (M:Mo) (x y:Li):Mo:={M with cM:=[],cj:=[y]}
def FI (M:Mo) (x y:Li):Mem:=[Wd (So M x y) (.p kQ) (tbV 1 y),tbC y]
def ahY (M:Mo) (x y:Li) (lg wd:Bool) (e n i a wh k:Int):=enR
def Sp (M:Mo) (x y:Li):Mo:={M with cM:=[],cj:=[]}
def RQ (M:Mo) (x y:Li):Mem:=[Wd (Sp M x y) (.p kQ) (.os none 0 0 [])]
def ahZ (M:Mo) (x y:Li) (lg wd:Bool) (e n i a wh k:Int):=enR
def aaJ (M:Mo) (x:Li) (y:Li) (lg:Bool) (wd:Bool) (e n i a wh k:Int):bD:=fy aI av [] [(3,3,3),(3,0,0),(3,0,1),(9,0,1),(12,0,1),(3,0,3)] [(3,0,5),(9,6,5),(9,6,6)] (ahU M x y lg wd e n i a wh k)
def aeG (M:Mo) (x:Li) (y:Li) (lg:Bool) (wd:Bool) (e n i a wh k:Int):Sc:=(.ans 4 (sB true) ([]) (.ans 5 (.p (.sc (.bool lg))) ([]) (.fork (.lit .fin) (.ans 6 (.p (.sc (.bool wd))) ([]) (.fork .fin (.ans 7 (.agg [sI .i64 e,sI .i64 n,sI .i64 i,sI .i64 a]) ([]) (.fork .fin (.ans 8 (.aA [.mp 0 0,sI .i64 0]) (kK (RO M x y)) (.fork (.lit (.ans 11 (.mp 1 0) (Af M x y) (.fork (.vP 3 18 (VE M x y lg wd e n i a wh k 6) .fin) (.vP 3 18 (VE M x y lg wd e n i a wh k 6) .fin)))) (.fork .fin (.ans 11 (.mp 1 0) (Af M x y) (.fork (.vP 3 18 (VE M x y lg wd e n i a wh k 6) .fin) (.vP 3 18 (VE M x y lg wd e n i a wh k 6) .fin)))))))))))))
def tW (M:Mo) (x:Li) (y:Li) (wh:Int):aC:=
 (.call ⟨11,[.mp 0 0],(Af M x y),.mp 1 0,(Af M x y)⟩ (.test (!decide (afo.wrap (afo.wrap wh+1)≤afo.wrap (afo.wrap x.mn*65536))) (.call ⟨11,[.mp 0 0],(Af M x y),.mp 1 0,(Af M x y)⟩ (.call ⟨13,[.mp 0 0],(Ml x.mn (if x.cap=true then x.mx else 65536) 0),sI .u32 x.mn,(Ml x.mn (if x.cap=true then x.mx else 65536) 0)⟩ (.must (dy (.p (.sc (.bool (x.mn==x.mn)))) (sB true)&&true&&true) (.must true oO)))) (.call ⟨11,[.mp 0 0],(Af M x y),.mp 1 0,(Af M x y)⟩ (.call ⟨13,[.mp 0 0],(Ml x.mn (if x.cap=true then x.mx else 65536) 0),sI .u32 x.mn,(Ml x.mn (if x.cap=true then x.mx else 65536) 0)⟩ (.call ⟨14,[.p (.ps 1 1 [.sc (.int .u8 0)]),.os none 1 1 [.sc (.int .u8 0)]],[],sB true,[]⟩ (.must (dy (.p (.sc (.bool (x.mn==x.mn)))) (sB true)&&true&&true) (.must true oO)))))))
def JY (M:Mo) (x:Li) (y:Li) (lg:Bool) (wd:Bool) (e n i a wh k:Int):aC:=
 (.call ⟨4,[],[],sB true,[]⟩
 (.call ⟨5,[.agg ((RO M x y).aJ.map .p),sI .i64 5000],[],.p (.sc (.bool lg)),[]⟩
 (.test (lg)
 oO
 (.call ⟨6,[.agg ((RO M x y).aJ.map .p)],[],.p (.sc (.bool wd)),[]⟩
 (.test (wd)
 oO
 (.call ⟨7,[Me (RO M x y)],[],.agg [sI .i64 e,sI .i64 n,sI .i64 i,sI .i64 a],[]⟩
 (.test (!(fun r=>e==0&&r) ((fun r=>n==0&&r) ((fun r=>i==0&&r) ((fun r=>a==0&&r) true))))
 oO
 (.call ⟨8,[Me (RO M x y)],[],.aA [.mp 0 0,sI .i64 0],(kK (RO M x y))⟩
 (.test (decide (afo.wrap k≥afo.wrap (↑y.mn.toNat:Int)))
 (tW M x y wh)
 (.must (bp k y.mn.toNat&&true&&true)
 (.must (isOk (aB (bx y.mn.toNat (mO (eH (ah6 none)))) (0+k.toNat*1))&&true)
 (.need (AV.p (gD (ab5.underlying 95) (aB (bx y.mn.toNat (mO (eH (ah6 Option.none)))) (0+k.toNat*1))).fst=AV.p kQ)
 (.test (decide (k≥abb.wrap (↑y.mn.toNat:Int)))
 (.out (.ret (sB false) []))
 (tW M x y wh))))))))))))))
theorem RR (M:Mo) (x:Li) (y:Li) (lg:Bool) (wd:Bool) (e n i a wh k:Int):aH ab5 hH (aaJ M x y lg wd e n i a wh k) 1000000 3 ([AV.agg (abG AV.p (RO M x y).aJ),sI abb wh,sI abb k]) ([]) (aeG M x y lg wd e n i a wh k)=JY M x y lg wd e n i a wh k:=by kernel_rfl
def aaK (M:Mo) (x:Li) (y:Li) (lg:Bool) (wd:Bool) (e n i a wh k:Int):bD:=fy aI av [] [(3,3,3),(3,0,0),(3,0,1),(9,0,1),(12,0,1)] [(3,0,5),(9,6,5)] (ahW M x y lg wd e n i a wh k)
def aeH (M:Mo) (x:Li) (y:Li) (lg:Bool) (wd:Bool) (e n i a wh k:Int):Sc:=(.ans 4 (sB true) ([]) (.ans 5 (.p (.sc (.bool lg))) ([]) (.fork (.lit .fin) (.ans 6 (.p (.sc (.bool wd))) ([]) (.fork .fin (.ans 7 (.agg [sI .i64 e,sI .i64 n,sI .i64 i,sI .i64 a]) ([]) (.fork .fin (.ans 8 (.aA [.mp 0 0,sI .i64 0]) (kK (RP M x y)) (.fork (.ans 11 (.mp 1 0) (Dh M x y) (.fork (.vP 3 18 (aeF M x y lg wd e n i a wh k 6) .fin) (.vP 3 18 (aeF M x y lg wd e n i a wh k 6) .fin))) .fin)))))))))
def JZ (M:Mo) (x:Li) (y:Li) (lg:Bool) (wd:Bool) (e n i a wh k:Int):aC:=
 (.call ⟨4,[],[],sB true,[]⟩
 (.call ⟨5,[.agg ((RP M x y).aJ.map .p),sI .i64 5000],[],.p (.sc (.bool lg)),[]⟩
 (.test (lg)
 oO
 (.call ⟨6,[.agg ((RP M x y).aJ.map .p)],[],.p (.sc (.bool wd)),[]⟩
 (.test (wd)
 oO
 (.call ⟨7,[Me (RP M x y)],[],.agg [sI .i64 e,sI .i64 n,sI .i64 i,sI .i64 a],[]⟩
 (.test (!(fun r=>e==0&&r) ((fun r=>n==0&&r) ((fun r=>i==0&&r) ((fun r=>a==0&&r) true))))
 oO
 (.call ⟨8,[Me (RP M x y)],[],.aA [.mp 0 0,sI .i64 0],(kK (RP M x y))⟩
 (.test (decide (afo.wrap k≥0))
 (.call ⟨11,[.mp 0 0],(Dh M x y),.mp 1 0,(Dh M x y)⟩
 (.test (!decide (afo.wrap (afo.wrap wh+1)≤afo.wrap (afo.wrap x.mn*65536)))
 (.call ⟨11,[.mp 0 0],(Dh M x y),.mp 1 0,(Dh M x y)⟩
 (.call ⟨13,[.mp 0 0],(Ml x.mn (if x.cap=true then x.mx else 65536) 0),sI .u32 x.mn,(Ml x.mn (if x.cap=true then x.mx else 65536) 0)⟩
 (.must (dy (.p (.sc (.bool (x.mn==x.mn)))) (sB true)&&true&&true)
 (.must true
 oO))))
 (.call ⟨11,[.mp 0 0],(Dh M x y),.mp 1 0,(Dh M x y)⟩
 (.call ⟨13,[.mp 0 0],(Ml x.mn (if x.cap=true then x.mx else 65536) 0),sI .u32 x.mn,(Ml x.mn (if x.cap=true then x.mx else 65536) 0)⟩
 (.call ⟨14,[.p (.ps 1 1 [.sc (.int .u8 0)]),.os none 1 1 [.sc (.int .u8 0)]],[],sB true,[]⟩
 (.must (dy (.p (.sc (.bool (x.mn==x.mn)))) (sB true)&&true&&true)
 (.must true
 oO)))))))
 (.must (bp k 0&&false&&true)
          .stuck))))))))))
theorem RS (M:Mo) (x:Li) (y:Li) (lg:Bool) (wd:Bool) (e n i a wh k:Int):aH ab5 hH (aaK M x y lg wd e n i a wh k) 1000000 3 ([AV.agg (abG AV.p (RP M x y).aJ),sI abb wh,sI abb k]) ([]) (aeH M x y lg wd e n i a wh k)=JZ M x y lg wd e n i a wh k:=by kernel_rfl
def aaL (M:Mo) (x:Li) (y:Li) (lg:Bool) (wd:Bool) (e n i a wh k:Int):bD:=fy aI av [] [(3,3,3),(3,0,0),(3,0,1),(9,0,1),(3,0,3)] [(9,6,5),(9,6,6)] (ahY M x y lg wd e n i a wh k)
def aeI (M:Mo) (x:Li) (y:Li) (lg:Bool) (wd:Bool) (e n i a wh k:Int):Sc:=(.ans 4 (sB true) ([]) (.ans 5 (.p (.sc (.bool lg))) ([]) (.fork (.lit .fin) (.ans 6 (.p (.sc (.bool wd))) ([]) (.fork .fin (.ans 7 (.agg [sI .i64 e,sI .i64 n,sI .i64 i,sI .i64 a]) ([]) (.fork .fin (.ans 8 (.aA [.mp 0 0,sI .i64 0]) (kK (So M x y)) (.fork (.lit (.ans 11 (.p (.sc (ah6 none))) (FI M x y) .fin)) (.fork .fin (.ans 11 (.p (.sc (ah6 none))) (FI M x y) .fin)))))))))))
def J0 (M:Mo) (x:Li) (y:Li) (lg:Bool) (wd:Bool) (e n i a wh k:Int):aC:=
 (.call ⟨4,[],[],sB true,[]⟩
 (.call ⟨5,[.agg ((So M x y).aJ.map .p),sI .i64 5000],[],.p (.sc (.bool lg)),[]⟩
 (.test (lg)
 oO
 (.call ⟨6,[.agg ((So M x y).aJ.map .p)],[],.p (.sc (.bool wd)),[]⟩
 (.test (wd)
 oO
 (.call ⟨7,[Me (So M x y)],[],.agg [sI .i64 e,sI .i64 n,sI .i64 i,sI .i64 a],[]⟩
 (.test (!(fun r=>e==0&&r) ((fun r=>n==0&&r) ((fun r=>i==0&&r) ((fun r=>a==0&&r) true))))
 oO
 (.call ⟨8,[Me (So M x y)],[],.aA [.mp 0 0,sI .i64 0],(kK (So M x y))⟩
 (.test (decide (afo.wrap k≥afo.wrap (↑y.mn.toNat:Int)))
 (.call ⟨11,[.mp 0 0],(FI M x y),.p (.sc (ah6 none)),(FI M x y)⟩
 oO)
 (.must (bp k y.mn.toNat&&true&&true)
 (.must (isOk (aB (bx y.mn.toNat (mO (eH (ah6 none)))) (0+k.toNat*1))&&true)
 (.need (AV.p (gD (ab5.underlying 95) (aB (bx y.mn.toNat (mO (eH (ah6 Option.none)))) (0+k.toNat*1))).fst=AV.p kQ)
 (.test (decide (k≥abb.wrap (↑y.mn.toNat:Int)))
 (.out (.ret (sB false) []))
 (.call ⟨11,[.mp 0 0],(FI M x y),.p (.sc (ah6 none)),(FI M x y)⟩
 oO))))))))))))))
theorem RT (M:Mo) (x:Li) (y:Li) (lg:Bool) (wd:Bool) (e n i a wh k:Int):aH ab5 hH (aaL M x y lg wd e n i a wh k) 1000000 3 ([AV.agg (abG AV.p (So M x y).aJ),sI abb wh,sI abb k]) ([]) (aeI M x y lg wd e n i a wh k)=J0 M x y lg wd e n i a wh k:=by kernel_rfl
def aaM (M:Mo) (x:Li) (y:Li) (lg:Bool) (wd:Bool) (e n i a wh k:Int):bD:=fy aI av [] [(3,3,3),(3,0,0),(3,0,1),(9,0,1)] [(9,6,5)] (ahZ M x y lg wd e n i a wh k)
def aeJ (M:Mo) (x:Li) (y:Li) (lg:Bool) (wd:Bool) (e n i a wh k:Int):Sc:=(.ans 4 (sB true) ([]) (.ans 5 (.p (.sc (.bool lg))) ([]) (.fork (.lit .fin) (.ans 6 (.p (.sc (.bool wd))) ([]) (.fork .fin (.ans 7 (.agg [sI .i64 e,sI .i64 n,sI .i64 i,sI .i64 a]) ([]) (.fork .fin (.ans 8 (.aA [.mp 0 0,sI .i64 0]) (kK (Sp M x y)) (.fork (.ans 11 (.p (.sc (ah6 none))) (RQ M x y) .fin) .fin)))))))))
def J1 (M:Mo) (x:Li) (y:Li) (lg:Bool) (wd:Bool) (e n i a wh k:Int):aC:=
 (.call ⟨4,[],[],sB true,[]⟩
 (.call ⟨5,[.agg ((Sp M x y).aJ.map .p),sI .i64 5000],[],.p (.sc (.bool lg)),[]⟩
 (.test (lg)
 oO
 (.call ⟨6,[.agg ((Sp M x y).aJ.map .p)],[],.p (.sc (.bool wd)),[]⟩
 (.test (wd)
 oO
 (.call ⟨7,[Me (Sp M x y)],[],.agg [sI .i64 e,sI .i64 n,sI .i64 i,sI .i64 a],[]⟩
 (.test (!(fun r=>e==0&&r) ((fun r=>n==0&&r) ((fun r=>i==0&&r) ((fun r=>a==0&&r) true))))
 oO
 (.call ⟨8,[Me (Sp M x y)],[],.aA [.mp 0 0,sI .i64 0],(kK (Sp M x y))⟩
 (.test (decide (afo.wrap k≥0))
 (.call ⟨11,[.mp 0 0],(RQ M x y),.p (.sc (ah6 none)),(RQ M x y)⟩
 oO)
 (.must (bp k 0&&false&&true)
          .stuck))))))))))
theorem RU (M:Mo) (x:Li) (y:Li) (lg:Bool) (wd:Bool) (e n i a wh k:Int):aH ab5 hH (aaM M x y lg wd e n i a wh k) 1000000 3 ([AV.agg (abG AV.p (Sp M x y).aJ),sI abb wh,sI abb k]) ([]) (aeJ M x y lg wd e n i a wh k)=J1 M x y lg wd e n i a wh k:=by kernel_rfl
theorem toR {f:FuncId} {args:List AV} {m:Mem} {v:AV} {m':Mem} (h:an ab5 env f args m v m'):an ab5 hH f args m v m':=h
theorem aeK {f:FuncId} {args:List AV} {m:Mem} {v:AV} {m':Mem} (h:an ab5 bn f args m v m'):an ab5 hH f args m v m':=h
theorem ah0 {f:FuncId} {args:List AV} {m:Mem} {v:AV} {m':Mem} (h:an ab5 eY f args m v m'):an ab5 hH f args m v m':=h
theorem Wf {f:FuncId} {args args':List AV} {v:AV} {m1:Mem} (h:an ab5 hH f args' [] v m1) (ha:bH Iv args args') (hv:jk (bw [] 0) v=v) (hm:m1.map (gd (bw [] 0))=m1):an ab5 hH f args [] v m1:=by
 have k:=an.abU (m:=[]) h ha
 rw[List.nil_append,List.length_nil,hv,hm] at k
 exact k
theorem RV {g:Gh} {w:World} : ∀(l l':List AV) (vs:List Value),bH Iv l l'→cA g w l vs→cA (g.pack []) w l' vs:=by
 intro l
 induction l with
 |nil=>intro l' vs h1 h2;cases l'<;>cases vs<;>first | trivial | exact h1.elim | exact h2.elim
 |cons a l ih=>
  intro l' vs h1 h2
  cases l' with
  |nil=>exact h1.elim
  |cons b l'=>cases vs with
   |nil=>exact h2.elim
   |cons x vs=>exact⟨h1.1 g w x h2.1,ih l' vs h1.2 h2.2⟩
theorem Iv.agg {l l':List AV} (h:bH Iv l l'):Iv (.agg l) (.agg l'):=fun g w v hv=>by
 cases hv with
 |agg _ cs hn hc=>exact VA.zA.2 (RV _ _ _ h (bH.dF hn hc))
theorem J2 (M:Mo):bH Iv [Me M] [.agg ((aE M).aJ.map .p)]:=
 ⟨Iv.agg (l':=[.p _,.p _,.p _,.p _,.p _,.p _,.p _,.p _,.p _,.p _,.p _]) ⟨.p (.refl _),.os .nil,.p (.refl _),.p (.refl _),.p (.refl _),.p (.refl _),.p (.refl _),.p (.refl _),.p (.refl _),.os .nil,.os .nil,trivial⟩,trivial⟩
theorem RW {M:Mo} (h:jg M=false):Mo.small (aE M):=by
 unfold jg at h
 split at h
 · cases h
 rename_i q
 have h : ¬Lu M>5000:=by simpa using h
 have hl:0≤lens M:=by unfold lens;omega
 have r1:=cr Bn M.fns (lens M)
 have r2:=cr Bo M.gls (b8 pJ (lens M) M.fns)
 have r3:=cr E3 M.els (b8 uY (b8 pJ (lens M) M.fns) M.gls)
 have r4:=cr E4 M.bt (b8 Bm (b8 uY (b8 pJ (lens M) M.fns) M.gls) M.els)
 have r5:=cr Jk M.aZ (b8 He (b8 Bm (b8 uY (b8 pJ (lens M) M.fns) M.gls) M.els) M.bt)
 have r6:=cr Qh M.exs (b8 Sm (b8 He (b8 Bm (b8 uY (b8 pJ (lens M) M.fns) M.gls) M.els) M.bt) M.aZ)
 unfold Lu at h
 have cnt : ∀l:List Ins,dm l 5000 0≤5000→iy l≤1000000:=fun l hl=>by
  have:=nQ l 5000 0 (by decide) (by decide) hl
  omega
 refine⟨fun x hx=> ?_,fun x hx=> ?_,fun x hx=>(by cases hx),fun x hx=>(by cases hx)⟩
 · have:=mG Bn M.fns (lens M) x hx
   exact cnt _ (by have e:pJ x=dm x.l 5000 0:=rfl;omega)
 · have:=mG Bo M.gls (b8 pJ (lens M) M.fns) x hx
   exact cnt _ (by have e:uY x=dm x.l 5000 0:=rfl;omega)
theorem RX {M:Mo} (h:M.fit):(aE M).fit:=⟨h.tys,QQ _,h.fns,h.cj,h.cM,h.gls,h.exs,QQ _,QQ _⟩
theorem aeL {M:Mo} (h:M.wf):(aE M).wf:=⟨h.tys,⟨QQ _,fun _ q=>by cases q⟩,h.fns,h.cj,h.cM,h.gls,h.exs,h.sn,⟨QQ _,fun _ q=>by cases q⟩,⟨QQ _,fun _ q=>by cases q⟩⟩
theorem VF {M:Mo} (h:M.CT):(aE M).CT:=fun l hl=>by
 simp only[uQ,aE,vd,List.append_nil,mi] at hl
 rcases hl with q | q
 · exact h l (by simp only[uQ,mi];exact .inl (.inl (.inl q)))
 · exact h l (by simp only[uQ,mi];exact .inl (.inl (.inr q)))
theorem tX:an ab5 hH 14 [.p (.ps 1 1 [.sc (.int .u8 0)]),.os none 1 1 [.sc (.int .u8 0)]] [] (sB true) []:=fK aM (n:=1000) (by kernel_rfl)
theorem lK (n most:Int):an ab5 hH 13 [.mp 0 0] (Ml n most 0) (sI .u32 n) (Ml n most 0):=fK aM (n:=1000) (by kernel_rfl)
theorem lM (M:Mo) (x y:Li):an ab5 hH 11 [.mp 0 0] (Af M x y) (.mp 1 0) (Af M x y):=fK aM (n:=1000) (by kernel_rfl)
theorem zp (M:Mo) (x y:Li):an ab5 hH 11 [.mp 0 0] (Dh M x y) (.mp 1 0) (Dh M x y):=fK aM (n:=1000) (by kernel_rfl)
theorem FJ (M:Mo) (x y:Li):an ab5 hH 11 [.mp 0 0] (FI M x y) (.p kQ) (FI M x y):=fK aM (n:=1000) (by kernel_rfl)
theorem RY (M:Mo) (x y:Li):an ab5 hH 11 [.mp 0 0] (RQ M x y) (.p kQ) (RQ M x y):=fK aM (n:=1000) (by kernel_rfl)
structure RZ (M:Mo) (lg wd:Bool) (e n i a:Int):Prop where
 Wg:an ab5 hH 4 [] [] (sB true) []
 Sq:an ab5 hH 5 [.agg (M.aJ.map .p),sI .i64 5000] [] (sB lg) []
 hwd:lg=false→an ab5 hH 6 [.agg (M.aJ.map .p)] [] (sB wd) []
 hck:lg=false→an ab5 hH 7 [Me M] [] (.agg [sI .i64 e,sI .i64 n,sI .i64 i,sI .i64 a]) []
 hnw:lg=false→e=0→n=0→i=0→a=0→an ab5 hH 8 [Me M] [] sj (kK M)
 hta:lg=false→wd=false→e=0→n=0→i=0→a=0 → ∀y∈M.cj,0≤y.mn∧y.mn≤2000
theorem FK {e n i a:Int} (h:(!(fun r=>e==0&&r) ((fun r=>n==0&&r) ((fun r=>i==0&&r) ((fun r=>a==0&&r) true))))=false):e=0∧n=0∧i=0∧a=0:=by
 simpa only[Bool.not_eq_false',Bool.and_true,ch,beq_iff_eq] using h
theorem FL {T:Nat} {k:Int} (h:bp k T=true):(bx T (mO (eH (ah6 none)))).getD (0+k.toNat*1) PV.bK=kQ:=by
 simp only[bp,ch,decide_eq_true_eq] at h
 rw[Nat.zero_add]
 exact YI h.1 (by omega)
theorem R0 (M:Mo) (x y:Li) {lg wd:Bool} {e n i a wh k:Int} (FN:0≤k) (hk1:k<4294967296) (H:RZ (RO M x y) lg wd e n i a):an ab5 hH 3 [.agg ((RO M x y).aJ.map .p),sI .u32 wh,sI .u32 k] [] (sB true) []:=by
 refine af aM (RR M x y lg wd e n i a wh k) ?_
 simp only[JY,tW,bN,aC.ok]
 refine⟨H.Wg,H.Sq,fun _=>(by first | rfl | trivial),fun hl=>⟨H.hwd hl,fun _=>(by first | rfl | trivial),fun hw=>⟨H.hck hl,fun _=>(by first | rfl | trivial),fun hz=> ?_⟩⟩⟩
 obtain⟨e0,n0,i0,a0⟩:=FK hz
 refine⟨H.hnw hl e0 n0 i0 a0,?_⟩
 obtain⟨y0,y1⟩:=H.hta hl hw e0 n0 i0 a0 y (.head _)
 refine⟨fun _=> ?_,?_⟩
 · exact⟨lM M x y,fun _=>⟨lM M x y,lK _ _,by simp[dy,oL,J9,dD],(by first | rfl | trivial),(by first | rfl | trivial)⟩,fun _=>⟨lM M x y,lK _ _,tX,by simp[dy,oL,J9,dD],(by first | rfl | trivial),(by first | rfl | trivial)⟩⟩
 · intro g1
   have hk : ¬(afo.wrap k≥afo.wrap (↑y.mn.toNat:Int)):=of_decide_eq_false g1
   rw[tE FN hk1,tE (by omega) (by omega)] at hk
   have hin:bp k y.mn.toNat=true:=by simp only[bp,ch,decide_eq_true_eq];omega
   rw[FL hin,hin]
   have hsz : ¬(k≥abb.wrap (↑y.mn.toNat:Int)):=by rw[Xg];omega
   refine⟨rfl,rfl,by kernel_rfl,fun q=>absurd (of_decide_eq_true q) hsz,fun _=> ?_⟩
   exact⟨lM M x y,fun _=>⟨lM M x y,lK _ _,by simp[dy,oL,J9,dD],(by first | rfl | trivial),(by first | rfl | trivial)⟩,fun _=>⟨lM M x y,lK _ _,tX,by simp[dy,oL,J9,dD],(by first | rfl | trivial),(by first | rfl | trivial)⟩⟩
theorem R8 (M:Mo) (x y:Li) {lg wd:Bool} {e n i a wh k:Int} (FN:0≤k) (hk1:k<4294967296) (H:RZ (RP M x y) lg wd e n i a):an ab5 hH 3 [.agg ((RP M x y).aJ.map .p),sI .u32 wh,sI .u32 k] [] (sB true) []:=by
 refine af aM (RS M x y lg wd e n i a wh k) ?_
 simp only[JZ,bN,aC.ok]
 refine⟨H.Wg,H.Sq,fun _=>(by first | rfl | trivial),fun hl=>⟨H.hwd hl,fun _=>(by first | rfl | trivial),fun hw=>⟨H.hck hl,fun _=>(by first | rfl | trivial),fun hz=> ?_⟩⟩⟩
 obtain⟨e0,n0,i0,a0⟩:=FK hz
 refine⟨H.hnw hl e0 n0 i0 a0,?_⟩
 have hk:afo.wrap k≥0:=by rw[tE FN hk1];omega
 refine⟨fun _=> ?_,fun q=>absurd hk (of_decide_eq_false q)⟩
 exact⟨zp M x y,fun _=>⟨zp M x y,lK _ _,by simp[dy,oL,J9,dD],(by first | rfl | trivial),(by first | rfl | trivial)⟩,fun _=>⟨zp M x y,lK _ _,tX,by simp[dy,oL,J9,dD],(by first | rfl | trivial),(by first | rfl | trivial)⟩⟩
theorem R9 (M:Mo) (x y:Li) {lg wd:Bool} {e n i a wh k:Int} (FN:0≤k) (hk1:k<4294967296) (H:RZ (So M x y) lg wd e n i a):an ab5 hH 3 [.agg ((So M x y).aJ.map .p),sI .u32 wh,sI .u32 k] [] (sB true) []:=by
 refine af aM (RT M x y lg wd e n i a wh k) ?_
 simp only[J0,bN,aC.ok]
 refine⟨H.Wg,H.Sq,fun _=>(by first | rfl | trivial),fun hl=>⟨H.hwd hl,fun _=>(by first | rfl | trivial),fun hw=>⟨H.hck hl,fun _=>(by first | rfl | trivial),fun hz=> ?_⟩⟩⟩
 obtain⟨e0,n0,i0,a0⟩:=FK hz
 refine⟨H.hnw hl e0 n0 i0 a0,?_⟩
 obtain⟨y0,y1⟩:=H.hta hl hw e0 n0 i0 a0 y (.head _)
 refine⟨fun _=> ?_,?_⟩
 · exact⟨FJ M x y,(by first | rfl | trivial)⟩
 · intro g1
   have hk : ¬(afo.wrap k≥afo.wrap (↑y.mn.toNat:Int)):=of_decide_eq_false g1
   rw[tE FN hk1,tE (by omega) (by omega)] at hk
   have hin:bp k y.mn.toNat=true:=by simp only[bp,ch,decide_eq_true_eq];omega
   rw[FL hin,hin]
   have hsz : ¬(k≥abb.wrap (↑y.mn.toNat:Int)):=by rw[Xg];omega
   refine⟨rfl,rfl,by kernel_rfl,fun q=>absurd (of_decide_eq_true q) hsz,fun _=> ?_⟩
   exact⟨FJ M x y,(by first | rfl | trivial)⟩
theorem Sa (M:Mo) (x y:Li) {lg wd:Bool} {e n i a wh k:Int} (FN:0≤k) (hk1:k<4294967296) (H:RZ (Sp M x y) lg wd e n i a):an ab5 hH 3 [.agg ((Sp M x y).aJ.map .p),sI .u32 wh,sI .u32 k] [] (sB true) []:=by
 refine af aM (RU M x y lg wd e n i a wh k) ?_
 simp only[J1,bN,aC.ok]
 refine⟨H.Wg,H.Sq,fun _=>(by first | rfl | trivial),fun hl=>⟨H.hwd hl,fun _=>(by first | rfl | trivial),fun hw=>⟨H.hck hl,fun _=>(by first | rfl | trivial),fun hz=> ?_⟩⟩⟩
 obtain⟨e0,n0,i0,a0⟩:=FK hz
 refine⟨H.hnw hl e0 n0 i0 a0,?_⟩
 have hk:afo.wrap k≥0:=by rw[tE FN hk1];omega
 refine⟨fun _=> ?_,fun q=>absurd hk (of_decide_eq_false q)⟩
 exact⟨RY M x y,(by first | rfl | trivial)⟩
def aaO:bD:=aQ aI av [] [(3,3,3),(3,0,0),(3,0,1)] []
def aeN (M:Mo) (lg:Bool) (wd:Bool) (e n i a wh k:Int):Sc:=(.ans 4 (sB true) ([]) (.ans 5 (.p (.sc (.bool lg))) ([]) (.fork (.lit .fin) (.ans 6 (.p (.sc (.bool wd))) ([]) (.fork .fin (.ans 7 (.agg [sI .i64 e,sI .i64 n,sI .i64 i,sI .i64 a]) ([]) (.fork .fin (.ans 8 (.aA [.p (.sc (ah6 none)),sI .i64 5]) ([]) .fin))))))))
def J3 (M:Mo) (lg:Bool) (wd:Bool) (e n i a wh k:Int):aC:=
 (.call ⟨4,[],[],sB true,[]⟩
 (.call ⟨5,[.agg (M.aJ.map .p),sI .i64 5000],[],.p (.sc (.bool lg)),[]⟩
 (.test (lg)
 oO
 (.call ⟨6,[.agg (M.aJ.map .p)],[],.p (.sc (.bool wd)),[]⟩
 (.test (wd)
 oO
 (.call ⟨7,[Me M],[],.agg [sI .i64 e,sI .i64 n,sI .i64 i,sI .i64 a],[]⟩
 (.test (!(fun r=>e==0&&r) ((fun r=>n==0&&r) ((fun r=>i==0&&r) ((fun r=>a==0&&r) true))))
 oO
 (.call ⟨8,[Me M],[],.aA [.p (.sc (ah6 none)),sI .i64 5],[]⟩
 (.out (.ret (sB false) []))))))))))
theorem Sb (M:Mo) (lg:Bool) (wd:Bool) (e n i a wh k:Int):aH ab5 hH aaO 1000000 3 ([AV.agg (abG AV.p M.aJ),sI abb wh,sI abb k]) ([]) (aeN M lg wd e n i a wh k)=J3 M lg wd e n i a wh k:=by kernel_rfl
theorem Wh {x:Li} (h:KD x):0≤x.mn∧x.mn≤4294967295:=Iu h.1
theorem zq {M:Mo} (h:kI (aE M) (ct (aE M))=(0,0,0,0)):(aE M).Valid:=(LA _).1 h
theorem oa {M:Mo} (h:(aE M).Valid):M.cj.length≤1∧M.cM.length≤1:=by
 have m:=h.may.many
 simp only[pI,oT,decide_eq_false_iff_not] at m
 obtain⟨⟨⟨m1,m2⟩,_⟩,_⟩:=m
 exact⟨aia m1,aia m2⟩
theorem Mf {M:Mo} (h:(aE M).Valid) : ∀x∈M.cM,TL 65536 x=0:=by
 have r:=h.may.rest
 simp only[rR,oT] at r
 obtain⟨⟨⟨⟨⟨⟨⟨_,_⟩,_⟩,_⟩,_⟩,r6⟩,_⟩,_⟩:=r
 intro x hx
 have:=(List.any_eq_false.1 r6) x hx
 simpa[tC] using this
theorem aeO (M:Mo) (hw:M.wf) (hs:M.short) : ∃(wd:Bool) (W:Wr),RZ M (jg M) wd W.1 W.2.1 W.2.2.1 W.2.2.2∧(jg M=false→W=kI (aE M) (ct (aE M))):=by
 have Wg:an ab5 hH 4 [] [] (sB true) []:=ah0 aaI
 have Sq:an ab5 hH 5 [.agg (M.aJ.map .p),sI .i64 5000] [] (sB (jg M)) []:=toR (Hf M hw hs)
 cases hl:jg M with
 |true=>
  rw[hl] at Sq
  exact⟨true,(0,0,0,0),⟨Wg,Sq,fun q=>(by cases q),fun q=>(by cases q),fun q=>(by cases q),fun q=>(by cases q)⟩,fun q=>(by cases q)⟩
 |false=>
  rw[hl] at Sq
  obtain⟨hf,hsl,h5⟩:=Lv hl
  obtain⟨wd,h6,hwd⟩:=Lo M hf
  have h7:an ab5 env 7 [.agg ((aE M).aJ.map .p)] [] (wV (kI (aE M) (ct (aE M)))) []:=FF (aE M) (RX hf) (aeL hw) (VF hsl) (fun _ q=>by cases q)
  refine⟨wd,kI (aE M) (ct (aE M)),⟨Wg,Sq,fun _=>aeK h6,fun _=>Wf (toR h7) (J2 M) rfl rfl,fun _ e0 n0 i0 a0=> ?_,fun _ w0 e0 n0 i0 a0=> ?_⟩,fun _=>rfl⟩
  · have hz:kI (aE M) (ct (aE M))=(0,0,0,0):=by
     generalize kI (aE M) (ct (aE M))=W at *
     obtain⟨a,b,c,d⟩:=W
     dsimp only at e0 n0 i0 a0
     rw[e0,n0,i0,a0]
    have hv:=zq hz
    obtain⟨s1,s2⟩:=oa hv
    rw[hz] at h7
    have h8:an ab5 bn 8 [.agg ((aE M).aJ.map .p)] [] sj (kK M):=L2 M hf s2 s1 (Mf hv) (fun x hx=>Wh (hw.cj.2 x hx)) (toN h7) (G1 (aE M) (RX hf) (RW hl)) fun x hx=>by
     obtain⟨u,hu⟩:=FG x.l (hsl _ (by simp only[uQ,mi,List.mem_map];exact .inl (.inl (.inr ⟨x,hx,rfl⟩))))
     have hc:=hv.gls x hx
     have hc0:mT x.l=0:=by
      unfold PN at hc
      split at hc
      · rename_i g;exact eq_of_beq g
      · cases hc
     rw[hc0] at hu
     exact⟨u,hu⟩
    refine Wf (aeK h8) (J2 M) rfl ?_
    unfold kK
    split<;>rfl
  · have hz:kI (aE M) (ct (aE M))=(0,0,0,0):=by
     generalize kI (aE M) (ct (aE M))=W at *
     obtain⟨a,b,c,d⟩:=W
     dsimp only at e0 n0 i0 a0
     rw[e0,n0,i0,a0]
    obtain⟨s1,_⟩:=oa (zq hz)
    intro y hy
    obtain⟨j,hj,rfl⟩:=List.getElem_of_mem hy
    exact⟨(Wh (hw.cj.2 _ hy)).1,(hwd w0).2 j _ (by omega) (bm hj)⟩
theorem VG (M:Mo) (hw:M.wf) (hs:M.short) (wh:Int) (hwh:(Lit.int .u32 wh).wf=true) (k:Int) (hk:(Lit.int .u32 k).wf=true):an ab5 hH 3 [.agg (M.aJ.map .p),sI .u32 wh,sI .u32 k] [] (sB true) []:=by
 obtain⟨k0,k1⟩:=Iu hk
 obtain⟨wd,W,H,hW⟩:=aeO M hw hs
 by_cases hsh:M.cj.length≤1∧M.cM.length≤1
 · obtain⟨s1,s2⟩:=hsh
   obtain⟨tys,aZ,fns,cj,cM,gls,exs,st,sn,els,bt⟩:=M
   dsimp only at s1 s2
   rcases cM with _ | ⟨x,_ | ⟨x2,cM⟩⟩<;>rcases cj with _ | ⟨y,_ | ⟨y2,cj⟩⟩<;>first | (exfalso;simp at s1;done) | (exfalso;simp at s2;done) | skip
   · exact Sa (⟨tys,aZ,fns,[],[],gls,exs,st,sn,els,bt⟩:Mo) ⟨0,0,false⟩ ⟨0,0,false⟩ k0 (by omega) H
   · exact R9 (⟨tys,aZ,fns,[],[],gls,exs,st,sn,els,bt⟩:Mo) ⟨0,0,false⟩ y k0 (by omega) H
   · exact R8 (⟨tys,aZ,fns,[],[],gls,exs,st,sn,els,bt⟩:Mo) x ⟨0,0,false⟩ k0 (by omega) H
   · exact R0 (⟨tys,aZ,fns,[],[],gls,exs,st,sn,els,bt⟩:Mo) x y k0 (by omega) H
 · refine af aM (Sb M (jg M) wd W.1 W.2.1 W.2.2.1 W.2.2.2 wh k) ?_
   simp only[J3,bN,aC.ok]
   refine⟨H.Wg,H.Sq,fun _=>(by first | rfl | trivial),fun hl=>⟨H.hwd hl,fun _=>(by first | rfl | trivial),fun _=>⟨H.hck hl,fun _=>(by first | rfl | trivial),fun hz=> ?_⟩⟩⟩
   obtain⟨e0,n0,i0,a0⟩:=FK hz
   refine absurd (oa (zq ?_)) hsh
   rw[←hW hl]
   obtain⟨a,b,c,d⟩:=W
   dsimp only at e0 n0 i0 a0
   rw[e0,n0,i0,a0]
end Go.Proofs.YtjfgfhaoeicpdaaGreatDoor.N
end
section
set_option linter.unusedVariables false
namespace Go.Am
open Go.RowKit Go.Lib
section
variable {H:Type} {enc:TypeId×Value→H} {P:Program} {w:World} {base:Nat} {spare:Nat→Bool} {held:Bool}
theorem zu {lt te:TypeId} (ht:P.underlying lt=some (.slice te)) (hb:1≤P.bytesOf te) {fuel:Nat} {v:Value} {x:DataW H×List MemPlace} (h:aa0 enc P w base spare held fuel lt [v]=some x)
  (hw : ∀n∈x.1.weights P lt,n≤reachBytes) {g:Gh} {len sz:Nat} {cells:List PV} (hv:VP g w (.ps len sz cells) v):len≤reachBytes:=by
 rcases DataW.trod_slice ht h with⟨e,_⟩ | ⟨a,len',cap,elems,rest,n,rfl,e,rfl,_,_,_,hel,_,_,_⟩
 · obtain rfl:v = .slice none 0 0:=(List.cons.inj e).1
   cases hv with
   |pP=>exact QQ _
 · obtain rfl:v = .slice (some a) len' cap:=(List.cons.inj e).1
   have hm:(elems.length+rest.length)*P.bytesOf te∈aic P lt (.slice (elems.map (·.1)) (rest.map (·.1))):=by
    rw[aic,ht]
    simp
   have q:=hw _ hm
   have r:elems.length≤(elems.length+rest.length)*P.bytesOf te:=Nat.le_trans (Nat.le_add_right _ _) (Nat.le_mul_of_pos_right _ hb)
   have hlen:len=len':=by cases hv<;>rfl
   omega
theorem oc : ∀{ts:List TypeId} {ds:List (DataW H)} {i:Nat} {t:TypeId} {d:DataW H},ts[i]? = some t→ds[i]? = some d → ∀n∈d.weights P t,n∈aib P ts ds
 |t'::ts,d'::ds,0,t,d,h1,h2,n,hn=>by
  simp only[lv,Option.some.injEq] at h1 h2
  subst h1;subst h2
  rw[aib]
  exact List.mem_append_left _ hn
 |t'::ts,d'::ds,i+1,t,d,h1,h2,n,hn=>by
  simp only[lL] at h1 h2
  rw[aib]
  exact List.mem_append_right _ (oc h1 h2 n hn)
variable {tM sk so sr mY su sv sw sx uK uL vR z6 rG uM uN uO uP tL tI ti tu tn tt ts tb t8 tk:TypeId}
theorem Sd (T:FQ P tM sk so sr mY su sv sw sx uK uL vR z6 rG uM uN uO uP tL tI ti tu tn tt ts tb t8 tk) (hb : ∀t∈[uK,uL,vR,rG,uM,uN,uO,uP],1≤P.bytesOf t)
  {fuel:Nat} {cs:List Value} {x:DataW H×List MemPlace} (h:aa0 enc P w base spare held fuel tM cs=some x) (hw : ∀n∈x.1.weights P tM,n≤reachBytes) {g:Gh} {M:Mo} (hv:HZ g w M.aJ cs):M.short:=by
 obtain⟨fs,q1,q2,q3⟩:=T.st (tM,[sk,so,sr,mY,mY,su,sv,tb,tu,sw,sx]) (by simp)
 obtain⟨xs,n,rfl,rfl,h3,h4,h5⟩:=aid q1 h
 have hW : ∀n∈aib P (fs.toList.map (·.type)) (xs.map (·.1)),n≤reachBytes:=by
  intro n hn
  refine hw n ?_
  rw[aic,q1]
  exact hn
 have one : ∀(i:Nat) (lt te:TypeId) (len sz:Nat) (cells:List PV) (v:Value),[sk,so,sr,mY,mY,su,sv,tb,tu,sw,sx][i]? = some lt→(lt,te)∈[(sk,uK),(so,uL),(sr,vR),(mY,rG),(su,uM),(sv,uN),(sw,uO),(sx,uP)] →
   P.cellsOf lt=1→1≤P.bytesOf te→(cs.drop i).take 1=[v]→VP g w (.ps len sz cells) v→len≤1000000000000000:=by
  intro i lt te len sz cells v hi hm gG SD hcs hvp
  obtain⟨f,f1,f2,f3⟩:=Xi (fs:=fs) (i:=i) (o:=i) (t:=lt) (by rw[q3,dC,List.getElem?_zipIdx,hi];simp)
  have e:=h5 i f f1
  rw[f2,f3,gG,hcs] at e
  have ud:i<xs.length:=by
   rw[h4]
   rcases Nat.lt_or_ge i fs.size with q | q
   · exact q
   · rw[Array.getElem?_eq_none q] at f1;cases f1
  rw[bm ud] at e
  have r:=zu (T.sl (lt,te) hm) SD e (fun n hn=>hW n (oc (i:=i) (t:=lt) (d:=xs[i].1) (by rw[dC,lj,f1];simp[f3]) (by rw[dC,bm ud];rfl) n hn)) hvp
  have:reachBytes≤1000000000000000:=by decide
  omega
 match cs,hv with
 |[u0,u1,u2,u3,u4,u5,u6,u7,u8,u9,u10],hv=>
  obtain⟨v0,v1,v2,v3,v4,v5,v6,v7,v8,v9,v10,_⟩:=hv
  exact⟨one 0 sk uK _ _ _ u0 rfl (by simp) (T.c1 (by simp)) (hb _ (by simp)) rfl v0,one 1 so uL _ _ _ u1 rfl (by simp) (T.c1 (by simp)) (hb _ (by simp)) rfl v1,one 2 sr vR _ _ _ u2 rfl (by simp) (T.c1 (by simp)) (hb _ (by simp)) rfl v2,
   one 3 mY rG _ _ _ u3 rfl (by simp) (T.c1 (by simp)) (hb _ (by simp)) rfl v3,one 4 mY rG _ _ _ u4 rfl (by simp) (T.c1 (by simp)) (hb _ (by simp)) rfl v4,one 5 su uM _ _ _ u5 rfl (by simp) (T.c1 (by simp)) (hb _ (by simp)) rfl v5,
   one 6 sv uN _ _ _ u6 rfl (by simp) (T.c1 (by simp)) (hb _ (by simp)) rfl v6,one 9 sw uO _ _ _ u9 rfl (by simp) (T.c1 (by simp)) (hb _ (by simp)) rfl v9,one 10 sx uP _ _ _ u10 rfl (by simp) (T.c1 (by simp)) (hb _ (by simp)) rfl v10⟩
end
theorem HO {P:Program} {W:World} {name:String} {d:DataW Unit} {k:IntKind} {zs:List (Int×Int)} {g t e n t1:Nat} {fs:Array Field} (h:VarReads P W name d) (hd:d = .agg (zs.map fun z=> .agg [.lit (.int k z.1),.lit (.int k z.2)])) (hg:P.globalNamed name=some g)
  (ht:(P.globals[g]?).map (·.type)=some t) (hu:P.underlying t=some (.array n e)) (he:P.underlying e=some (.struct fs)) (hf:(fs.toList.map fun f=>(f.offset,f.type))=[(0,t1),(1,t1)]) (hk:P.underlying t1=some (.int k)) (hc:P.cellsOf e=2) (gG:P.cellsOf t1=1) (hn:zs.length≤n) :
  ∀(i:Nat) (v:Value),((zs.flatMap fun z=>[z.1,z.2]).map (Value.int k))[i]? = some v→W.cell? ⟨g,i,none⟩=some v∧v.oneCell'=true:=by
 subst hd
 obtain⟨g',t',cs,fuel,p,h1,h2,h3,h4⟩:=h
 rw[hg] at h1;cases h1
 rw[ht] at h2;cases h2
 have two : ∀(i:Nat) (z:Int×Int),zs[i]? = some z→W.cell? ⟨g,i*2,none⟩=some (.int k z.1)∧W.cell? ⟨g,i*2+1,none⟩=some (.int k z.2):=by
  intro i z hz
  have hi:i<zs.length:=(List.getElem?_eq_some_iff.1 hz).1
  obtain⟨fuel',d,q,hd,VY⟩:=array_elem hu h4 i (by omega)
  rw[dC,hz] at hd
  simp only[Option.map_some,Option.some.injEq] at hd
  subst hd
  obtain⟨xs,m,rfl,hx,hl,hxl,lp⟩:=aid he VY
  obtain⟨f0,a1,a2,a3⟩:=Xi (fs:=fs) (i:=0) (o:=0) (t:=t1) (by rw[hf];rfl)
  obtain⟨f1,b1,b2,b3⟩:=Xi (fs:=fs) (i:=1) (o:=1) (t:=t1) (by rw[hf];rfl)
  have e0:=lp 0 f0 a1
  have e1:=lp 1 f1 b1
  rw[a2,a3,gG] at e0
  rw[b2,b3,gG] at e1
  have hxs:=congrArg Prod.fst hx
  simp only[DataW.agg.injEq] at hxs
  have hs:fs.size=2:=by
   have:=congrArg List.length hf
   simpa using this
  rw[hs] at hxl
  match xs,hxl with
  |[x0,x1],_=>
   simp only[List.map_cons,vd,List.cons.injEq,and_true] at hxs
   simp only[lv,lL] at e0 e1
   obtain⟨z0,g0,k0,_⟩:=aa3 hk e0
   obtain⟨z1,g1,k1,_⟩:=aa3 hk e1
   obtain⟨y0,y1⟩:=hxs
   rw[k0] at y0
   rw[k1] at y1
   simp only[DataW.lit.injEq,Lit.int.injEq,true_and] at y0 y1
   subst y0;subst y1
   refine⟨?_,?_⟩
   · rw[World.var?_cell hg h3 (i*2),←lj]
     have:=congrArg (·[0]?) g0
     simpa[c9,dd,hc] using this
   · rw[World.var?_cell hg h3 (i*2+1),←lj]
     have:=congrArg (·[0]?) g1
     simpa[c9,dd,hc] using this
 have at2 : ∀(l:List (Int×Int)) (i:Nat) (v:Int),(l.flatMap fun z=>[z.1,z.2])[i]? = some v → ∃z,l[i / 2]? = some z∧((i%2=0∧v=z.1)∨(i%2=1∧v=z.2)):=by
  intro l
  induction l with
  |nil=>intro i v h;cases h
  |cons z r ih=>
   intro i v h
   match i,h with
   |0,h=>exact⟨z,rfl,.inl ⟨rfl,by simpa using h.symm⟩⟩
   |1,h=>exact⟨z,rfl,.inr ⟨rfl,by simpa using h.symm⟩⟩
   |i+2,h=>
    obtain⟨y,h1,h2⟩:=ih i v (by simpa using h)
    refine⟨y,?_,?_⟩
    · rw[show(i+2) / 2=i / 2+1 by omega];exact h1
    · rcases h2 with⟨a,b⟩ | ⟨a,b⟩
      · exact .inl ⟨by omega,b⟩
      · exact .inr ⟨by omega,b⟩
 intro i v hv
 rw[dC,Option.map_eq_some_iff] at hv
 obtain⟨z,hz,rfl⟩:=hv
 obtain⟨y,h1,h2⟩:=at2 zs i z hz
 obtain⟨c1,c2⟩:=two (i / 2) y h1
 refine⟨?_,rfl⟩
 rcases h2 with⟨a,rfl⟩ | ⟨a,rfl⟩
 · rw[show i / 2*2=i by omega] at c1;exact c1
 · rw[show i / 2*2+1=i by omega] at c2;exact c2
end Go.Am
end
section
namespace Go.Proofs.YtjfgfhaoeicpdaaGreatDoor.N
open Go Go.Am
def oK:List (String×DataW Unit):=Rows.placeReadyRow.laid
def aeP:List (Int×Int):=[(128,191),(160,191),(128,159),(144,191),(128,143)]++bx 11 (0,0)
theorem ah1:abV=aeP.flatMap fun z=>[z.1,z.2]:=by decide
def fieldsOf (t:TypeId):Array Field:=match ab5.underlying t with
 |some (.struct fs)=>fs
 |_=> #[]
theorem BR {W:World} (h:laidMetH ab5 oK W):jW tabs W:=by
 rw[MakeChecks.laidMetH_plain _ _ _ (by kernel_rfl)] at h
 refine kO (uF (n:=256) (t:=214) (e:=5) (k:= .u8) (zs:=ND) (aie h (n:= "strings.asciiSpace") (d:=Rows.laid_strings_asciiSpace) (.tail _ (.tail _ (.head _)))) (by kernel_rfl) (by kernel_rfl) (by kernel_rfl) (by kernel_rfl) (by kernel_rfl) (by kernel_rfl) (eh (by kernel_rfl)))
  (kO (uF (n:=256) (t:=214) (e:=5) (k:= .u8) (zs:=iz) (aie h (n:= "unicode/utf8.first") (d:=Rows.laid_unicode_utf8_first) (.tail _ (.tail _ (.tail _ (.head _))))) (by kernel_rfl) (by kernel_rfl) (by kernel_rfl) (by kernel_rfl) (by kernel_rfl) (by kernel_rfl) (eh (by kernel_rfl)))
  (kO ?_ CB))
 rw[ah1]
 exact HO (n:=16) (t:=218) (e:=217) (t1:=5) (k:= .u8) (zs:=aeP) (fs:=fieldsOf 217) (aie h (n:= "unicode/utf8.acceptRanges") (d:=Rows.laid_unicode_utf8_acceptRanges) (.head _)) (by kernel_rfl) (by kernel_rfl) (by kernel_rfl) (by kernel_rfl) (by kernel_rfl) (by kernel_rfl) (by kernel_rfl) (by kernel_rfl) (by kernel_rfl) (eh (by kernel_rfl))
theorem ah2:Xh ab5 57 103 3 28 21 64 (fieldsOf 103) where
 hL:=by kernel_rfl
 hI:=by kernel_rfl
 hz:=by kernel_rfl
 hf:=by kernel_rfl
 h1:=⟨by kernel_rfl,by kernel_rfl,by kernel_rfl,by kernel_rfl,by kernel_rfl⟩
 ki:=by kernel_rfl
 ku:=by kernel_rfl
 kn:=by kernel_rfl
 kt:=by kernel_rfl
theorem moT:FQ ab5 32 22 23 24 25 26 27 29 30 82 70 61 59 52 63 72 66 68 57 103 3 28 21 64 9 4 48 5 where
 ins:=⟨_,ah2⟩
 us:=by kernel_rfl
 ub:=by kernel_rfl
 u8:=by kernel_rfl
 uk:=by kernel_rfl
 one:=by kernel_rfl
 sl q hq:=by
  simp only[oi,ah9,or_false] at hq
  rcases hq with rfl | rfl | rfl | rfl | rfl | rfl | rfl | rfl
  · kernel_rfl
  · kernel_rfl
  · kernel_rfl
  · kernel_rfl
  · kernel_rfl
  · kernel_rfl
  · kernel_rfl
  · kernel_rfl
 st q hq:=by
  simp only[oi,ah9,or_false] at hq
  rcases hq with rfl | rfl | rfl | rfl | rfl | rfl | rfl | rfl | rfl
  · exact⟨fieldsOf 32,by kernel_rfl,by kernel_rfl,by kernel_rfl⟩
  · exact⟨fieldsOf 82,by kernel_rfl,by kernel_rfl,by kernel_rfl⟩
  · exact⟨fieldsOf 70,by kernel_rfl,by kernel_rfl,by kernel_rfl⟩
  · exact⟨fieldsOf 59,by kernel_rfl,by kernel_rfl,by kernel_rfl⟩
  · exact⟨fieldsOf 52,by kernel_rfl,by kernel_rfl,by kernel_rfl⟩
  · exact⟨fieldsOf 63,by kernel_rfl,by kernel_rfl,by kernel_rfl⟩
  · exact⟨fieldsOf 72,by kernel_rfl,by kernel_rfl,by kernel_rfl⟩
  · exact⟨fieldsOf 66,by kernel_rfl,by kernel_rfl,by kernel_rfl⟩
  · exact⟨fieldsOf 68,by kernel_rfl,by kernel_rfl,by kernel_rfl⟩
 fu:=⟨fieldsOf 61,by kernel_rfl,by kernel_rfl,by kernel_rfl⟩
theorem moB : ∀t∈[82,70,61,52,63,72,66,68],1≤ab5.bytesOf t:=by
 have h:([82,70,61,52,63,72,66,68].all fun t=>Nat.ble 1 (ab5.bytesOf t))=true:=by kernel_rfl
 intro t ht
 exact eh (List.all_eq_true.1 h t ht)
end Go.Proofs.YtjfgfhaoeicpdaaGreatDoor.N
end
