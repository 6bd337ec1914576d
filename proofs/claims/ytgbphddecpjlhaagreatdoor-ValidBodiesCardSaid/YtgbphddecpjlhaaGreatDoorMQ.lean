/-
  The document's judge: a function's body.
  The module that a law has made, where its last type and its function's words are open: the types of its functions, by both sides; what the document's judge is told.
  module.Check of the law's module, of any type and any number of words.
  The document's check of instructions: what its parts tell, of any instructions.
  gimletref07.Check of the law's module: the same.
  A body of the law's module: both sides tell the same, of any type and any number of words.
-/
import Derived.Test.YtgbphddecpjlhaaGreatDoorMP
import Derived.Test.YtgbphddecpjlhaaGreatDoorML
import Derived.Test.YtgbphddecpjlhaaGreatDoorMH

section
set_option linter.unusedSimpArgs false
set_option linter.unusedVariables false
namespace Go.Proofs.YtgbphddecpjlhaaGreatDoor.N
open Go Go.Am

abbrev jN (J : Jd) (c e p : Int) : Mem := [.ac (J.M.cells ++ [sI .i64 J.tP, sI .i64 J.tR, sI .i64 J.own, .os none 0 0 [], sI .i64 c, sI .i64 e, sI .i64 p])]
def JListN (J : Jd) (r : VR) (m : Mem) : Prop := match r with
  | .ok _ _ c => m = jN J c 0 0
  | .bad e p => ∃ c : Int, m = jN J c e p
noncomputable abbrev cfgZ (J : Jd) (l : List Ins) (i : Nat) (rs x : Nat) (n : Int) (d : Bool) (c e p : Int) : Cfg :=
  bodyCfg Tryz.prog env 39 0 [.mp 0 0, aL l, sI .i64 rs, sI .i64 x, .os none 0 0 [], .mp 1 0, sI .i64 i] [jB3 J 2 c e p, .pc [.sc (.int .i64 n), .sc (.bool d)], .tok] 1 78

section
variable {V : VEnv} {J : Jd}

theorem jlz_bad (l : List Ins) (i rs x : Nat) (n : Int) (d : Bool) (c : Int) {e : Int} (p : Int) (he : e ≠ 0) :
    Am.Good Tryz.prog env (cfgZ J l i rs x n d c e p) (.ret (.tup []) (jN J c e p)) := by
  have d2 : (e == 0) = false := by simpa using he
  refine good_of_tree names (jlz_tree J [] l i rs x n d c e p 0 false 0 0 0 0 0 0 0 0 0 0 0 [] [] []) ?_
  simp only [jlzTree, Tree.ok, d2, Bool.false_eq_true, false_implies, true_implies, true_and, Bool.not_false]
  exact ⟨fun _ => rfl, fun _ => rfl⟩

theorem jlz_end (l : List Ins) (rs x n : Nat) (d : Bool) (c : Nat) (hn : n ≤ 1000000000) (hr : rs ≤ 1) :
    ∃ m, Am.Good Tryz.prog env (cfgZ J l l.length rs x n d c 0 0) (.ret (.tup []) m) ∧ JListN J (endV rs n d x (.ok 0 false c)) m := by
  obtain ⟨e2, p2, hd, hC, hD⟩ := jp_any (J := J) (n := n) (k := rs) d hn (by omega) c 0 0 x
  have d1 : decide (((l.length : Nat) : Int) < l.length) = false := by simp
  have d0 : ((0 : Int) == 0) = true := rfl
  unfold endV popV
  rcases hD rfl with ⟨h1, rfl, rfl⟩ | ⟨h1, rfl, rfl⟩
  · rw [if_neg h1]
    dsimp only
    by_cases hz : 0 < n - rs
    · rw [if_pos hz]
      have d3 : decide (((n - rs : Nat) : Int) > 0) = true := by simp; omega
      refine ⟨jN J c 201 x, good_of_tree names (jlz_tree J [] l l.length rs x n d c 0 0 0 false 0 0 0 (n - rs : Nat) 0 0 0 0 0 0 0 [] [] []) ?_, c, rfl⟩
      simp only [jlzTree, Tree.ok, d0, d1, d3, Bool.false_eq_true, Bool.true_eq_false, false_implies, true_implies, true_and, and_true]
      exact ⟨hd, rfl⟩
    · rw [if_neg hz]
      have d3 : decide (((n - rs : Nat) : Int) > 0) = false := by simp; omega
      refine ⟨jN J c 0 0, good_of_tree names (jlz_tree J [] l l.length rs x n d c 0 0 0 false 0 0 0 (n - rs : Nat) 0 0 0 0 0 0 0 [] [] []) ?_, rfl⟩
      simp only [jlzTree, Tree.ok, d0, d1, d3, Bool.false_eq_true, Bool.true_eq_false, false_implies, true_implies, true_and, and_true]
      exact ⟨hd, rfl⟩
  · rw [if_pos h1]
    refine ⟨jN J c 200 x, good_of_tree names (jlz_tree J [] l l.length rs x n d c 0 0 0 false 0 0 0 (n - rs : Nat) 200 x 0 0 0 0 0 [] [] []) ?_, c, rfl⟩
    have d3 : decide (((n - rs : Nat) : Int) > 0) = false := by simp; omega
    have d4 : ((200 : Int) == 0) = false := rfl
    simp only [jlzTree, Tree.ok, d0, d1, d3, d4, Bool.false_eq_true, Bool.true_eq_false, false_implies, true_implies, true_and, and_true]
    exact ⟨hd, rfl⟩

theorem jlz_loop {J : Jd} (hV : VLe V) (hls : ∀ k ∈ J.L.reverse, k ≤ 1) (l : List Ins) (hres : okL resI l = true) (hlen : numL l ≤ 1000000000) (IH : ∀ x ∈ l, JI J V x) (rs x : Nat) (hr : rs ≤ 1) (m : Nat) :
    ∀ (i n : Nat) (d : Bool) (c : Nat), i + m = l.length → n ≤ c → c + numL (l.drop i) ≤ 1000000000 →
    ∃ mm, Am.Good Tryz.prog env (cfgZ J l i rs x n d c 0 0) (.ret (.tup []) mm) ∧ JListN J (endL rs x (valL V J.L.reverse (l.drop i) n d c)) mm := by
  induction m with
  | zero =>
    intro i n d c hi hn hc
    obtain rfl : i = l.length := by omega
    rw [List.drop_eq_nil_of_le (Nat.le_refl _)] at hc ⊢
    simp only [valL]
    exact jlz_end l rs x n d c (by omega) hr
  | succ m ih =>
    intro i n d c hi hn hc
    have hlt : i < l.length := by omega
    have hll := numL_length l
    have hdr : l.drop i = l[i] :: l.drop (i + 1) := List.drop_eq_getElem_cons hlt
    have hgx : l[i]? = some l[i] := List.getElem?_eq_getElem hlt
    have hmem : l[i] ∈ l := List.getElem_mem hlt
    have hI := IH _ hmem
    have hok := okL_mem hres _ hmem
    rw [hdr] at hc ⊢
    simp only [numL] at hc
    generalize l[i] = y at *
    have hrun := hI n d (c + 1) (by omega) (by omega)
    obtain ⟨v, mm, hd, ho⟩ := hrun
    obtain ⟨op, r, a, b, nn, tg, ll, le⟩ := y
    have hc0 := encL_getD hgx
    have k0 : (encL l).getD (i * 8) .bad = .sc (.int .i64 op) := hc0 0 (by omega)
    have k1 : (encL l).getD (i * 8 + 1) .bad = .sc (.int .i64 r) := hc0 1 (by omega)
    have k2 : (encL l).getD (i * 8 + 1 + 1) .bad = .sc (.int .u32 a) := hc0 2 (by omega)
    have k3 : (encL l).getD (i * 8 + 1 + 1 + 1) .bad = .sc (.int .u32 b) := hc0 3 (by omega)
    have k4 : (encL l).getD (i * 8 + 1 + 1 + 1 + 1) .bad = .sc (.int .i32 nn) := hc0 4 (by omega)
    have k5 : (encL l).getD (i * 8 + 1 + 1 + 1 + 1 + 1) .bad = .ps tg.length 1 (encT .u32 tg) := hc0 5 (by omega)
    have k6 : (encL l).getD (i * 8 + 1 + 1 + 1 + 1 + 1 + 1) .bad = .ps ll.length 8 (encL ll) := hc0 6 (by omega)
    have k7 : (encL l).getD (i * 8 + 1 + 1 + 1 + 1 + 1 + 1 + 1) .bad = .ps le.length 8 (encL le) := hc0 7 (by omega)
    have d0 : ((0 : Int) == 0) = true := rfl
    have d1 : decide ((i : Int) < l.length) = true := by simp; omega
    have w : IntKind.i64.wrap ((i : Int) + 1) = ((i + 1 : Nat) : Int) := by rw [i64In (by omega) (by omega)]; rfl
    have w2 : IntKind.i64.wrap ((c : Int) + 1) = ((c + 1 : Nat) : Int) := by rw [i64In (by omega) (by omega)]; rfl
    have hi2 : inB (i : Int) l.length = true := by unfold inB; simp; omega
    have hvl : valL V J.L.reverse (.mk op r a b nn tg ll le :: l.drop (i + 1)) n d c = (match valI V J.L.reverse (.mk op r a b nn tg ll le) n d (c + 1) with
      | .bad e p => .bad e p
      | .ok n1 d1 c1 => valL V J.L.reverse (l.drop (i + 1)) n1 d1 c1) := by
      simp only [valL]
      cases valI V J.L.reverse (.mk op r a b nn tg ll le) n d (c + 1) <;> rfl
    rw [hvl]
    have key : ∀ (n1 : Int) (d1' : Bool) (c1 e1 p1 : Int) (o : Out), v = hv n1 d1' → mm = jM J c1 e1 p1 → Am.Good Tryz.prog env (cfgZ J l (i + 1) rs x n1 d1' c1 e1 p1) o → Am.Good Tryz.prog env (cfgZ J l i rs x n d c 0 0) o := by
      intro n1 d1' c1 e1 p1 o hv hm hg
      subst hv
      subst hm
      refine good_of_tree names (jlz_tree J [] l i rs x n d c 0 0 n1 d1' c1 e1 p1 0 0 0 op r a b nn tg ll le) ?_
      simp only [jlzTree, Tree.ok, d0, d1, w, w2, hi2, k0, k1, k2, k3, k4, k5, k6, k7, Int.toNat_natCast, pvInt, psLen, psSz, psCells, isInt, isPs, ik, iku, iki, Bool.and_true, Bool.and_self, Bool.false_eq_true, Bool.true_eq_false, false_implies, true_implies, true_and, and_true]
      exact ⟨hd, hg⟩
    cases hvi : valI V J.L.reverse (.mk op r a b nn tg ll le) n d (c + 1) with
    | bad e p =>
      rw [hvi] at ho
      obtain ⟨n1, d1', c1, rfl, rfl⟩ := ho
      have hne : e ≠ 0 := NB.ins _ _ _ _ _ _ _ hvi
      exact ⟨_, key n1 d1' c1 e p _ rfl rfl (jlz_bad l (i + 1) rs x n1 d1' c1 p hne), c1, rfl⟩
    | ok n1 d1' c1 =>
      rw [hvi] at ho
      obtain ⟨rfl, rfl⟩ := ho
      have hle := valI_le hV _ _ hls hok _ _ _ _ _ _ hvi
      obtain ⟨mm2, hg, hq⟩ := ih (i + 1) n1 d1' c1 (by omega) (by omega) (by omega)
      exact ⟨mm2, key n1 d1' c1 0 0 _ rfl rfl hg, hq⟩

def jbS (M : Md) (n : Nat) (T P Q lo : Int) (l : List Ins) (own c e p : Int) : FuncId → Nat → Nat → Option (AV → AV) := shapeAt [(19, 2, 4, .agg [sI .i64 T, sI .i64 lo, aL l]), (19, 3, 5, .agg [sI .i64 P, sI .i64 Q]), (19, 4, 7, sI .i64 own)]

noncomputable def jboOrc (M : Md) (n : Nat) (T P Q lo : Int) (l : List Ins) (own c e p : Int) : Orc := orcS noCall noLed [] [] [(19, 2, 3), (19, 2, 4), (19, 3, 4), (19, 3, 5)] (jbS M n T P Q lo l own c e p)
noncomputable def jboSc (M : Md) (n : Nat) (T P Q lo : Int) (l : List Ins) (own c e p : Int) : Sc := (.ans 39 (.tup []) ([.ac [.p (.ps M.tyN 2 M.tyC), .p (.ps M.imN 3 M.imC), .p (.ps M.fnN 3 M.fnC), .p (.ps M.taN 3 M.taC), .p (.ps M.meN 3 M.meC), .p (.ps M.glN 2 M.glC), .p (.ps M.exN 3 M.exC), .p (.sc (.bool M.st)), sI .u32 M.sn, .p (.ps M.elN 2 M.elC), .p (.ps M.daN 2 M.daC), sI .i64 P, sI .i64 Q, sI .i64 own, .os none 0 0 [], sI .i64 c, sI .i64 e, sI .i64 p]]) .fin)
noncomputable def jboTree (M : Md) (n : Nat) (T P Q lo : Int) (l : List Ins) (own c e p : Int) : Tree :=
 (.must (inB (↑n : Int) M.fnN && true && true)
 (.must (isInt IntKind.i64 (M.fnC.getD ((↑n : Int).toNat * 3) PV.bad) && (isInt IntKind.i64 (M.fnC.getD ((↑n : Int).toNat * 3 + 1) PV.bad) && (isPs (M.fnC.getD ((↑n : Int).toNat * 3 + 1 + 1) PV.bad) && true)) && true)
 (.need (AV.agg [sI .i64 (pvInt (M.fnC.getD ((↑n : Int).toNat * 3) PV.bad)), sI .i64 (pvInt (M.fnC.getD ((↑n : Int).toNat * 3 + 1) PV.bad)), AV.p (PV.ps (psLen (M.fnC.getD ((↑n : Int).toNat * 3 + 1 + 1) PV.bad)) (psSz (M.fnC.getD ((↑n : Int).toNat * 3 + 1 + 1) PV.bad)) (psCells (M.fnC.getD ((↑n : Int).toNat * 3 + 1 + 1) PV.bad)))] = AV.agg [sI IntKind.i64 T, sI IntKind.i64 lo, aL l])
 (.must (inB T M.tyN && true && true)
 (.must (isInt IntKind.i64 (M.tyC.getD (T.toNat * 2) PV.bad) && (isInt IntKind.i64 (M.tyC.getD (T.toNat * 2 + 1) PV.bad) && true) && true)
 (.need (AV.agg [sI .i64 (pvInt (M.tyC.getD (T.toNat * 2) PV.bad)), sI .i64 (pvInt (M.tyC.getD (T.toNat * 2 + 1) PV.bad))] = AV.agg [sI IntKind.i64 P, sI IntKind.i64 Q])
 (.need (sI .i64 (IntKind.i64.wrap (P + lo)) = sI IntKind.i64 own)
 (.call ⟨39, [.mp 0 0, .p (.ps l.length 8 (encL l)), sI .i64 Q, sI .i64 Q, sI .i64 0], [.ac [.p (.ps M.tyN 2 M.tyC), .p (.ps M.imN 3 M.imC), .p (.ps M.fnN 3 M.fnC), .p (.ps M.taN 3 M.taC), .p (.ps M.meN 3 M.meC), .p (.ps M.glN 2 M.glC), .p (.ps M.exN 3 M.exC), .p (.sc (.bool M.st)), sI .u32 M.sn, .p (.ps M.elN 2 M.elC), .p (.ps M.daN 2 M.daC), sI .i64 P, sI .i64 Q, sI .i64 own, .os none 0 0 [], sI .i64 0, sI .i64 0, sI .i64 0]], .tup [], [.ac [.p (.ps M.tyN 2 M.tyC), .p (.ps M.imN 3 M.imC), .p (.ps M.fnN 3 M.fnC), .p (.ps M.taN 3 M.taC), .p (.ps M.meN 3 M.meC), .p (.ps M.glN 2 M.glC), .p (.ps M.exN 3 M.exC), .p (.sc (.bool M.st)), sI .u32 M.sn, .p (.ps M.elN 2 M.elC), .p (.ps M.daN 2 M.daC), sI .i64 P, sI .i64 Q, sI .i64 own, .os none 0 0 [], sI .i64 c, sI .i64 e, sI .i64 p]]⟩
 (.out (.ret (.tup [sI .i64 e, sI .i64 p]) []))))))))))
theorem jbo_tree (M : Md) (n : Nat) (T P Q lo : Int) (l : List Ins) (own c e p : Int) : growF Tryz.prog env (jboOrc M n T P Q lo l own c e p) 1000000 19 ([AV.agg M.cells, sI IntKind.i64 (↑n : Int)]) ([]) (jboSc M n T P Q lo l own c e p) = jboTree M n T P Q lo l own c e p := by kernel_rfl

theorem jz_list {J : Jd} (hJ : JOk J V) (hV : VLe V) (hL : J.L = []) (l : List Ins) (hfit : Fit l 0 1) (lab rs : Nat) (hlab : lab ≤ 1) (hr : rs ≤ 1) :
    ∃ m, Does Tryz.prog env 39 [.mp 0 0, aL l, sI .i64 lab, sI .i64 rs, sI .i64 (0 : Nat)] (jN J 0 0 0) (.tup []) m ∧ JListN J (endL rs 0 (valL V [lab] l 0 false 0)) m := by
  have hJ1 := lab1_ok hJ hlab (by rw [hL]; simp)
  have hlen1 : (lab1 J lab).L.length = 1 := by show (J.L ++ [lab]).length = _; rw [hL]; rfl
  have hrev : (lab1 J lab).L.reverse = [lab] := by show (J.L ++ [lab]).reverse = _; rw [hL]; rfl
  have hls : ∀ k ∈ (lab1 J lab).L.reverse, k ≤ 1 := fun k hk => hJ1.lab k (List.mem_reverse.1 hk)
  have hnum : numL l ≤ 1000000000 := by have := hfit.num; omega
  have hI : ∀ x ∈ l, JI (lab1 J lab) V x := by
    intro x hx
    have h3 := okL_mem hfit.res x hx
    have h4 := wfL_mem hfit.wf x hx
    have h5 := tagL_mem x hx
    have h6 := depL_mem (d := 1) x hx
    have h7 := numL_mem hx
    have ht := hfit.tag
    have hd := hfit.dep
    obtain ⟨op, r, a, b, nn, tg, ll, le⟩ := x
    simp only [okI, Bool.and_eq_true] at h3
    simp only [tagI] at h5
    simp only [depI, Nat.reduceAdd] at h6
    simp only [numI] at h7
    have d1 := depL_in ll
    have d2 := depL_in le
    simp only [wfI] at h4
    refine jinstr hJ1 hV _ (all_list hV ll _ hJ1 (by omega) h3.2.1 h4.2.2.2.2.2.2.1.2 (by omega) (by omega)) (all_list hV le _ hJ1 (by omega) h3.2.2 h4.2.2.2.2.2.2.2.2 (by omega) (by omega)) (by simp only [okI, Bool.and_eq_true]; exact h3) (by simp only [wfI]; exact h4) (by simp only [tagI]; omega)
  obtain ⟨mm, hg, hq⟩ := jlz_loop (J := lab1 J lab) hV hls l hfit.res hnum hI rs 0 hr l.length 0 0 false 0 (by omega) (by omega) (by simpa using hnum)
  rw [List.drop_zero, hrev] at hq
  refine ⟨mm, does_of_tree names (jls0_tree J 0 l lab rs (0 : Nat)) ?_, hq⟩
  have hL1 : (lab1 J lab).L = [lab] := by show J.L ++ [lab] = _; rw [hL]; rfl
  have hcfg : cfgZ (lab1 J lab) l 0 rs 0 (0 : Nat) false (0 : Nat) 0 0 = bodyCfg Tryz.prog env 39 0 [.mp 0 0, aL l, sI .i64 rs, sI .i64 (0 : Nat), .os none 0 0 [], .mp 1 0, sI .i64 (0 : Nat)]
      [.ac (J.M.cells ++ [sI .i64 J.tP, sI .i64 J.tR, sI .i64 J.own, .os (some 2) 1 1 [.sc (.int .i64 lab)], sI .i64 (0 : Nat), sI .i64 0, sI .i64 0]), .pc [.sc (.int .i64 (0 : Nat)), .sc (.bool false)], .tok] 1 78 := by
    have e2 : jlC (lab1 J lab).L = [.sc (.int .i64 lab)] := by rw [hL1]; rfl
    show bodyCfg Tryz.prog env 39 0 [.mp 0 0, aL l, sI .i64 rs, sI .i64 (0 : Nat), .os none 0 0 [], .mp 1 0, sI .i64 (0 : Nat)]
      [.ac (J.M.cells ++ [sI .i64 J.tP, sI .i64 J.tR, sI .i64 J.own, .os (some 2) (lab1 J lab).L.length 1 (jlC (lab1 J lab).L), sI .i64 (0 : Nat), sI .i64 0, sI .i64 0]), .pc [.sc (.int .i64 (0 : Nat)), .sc (.bool false)], .tok] 1 78 = _
    rw [e2, hlen1]
  rw [hcfg] at hg
  simp only [jls0Tree, Tree.ok]
  exact hg

theorem jbody_does {J : Jd} (hJ : JOk J V) (hV : VLe V) (hL : J.L = []) {n : Nat} {T lo : Int} {P : Nat} {l : List Ins} (hn : n < J.M.fnN) (hN : J.M.fnN ≤ 1000000000)
    (hT : J.M.fnC.getD (n * 3) .bad = .sc (.int .i64 T)) (hlo : J.M.fnC.getD (n * 3 + 1) .bad = .sc (.int .i64 lo)) (hl : J.M.fnC.getD (n * 3 + 1 + 1) .bad = .ps l.length 8 (encL l)) (hT0 : 0 ≤ T ∧ T < J.M.tyN)
    (hP : J.M.tyC.getD (T.toNat * 2) .bad = .sc (.int .i64 J.tP)) (hQ : J.M.tyC.getD (T.toNat * 2 + 1) .bad = .sc (.int .i64 J.tR)) (hp : 0 ≤ J.tP ∧ J.tP ≤ 1000000) (hlo0 : 0 ≤ lo ∧ lo ≤ 1000000) (how : J.own = J.tP + lo) (hfit : Fit l 0 1) :
    Does Tryz.prog env 19 [.agg J.M.cells, sI .i64 n] [] (.tup [sI .i64 (bodyV V l).1, sI .i64 ((bodyV V l).2 : Nat)]) [] := by
  have hret : J.tR = V.ret := hJ.v.ret
  have hr1 := hJ.v.ret1
  obtain ⟨m, hd, hq⟩ := jz_list hJ hV hL l hfit V.ret V.ret hr1 hr1
  rw [← hret] at hd
  have w : IntKind.i64.wrap (J.tP + lo) = J.own := by rw [how]; exact i64In (by omega) (by omega)
  have hi1 : inB (n : Int) J.M.fnN = true := by unfold inB; simp; omega
  have hi2 : inB T J.M.tyN = true := by unfold inB; simp; omega
  have key : ∀ c e p : Int, m = jN J c e p → Does Tryz.prog env 19 [.agg J.M.cells, sI .i64 n] [] (.tup [sI .i64 e, sI .i64 p]) [] := by
    intro c e p hm
    subst hm
    refine does_of_tree names (jbo_tree J.M n T J.tP J.tR lo l J.own c e p) ?_
    simp only [jboTree, Tree.ok, w, hi1, hi2, hT, hlo, hl, hP, hQ, Int.toNat_natCast, pvInt, psLen, psSz, psCells, isInt, isPs, ik, Bool.and_true, Bool.and_self, Bool.false_eq_true, Bool.true_eq_false, false_implies, true_implies, true_and, and_true]
    exact hd
  unfold bodyV
  cases hv : valL V [V.ret] l 0 false 0 with
  | bad e p =>
    rw [hv] at hq
    obtain ⟨c, hq⟩ := hq
    exact key c e p hq
  | ok k d c =>
    rw [hv] at hq
    have hq : JListN J (endV V.ret k d 0 (.ok 0 false c)) m := hq
    dsimp only
    rcases endV_cases V.ret k 0 d with ⟨e, p, _, hb⟩ | hk
    · rw [hb] at hq ⊢
      obtain ⟨c, hq⟩ := hq
      exact key c e p hq
    · rw [hk] at hq ⊢
      have hq : m = jN J c 0 0 := hq
      exact key c 0 0 hq

end
end Go.Proofs.YtgbphddecpjlhaaGreatDoor.N
end

section
set_option linter.unusedSimpArgs false
set_option linter.unusedVariables false
namespace Go.Proofs.YtgbphddecpjlhaaGreatDoor.N
open Go Go.Am

theorem type2_some {M : Md} {a : Nat} {T P Q : Int} (ha : a < 4294967296) (hi : M.imN ≤ 1000000000) (hf : M.fnN ≤ 1000000000) (hT : 0 ≤ T ∧ T < M.tyN)
    (hat : (a < M.imN ∧ M.imC.getD (a * 3 + 2) .bad = .sc (.int .i64 T)) ∨ (M.imN ≤ a ∧ a - M.imN < M.fnN ∧ M.fnC.getD ((a - M.imN) * 3 + 0) .bad = .sc (.int .i64 T)))
    (hP : M.tyC.getD (T.toNat * 2) .bad = .sc (.int .i64 P)) (hQ : M.tyC.getD (T.toNat * 2 + 1) .bad = .sc (.int .i64 Q)) :
    Does Tryz.prog env 57 [.agg M.cells, sI .u32 a] [] (.tup [.agg [sI .i64 P, sI .i64 Q], sB true]) [] := by
  refine does_of_tree names (ty2_tree M a T P Q) ?_
  have w1 : IntKind.i64.wrap (a : Int) = a := i64In (by omega) (by omega)
  have w2 : IntKind.i64.wrap ((a : Int) - M.imN) = a - M.imN := i64In (by omega) (by omega)
  have w3 : IntKind.i64.wrap ((M.imN : Int) + M.fnN) = M.imN + M.fnN := i64In (by omega) (by omega)
  have t1 : decide (T < 0) = false := by simp; omega
  have t2 : decide (T ≥ (M.tyN : Int)) = false := by simp; omega
  rcases hat with ⟨h1, h2⟩ | ⟨h1, h2, h3⟩
  · have g1 : decide ((a : Int) < M.imN) = true := by simp; omega
    simp only [ty2Tree, Tree.ok, w1, w2, w3, g1, t1, t2, h2, hP, hQ, Int.toNat_natCast, isInt, pvInt, ik, inB, Bool.false_eq_true, Bool.true_eq_false, false_implies, true_implies, true_and, and_true, Bool.and_true, Bool.and_eq_true, decide_eq_true_eq]
    omega
  · have g1 : decide ((a : Int) < M.imN) = false := by simp; omega
    have g2 : decide ((a : Int) < M.imN + M.fnN) = true := by simp; omega
    have e1 : ((a : Int) - M.imN).toNat = a - M.imN := by omega
    simp only [ty2Tree, Tree.ok, w1, w2, w3, g1, g2, t1, t2, e1, h3, hP, hQ, isInt, pvInt, ik, inB, Bool.false_eq_true, Bool.true_eq_false, false_implies, true_implies, true_and, and_true, Bool.and_true, Bool.and_eq_true, decide_eq_true_eq]
    omega

theorem type2_none {M : Md} {a : Nat} (ha : a < 4294967296) (hi : M.imN ≤ 1000000000) (hf : M.fnN ≤ 1000000000) (hat : M.imN + M.fnN ≤ a) :
    Does Tryz.prog env 57 [.agg M.cells, sI .u32 a] [] (.tup [.agg [sI .i64 0, sI .i64 0], sB false]) [] := by
  refine does_of_tree names (ty2_tree M a (-1) 0 0) ?_
  have w1 : IntKind.i64.wrap (a : Int) = a := i64In (by omega) (by omega)
  have w3 : IntKind.i64.wrap ((M.imN : Int) + M.fnN) = M.imN + M.fnN := i64In (by omega) (by omega)
  have g1 : decide ((a : Int) < M.imN) = false := by simp; omega
  have g2 : decide ((a : Int) < M.imN + M.fnN) = false := by simp; omega
  simp only [ty2Tree, Tree.ok, w1, w3, g1, g2, Bool.false_eq_true, false_implies, true_implies, and_true]

def rJ (tp tr lo : Nat) (l : List Ins) : Jd := ⟨rmD tp tr lo l, tp, tr, (tp : Int) + lo, []⟩

theorem rJ_ok {tp tr lo : Nat} {l : List Ins} (h1 : tr ≤ 1) (h2 : tp ≤ 1000000) (h3 : lo ≤ 1000000) : JOk (rJ tp tr lo l) (rV tp tr lo) where
  v := rV_ok h1 h2 h3
  ty a ha := by
    by_cases a0 : a = 0
    · subst a0
      exact ⟨by decide, type2_some (T := 0) (P := 1) (Q := 1) (by omega) (of_decide_eq_true rfl) (of_decide_eq_true rfl) (of_decide_eq_true rfl) (.inl ⟨of_decide_eq_true rfl, rfl⟩) rfl rfl⟩
    by_cases a1 : a = 1
    · subst a1
      exact ⟨by decide, type2_some (T := 1) (P := 0) (Q := 0) (by omega) (of_decide_eq_true rfl) (of_decide_eq_true rfl) (of_decide_eq_true rfl) (.inr ⟨of_decide_eq_true rfl, of_decide_eq_true rfl, rfl⟩) rfl rfl⟩
    by_cases a2 : a = 2
    · subst a2
      exact ⟨by omega, type2_some (T := 2) (P := tp) (Q := tr) (by omega) (of_decide_eq_true rfl) (of_decide_eq_true rfl) (of_decide_eq_true rfl) (.inr ⟨of_decide_eq_true rfl, of_decide_eq_true rfl, rfl⟩) rfl rfl⟩
    · have e : (rV tp tr lo).ty a = none := by
        show (if (a : Int) = 0 then _ else if (a : Int) = 1 then _ else if (a : Int) = 2 then _ else none) = none
        rw [if_neg (by omega), if_neg (by omega), if_neg (by omega)]
      rw [e]
      exact type2_none ha (of_decide_eq_true rfl) (of_decide_eq_true rfl) (by show 1 + 2 ≤ a; omega)
  indP a p r h := by
    have h : (if a = 0 then some (1, 1) else if a = 1 then some (0, 0) else if a = 2 then some (tp, tr) else none) = some (p, r) := h
    split at h
    · cases h; decide
    split at h
    · cases h; decide
    split at h
    · cases h; omega
    · cases h
  lab k hk := by cases hk
  len := by show 0 ≤ _; omega

theorem rV_le {tp tr lo : Nat} (h1 : tr ≤ 1) : VLe (rV tp tr lo) where
  ret := h1
  ty a p r h := by
    have h : (if a = 0 then some (1, 1) else if a = 1 then some (0, 0) else if a = 2 then some (tp, tr) else none) = some (p, r) := h
    split at h
    · cases h; decide
    split at h
    · cases h; decide
    split at h
    · cases h; exact h1
    · cases h
  ind a p r h := by
    have h : (if a = 0 then some (1, 1) else if a = 1 then some (0, 0) else if a = 2 then some (tp, tr) else none) = some (p, r) := h
    split at h
    · cases h; decide
    split at h
    · cases h; decide
    split at h
    · cases h; exact h1
    · cases h

theorem rbody {tp tr lo : Nat} {l : List Ins} (h1 : tr ≤ 1) (h2 : tp ≤ 1000000) (h3 : lo ≤ 1000000) (hf : Fit l 0 1) :
    Does Tryz.prog env 19 [.agg (rmD tp tr lo l).cells, sI .i64 1] [] (.tup [sI .i64 (bodyV (rV tp tr lo) l).1, sI .i64 ((bodyV (rV tp tr lo) l).2 : Nat)]) [] :=
  jbody_does (J := rJ tp tr lo l) (rJ_ok h1 h2 h3) (rV_le h1) rfl (n := 1) (T := 2) (lo := lo) (P := tp) (l := l) (of_decide_eq_true rfl) (of_decide_eq_true rfl) rfl rfl rfl (of_decide_eq_true rfl) rfl rfl ⟨by show (0 : Int) ≤ tp; omega, by show (tp : Int) ≤ 1000000; omega⟩ ⟨by omega, by omega⟩ rfl hf

end Go.Proofs.YtgbphddecpjlhaaGreatDoor.N
end

section
set_option linter.unusedSimpArgs false
set_option linter.unusedVariables false
namespace Go.Proofs.YtgbphddecpjlhaaGreatDoor.N
open Go Go.Am

noncomputable def mgcOrc : Orc := orcL noCall noLed [] [(63, 0, 2), (69, 0, 0), (74, 2, 11), (103, 0, 2)] []
noncomputable def mgcSc (tp tr lo ck : Int) (l : List Ins) : Sc := (.ans 95 (sI .i64 0) ([]) (.lit (.ans 95 (sI .i64 ck) ([]) (.fork .fin (.ans 95 (sI .i64 0) ([]) (.lit (.ans 95 (sI .i64 0) ([]) (.lit (.lit (.lit (.fork .fin (.lit (.lit (.fork (.lit .fin) (.fork .fin (.ans 95 (sI .i64 0) ([]) (.lit (.ans 95 (sI .i64 ck) ([]) (.fork .fin (.ans 95 (sI .i64 0) ([]) (.lit (.ans 95 (sI .i64 0) ([]) (.lit .fin)))))))))))))))))))))))
noncomputable def mgcTree (tp tr lo ck : Int) (l : List Ins) : Tree :=
 (.call ⟨95, [.p (.ps 0 8 [])], [], sI .i64 0, []⟩
 (.call ⟨95, [.p (.ps l.length 8 (encL l))], [], sI .i64 ck, []⟩
 (.test (ck == 141)
 (.out (.ret (sI .i64 141) []))
 (.call ⟨95, [.p (.ps 1 8 [sP 65, sP 0, .sc (.int .u32 0), .sc (.int .u32 0), .sc (.int .i32 0), .ps 0 1 [], .ps 0 8 [], .ps 0 8 []])], [], sI .i64 0, []⟩
 (.call ⟨95, [.p (.ps 1 8 [sP 65, sP 0, .sc (.int .u32 0), .sc (.int .u32 0), .sc (.int .i32 0), .ps 0 1 [], .ps 0 8 [], .ps 0 8 []])], [], sI .i64 0, []⟩
 (.test (!(fun r => (tp == bif true then Min.min (bif false then Min.min tp 0 else Max.max tp 0) 255 else Max.max (bif false then Min.min tp 0 else Max.max tp 0) 255) && r) ((fun r => (tr == bif true then Min.min (bif false then Min.min tr 0 else Max.max tr 0) 1 else Max.max (bif false then Min.min tr 0 else Max.max tr 0) 1) && r) true))
 (.out (.ret (sI .i64 2) []))
 (.test (decide (lo < 0))
 (.out (.ret (sI .i64 2) []))
 (.test (decide (lo > 50000))
 (.out (.ret (sI .i64 2) []))
 (.call ⟨95, [.p (.ps 0 8 [])], [], sI .i64 0, []⟩
 (.call ⟨95, [.p (.ps l.length 8 (encL l))], [], sI .i64 ck, []⟩
 (.test (ck == 2)
 (.out (.ret (sI .i64 2) []))
 (.call ⟨95, [.p (.ps 1 8 [sP 65, sP 0, .sc (.int .u32 0), .sc (.int .u32 0), .sc (.int .i32 0), .ps 0 1 [], .ps 0 8 [], .ps 0 8 []])], [], sI .i64 0, []⟩
 (.call ⟨95, [.p (.ps 1 8 [sP 65, sP 0, .sc (.int .u32 0), .sc (.int .u32 0), .sc (.int .i32 0), .ps 0 1 [], .ps 0 8 [], .ps 0 8 []])], [], sI .i64 0, []⟩
 (.out (.ret (sI .i64 0) [])))))))))))))))
theorem mgc_tree (tp tr lo ck : Int) (l : List Ins) : growF Tryz.prog env mgcOrc 1000000 15 ([AV.agg (rmD tp tr lo l).cells]) ([]) (mgcSc tp tr lo ck l) = mgcTree tp tr lo ck l := by kernel_rfl

def mcG (tp tr lo ck : Int) : Int := if ck = 141 then 141 else if ¬ (0 ≤ tp ∧ tp ≤ 255 ∧ 0 ≤ tr ∧ tr ≤ 1) then 2 else if lo < 0 ∨ 50000 < lo then 2 else if ck = 2 then 2 else 0

theorem mgc_does (tp tr lo : Int) {l : List Ins} (h : numL l ≤ 100000000000) : Does Tryz.prog env 15 [.agg (rmD tp tr lo l).cells] [] (sI .i64 (mcG tp tr lo (checkF mayI l))) [] := by
  have c0 := chkP [] (by decide)
  have c1 := chkP l h
  have c2 := chkP [.mk 65 0 0 0 0 [] [] []] (by decide)
  rw [ckNil] at c0
  rw [ckCon, conIns_eq] at c2
  refine does_of_tree names (mgc_tree tp tr lo (checkF mayI l) l) ?_
  generalize checkF mayI l = ck at *
  have e1 : max tp 0 = tp ↔ 0 ≤ tp := by omega
  simp only [mgcTree, Tree.ok, cond_true, cond_false, Bool.and_true]
  refine ⟨c0, c1, fun q => ?_, fun q => ⟨c2, c2, fun q2 => ?_, fun q2 => ⟨fun q3 => ?_, fun q3 => ⟨fun q4 => ?_, fun q4 => ⟨c0, c1, fun q5 => ?_, fun q5 => ⟨c2, c2, ?_⟩⟩⟩⟩⟩⟩
  · rw [mcG, if_pos (by simpa using q)]
  · have q : ck ≠ 141 := by simpa using q
    have q2 : ¬ (0 ≤ tp ∧ tp ≤ 255 ∧ 0 ≤ tr ∧ tr ≤ 1) := fun hh => by
      simp only [Bool.not_eq_true', Bool.and_eq_false_iff, beq_eq_false_iff_ne, ne_eq] at q2
      omega
    rw [mcG, if_neg q, if_pos q2]
  all_goals
    have q : ck ≠ 141 := by simpa using q
    have q2 : 0 ≤ tp ∧ tp ≤ 255 ∧ 0 ≤ tr ∧ tr ≤ 1 := by
      simp only [Bool.not_eq_false', Bool.and_eq_true, beq_iff_eq] at q2
      omega
    rw [mcG, if_neg q, if_neg (by omega)]
  · rw [if_pos (.inl (by simpa using q3))]
  · rw [if_pos (.inr (by simpa using q4))]
  · have q3 : ¬ lo < 0 := by simpa using q3
    have q4 : ¬ lo > 50000 := by simpa using q4
    rw [if_neg (by omega), if_pos (by simpa using q5)]
  · have q3 : ¬ lo < 0 := by simpa using q3
    have q4 : ¬ lo > 50000 := by simpa using q4
    rw [if_neg (by omega), if_neg (by simpa using q5)]

end Go.Proofs.YtgbphddecpjlhaaGreatDoor.N
end

section
namespace Go.Proofs.YtgbphddecpjlhaaGreatDoor.N
open Go Go.Am

def coS (_l : List Ins) (_n : Int) (i : Nat) (_op _r _a _b _nn : Int) (_tg : List Int) (_ll _le : List Ins) (_R : List PV → Int) : FuncId → Nat → Nat → Option (AV → AV) := shapeAt [(128, 5, 1, sI .i64 ((i + 1 : Nat) : Int)), (129, 5, 1, sI .i64 ((i + 1 : Nat) : Int))]
def coL (_l : List Ins) (_n : Int) (_i : Nat) (_op _r _a _b _nn : Int) (_tg : List Int) (_ll _le : List Ins) (R : List PV → Int) (f : FuncId) (args : List AV) (m : Mem) : Option (AV × Mem) := match args with | [.p (.ps _ _ cs)] => cond (Nat.beq f 128 || Nat.beq f 129) (some (sI .i64 (R cs), m)) none | _ => none
def alS (_l : List Ins) (i : Nat) (op r a b nn : Int) (tg : List Int) (ll le : List Ins) (_ok : Bool) (_R : List PV → Bool) : FuncId → Nat → Nat → Option (AV → AV) := shapeAt [(127, 4, 1, sI .i64 ((i + 1 : Nat) : Int)), (130, 4, 1, sI .i64 ((i + 1 : Nat) : Int)), (127, 5, 3, aggI op r a b nn tg ll le), (127, 5, 11, aL ll), (127, 5, 20, aL le), (130, 5, 4, .p (.ps tg.length 1 (encT .u32 tg))), (130, 5, 12, aL ll), (130, 5, 20, aL le)]
def alC (_l : List Ins) (_i : Nat) (_op _r _a _b _nn : Int) (_tg : List Int) (_ll _le : List Ins) (ok : Bool) (R : List PV → Bool) (f : FuncId) (args : List AV) (m : Mem) : Option (AV × Mem) := match args with | [.p (.ps _ _ cs)] => cond (Nat.beq f 127 || Nat.beq f 130) (some (sB (R cs), m)) none | _ => cond (Nat.beq f 150) (some (sB ok, m)) none
def ckC (_l : List Ins) (a : Bool) (n d : Int) (t : Bool) (f : FuncId) (_ : List AV) (m : Mem) : Option (AV × Mem) := cond (Nat.beq f 127) (some (sB a, m)) (cond (Nat.beq f 128) (some (sI .i64 n, m)) (cond (Nat.beq f 129) (some (sI .i64 d, m)) (cond (Nat.beq f 130) (some (sB t, m)) none)))
noncomputable def rAlOrc : Orc := orcL noCall noLed [(127, 0)] [] []
def rAlSc : Sc := .fin
noncomputable def rAlTree (l : List Ins) : Tree :=
 (.at (bodyCfg Tryz.prog env 127 0 [.p (.ps l.length 8 (encL l)), sI .i64 0] ([]) 0 34))
theorem rAl_tree (l : List Ins) : growF Tryz.prog env rAlOrc 1000000 127 ([aL l]) ([]) rAlSc = rAlTree l := by kernel_rfl

noncomputable def rCoOrc : Orc := orcL noCall noLed [(128, 0)] [] []
def rCoSc : Sc := .fin
noncomputable def rCoTree (l : List Ins) : Tree :=
 (.at (bodyCfg Tryz.prog env 128 0 [.p (.ps l.length 8 (encL l)), sI .i64 (↑l.length : Int), sI .i64 0] ([]) 0 29))
theorem rCo_tree (l : List Ins) : growF Tryz.prog env rCoOrc 1000000 128 ([aL l]) ([]) rCoSc = rCoTree l := by kernel_rfl

noncomputable def rDeOrc : Orc := orcL noCall noLed [(129, 0)] [] []
def rDeSc : Sc := .fin
noncomputable def rDeTree (l : List Ins) : Tree :=
 (.at (bodyCfg Tryz.prog env 129 0 [.p (.ps l.length 8 (encL l)), sI .i64 0, sI .i64 0] ([]) 0 28))
theorem rDe_tree (l : List Ins) : growF Tryz.prog env rDeOrc 1000000 129 ([aL l]) ([]) rDeSc = rDeTree l := by kernel_rfl

noncomputable def rTaOrc : Orc := orcL noCall noLed [(130, 0)] [] []
def rTaSc : Sc := .fin
noncomputable def rTaTree (l : List Ins) : Tree :=
 (.at (bodyCfg Tryz.prog env 130 0 [.p (.ps l.length 8 (encL l)), sI .i64 0] ([]) 0 33))
theorem rTa_tree (l : List Ins) : growF Tryz.prog env rTaOrc 1000000 130 ([aL l]) ([]) rTaSc = rTaTree l := by kernel_rfl

noncomputable def lCoOrc (l : List Ins) (n : Int) (i : Nat) (op r a b nn : Int) (tg : List Int) (ll : List Ins) (le : List Ins) (R : List PV → Int) : Orc := orcS noCall (coL l n i op r a b nn tg ll le R) [(128, 0)] [(128, 0, 1)] [(128, 0, 2)] (coS l n i op r a b nn tg ll le R)
def lCoSc : Sc := .fin
noncomputable def lCoTree (l : List Ins) (n : Int) (i : Nat) (_op _r _a _b _nn : Int) (_tg : List Int) (_ll : List Ins) (_le : List Ins) (R : List PV → Int) : Tree :=
 (.test (decide ((↑i : Int) < (↑l.length : Int)))
 (.call ⟨128, [.p (.ps (psLen ((encL l).getD ((↑i : Int).toNat * 8 + 6) PV.bad)) (psSz ((encL l).getD ((↑i : Int).toNat * 8 + 6) PV.bad)) (psCells ((encL l).getD ((↑i : Int).toNat * 8 + 6) PV.bad)))], [], sI .i64 (R (psCells ((encL l).getD ((↑i : Int).toNat * 8 + 6) PV.bad))), []⟩
 (.call ⟨128, [.p (.ps (psLen ((encL l).getD ((↑i : Int).toNat * 8 + 7) PV.bad)) (psSz ((encL l).getD ((↑i : Int).toNat * 8 + 7) PV.bad)) (psCells ((encL l).getD ((↑i : Int).toNat * 8 + 7) PV.bad)))], [], sI .i64 (R (psCells ((encL l).getD ((↑i : Int).toNat * 8 + 7) PV.bad))), []⟩
 (.must (inB (↑i : Int) l.length && true && true && (isPs ((encL l).getD ((↑i : Int).toNat * 8 + 6) PV.bad) && true && (inB (↑i : Int) l.length && true && true && (isPs ((encL l).getD ((↑i : Int).toNat * 8 + 7) PV.bad) && true && true))) && true)
 (.need (sI .i64 (IntKind.i64.wrap ((↑i : Int) + 1)) = sI IntKind.i64 (↑(i + 1) : Int))
 (.at (bodyCfg Tryz.prog env 128 0 [.p (.ps l.length 8 (encL l)), sI .i64 (IntKind.i64.wrap (IntKind.i64.wrap (n + R (psCells ((encL l).getD ((↑i : Int).toNat * 8 + 6) PV.bad))) + R (psCells ((encL l).getD ((↑i : Int).toNat * 8 + 7) PV.bad)))), sI .i64 (↑(i + 1) : Int)] ([]) 0 29))))))
 (.must true
 (.out (.ret (sI .i64 n) []))))
theorem lCo_tree (l : List Ins) (n : Int) (i : Nat) (op r a b nn : Int) (tg : List Int) (ll : List Ins) (le : List Ins) (R : List PV → Int) : grow Tryz.prog env (lCoOrc l n i op r a b nn tg ll le R) 1000000 true (bodyCfg Tryz.prog env 128 0 ([aL l, sI IntKind.i64 n, sI IntKind.i64 (↑i : Int)]) ([]) 0 29) lCoSc atEnd = lCoTree l n i op r a b nn tg ll le R := by kernel_rfl

noncomputable def lDeOrc (l : List Ins) (n : Int) (i : Nat) (op r a b nn : Int) (tg : List Int) (ll : List Ins) (le : List Ins) (R : List PV → Int) : Orc := orcS noCall (coL l n i op r a b nn tg ll le R) [(129, 0)] [(129, 0, 1)] [(129, 0, 2)] (coS l n i op r a b nn tg ll le R)
def lDeSc : Sc := .fin
noncomputable def lDeTree (l : List Ins) (n : Int) (i : Nat) (_op _r _a _b _nn : Int) (_tg : List Int) (_ll : List Ins) (_le : List Ins) (R : List PV → Int) : Tree :=
 (.test (decide ((↑i : Int) < (↑l.length : Int)))
 (.call ⟨129, [.p (.ps (psLen ((encL l).getD ((↑i : Int).toNat * 8 + 6) PV.bad)) (psSz ((encL l).getD ((↑i : Int).toNat * 8 + 6) PV.bad)) (psCells ((encL l).getD ((↑i : Int).toNat * 8 + 6) PV.bad)))], [], sI .i64 (R (psCells ((encL l).getD ((↑i : Int).toNat * 8 + 6) PV.bad))), []⟩
 (.call ⟨129, [.p (.ps (psLen ((encL l).getD ((↑i : Int).toNat * 8 + 7) PV.bad)) (psSz ((encL l).getD ((↑i : Int).toNat * 8 + 7) PV.bad)) (psCells ((encL l).getD ((↑i : Int).toNat * 8 + 7) PV.bad)))], [], sI .i64 (R (psCells ((encL l).getD ((↑i : Int).toNat * 8 + 7) PV.bad))), []⟩
 (.must (inB (↑i : Int) l.length && true && true && (isPs ((encL l).getD ((↑i : Int).toNat * 8 + 6) PV.bad) && true && (inB (↑i : Int) l.length && true && true && (isPs ((encL l).getD ((↑i : Int).toNat * 8 + 7) PV.bad) && true && true))) && true)
 (.need (sI .i64 (IntKind.i64.wrap ((↑i : Int) + 1)) = sI IntKind.i64 (↑(i + 1) : Int))
 (.at (bodyCfg Tryz.prog env 129 0 [.p (.ps l.length 8 (encL l)), sI .i64 (bif false then Min.min n (IntKind.i64.wrap (1 + bif false then Min.min (R (psCells ((encL l).getD ((↑i : Int).toNat * 8 + 6) PV.bad))) (R (psCells ((encL l).getD ((↑i : Int).toNat * 8 + 7) PV.bad))) else Max.max (R (psCells ((encL l).getD ((↑i : Int).toNat * 8 + 6) PV.bad))) (R (psCells ((encL l).getD ((↑i : Int).toNat * 8 + 7) PV.bad))))) else Max.max n (IntKind.i64.wrap (1 + bif false then Min.min (R (psCells ((encL l).getD ((↑i : Int).toNat * 8 + 6) PV.bad))) (R (psCells ((encL l).getD ((↑i : Int).toNat * 8 + 7) PV.bad))) else Max.max (R (psCells ((encL l).getD ((↑i : Int).toNat * 8 + 6) PV.bad))) (R (psCells ((encL l).getD ((↑i : Int).toNat * 8 + 7) PV.bad)))))), sI .i64 (↑(i + 1) : Int)] ([]) 0 28))))))
 (.must true
 (.out (.ret (sI .i64 n) []))))
theorem lDe_tree (l : List Ins) (n : Int) (i : Nat) (op r a b nn : Int) (tg : List Int) (ll : List Ins) (le : List Ins) (R : List PV → Int) : grow Tryz.prog env (lDeOrc l n i op r a b nn tg ll le R) 1000000 true (bodyCfg Tryz.prog env 129 0 ([aL l, sI IntKind.i64 n, sI IntKind.i64 (↑i : Int)]) ([]) 0 28) lDeSc atEnd = lDeTree l n i op r a b nn tg ll le R := by kernel_rfl

noncomputable def lAlOrc (l : List Ins) (i : Nat) (op r a b nn : Int) (tg : List Int) (ll : List Ins) (le : List Ins) (ok : Bool) (R : List PV → Bool) : Orc := orcS (alC l i op r a b nn tg ll le ok R) noLed [(127, 0)] [(127, 0, 1), (127, 5, 7), (127, 5, 16), (127, 0, 2)] [(127, 5, 2), (127, 5, 3), (127, 5, 9), (127, 5, 11), (127, 5, 18), (127, 5, 20)] (alS l i op r a b nn tg ll le ok R)
def lAlSc : Sc := (.fork (.fork (.lit (.lit .fin)) (.fork (.lit .fin) .fin)) .fin)
noncomputable def lAlTree (l : List Ins) (i : Nat) (op r a b nn : Int) (tg : List Int) (ll : List Ins) (le : List Ins) (ok : Bool) (R : List PV → Bool) : Tree :=
 (.test (decide ((↑i : Int) < (↑l.length : Int)))
 (.must (inB (↑i : Int) l.length && true && true)
 (.must (isInt IntKind.i64 ((encL l).getD ((↑i : Int).toNat * 8) PV.bad) && (isInt IntKind.i64 ((encL l).getD ((↑i : Int).toNat * 8 + 1) PV.bad) && (isInt IntKind.u32 ((encL l).getD ((↑i : Int).toNat * 8 + 1 + 1) PV.bad) && (isInt IntKind.u32 ((encL l).getD ((↑i : Int).toNat * 8 + 1 + 1 + 1) PV.bad) && (isInt IntKind.i32 ((encL l).getD ((↑i : Int).toNat * 8 + 1 + 1 + 1 + 1) PV.bad) && (isPs ((encL l).getD ((↑i : Int).toNat * 8 + 1 + 1 + 1 + 1 + 1) PV.bad) && (isPs ((encL l).getD ((↑i : Int).toNat * 8 + 1 + 1 + 1 + 1 + 1 + 1) PV.bad) && (isPs ((encL l).getD ((↑i : Int).toNat * 8 + 1 + 1 + 1 + 1 + 1 + 1 + 1) PV.bad) && true))))))) && true)
 (.need (AV.agg [sI .i64 (pvInt ((encL l).getD ((↑i : Int).toNat * 8) PV.bad)), sI .i64 (pvInt ((encL l).getD ((↑i : Int).toNat * 8 + 1) PV.bad)), sI .u32 (pvInt ((encL l).getD ((↑i : Int).toNat * 8 + 1 + 1) PV.bad)), sI .u32 (pvInt ((encL l).getD ((↑i : Int).toNat * 8 + 1 + 1 + 1) PV.bad)), sI .i32 (pvInt ((encL l).getD ((↑i : Int).toNat * 8 + 1 + 1 + 1 + 1) PV.bad)), AV.p (PV.ps (psLen ((encL l).getD ((↑i : Int).toNat * 8 + 1 + 1 + 1 + 1 + 1) PV.bad)) (psSz ((encL l).getD ((↑i : Int).toNat * 8 + 1 + 1 + 1 + 1 + 1) PV.bad)) (psCells ((encL l).getD ((↑i : Int).toNat * 8 + 1 + 1 + 1 + 1 + 1) PV.bad))), AV.p (PV.ps (psLen ((encL l).getD ((↑i : Int).toNat * 8 + 1 + 1 + 1 + 1 + 1 + 1) PV.bad)) (psSz ((encL l).getD ((↑i : Int).toNat * 8 + 1 + 1 + 1 + 1 + 1 + 1) PV.bad)) (psCells ((encL l).getD ((↑i : Int).toNat * 8 + 1 + 1 + 1 + 1 + 1 + 1) PV.bad))), AV.p (PV.ps (psLen ((encL l).getD ((↑i : Int).toNat * 8 + 1 + 1 + 1 + 1 + 1 + 1 + 1) PV.bad)) (psSz ((encL l).getD ((↑i : Int).toNat * 8 + 1 + 1 + 1 + 1 + 1 + 1 + 1) PV.bad)) (psCells ((encL l).getD ((↑i : Int).toNat * 8 + 1 + 1 + 1 + 1 + 1 + 1 + 1) PV.bad)))] = aggI op r a b nn tg ll le)
 (.call ⟨150, [.agg [sI .i64 op, sI .i64 r, sI .u32 a, sI .u32 b, sI .i32 nn, .p (.ps tg.length 1 (encT IntKind.u32 tg)), .p (.ps ll.length 8 (encL ll)), .p (.ps le.length 8 (encL le))]], [], .p (.sc (.bool ok)), []⟩
 (.test (!ok)
 (.out (.ret (sB false) []))
 (.must (inB (↑i : Int) l.length && true && true)
 (.must (isPs ((encL l).getD ((↑i : Int).toNat * 8 + 6) PV.bad) && true)
 (.need (AV.p (PV.ps (psLen ((encL l).getD ((↑i : Int).toNat * 8 + 6) PV.bad)) (psSz ((encL l).getD ((↑i : Int).toNat * 8 + 6) PV.bad)) (psCells ((encL l).getD ((↑i : Int).toNat * 8 + 6) PV.bad))) = aL ll)
 (.call ⟨127, [.p (.ps ll.length 8 (encL ll))], [], .p (.sc (.bool (R (encL ll)))), []⟩
 (.test (!R (encL ll))
 (.out (.ret (sB false) []))
 (.must (inB (↑i : Int) l.length && true && true)
 (.must (isPs ((encL l).getD ((↑i : Int).toNat * 8 + 7) PV.bad) && true)
 (.need (AV.p (PV.ps (psLen ((encL l).getD ((↑i : Int).toNat * 8 + 7) PV.bad)) (psSz ((encL l).getD ((↑i : Int).toNat * 8 + 7) PV.bad)) (psCells ((encL l).getD ((↑i : Int).toNat * 8 + 7) PV.bad))) = aL le)
 (.call ⟨127, [.p (.ps le.length 8 (encL le))], [], .p (.sc (.bool (R (encL le)))), []⟩
 (.test (!R (encL le))
 (.out (.ret (sB false) []))
 (.need (sI .i64 (IntKind.i64.wrap ((↑i : Int) + 1)) = sI IntKind.i64 (↑(i + 1) : Int))
 (.at (bodyCfg Tryz.prog env 127 0 [.p (.ps l.length 8 (encL l)), sI .i64 (↑(i + 1) : Int)] ([]) 0 34))))))))))))))))))
 (.out (.ret (sB true) [])))
theorem lAl_tree (l : List Ins) (i : Nat) (op r a b nn : Int) (tg : List Int) (ll : List Ins) (le : List Ins) (ok : Bool) (R : List PV → Bool) : grow Tryz.prog env (lAlOrc l i op r a b nn tg ll le ok R) 1000000 true (bodyCfg Tryz.prog env 127 0 ([aL l, sI IntKind.i64 (↑i : Int)]) ([]) 0 34) lAlSc atEnd = lAlTree l i op r a b nn tg ll le ok R := by kernel_rfl

noncomputable def lTaOrc (l : List Ins) (i : Nat) (op r a b nn : Int) (tg : List Int) (ll : List Ins) (le : List Ins) (ok : Bool) (R : List PV → Bool) : Orc := orcS (alC l i op r a b nn tg ll le ok R) noLed [(130, 0)] [(130, 0, 1), (130, 5, 8), (130, 5, 16), (130, 0, 2)] [(130, 5, 2), (130, 5, 4), (130, 5, 10), (130, 5, 12), (130, 5, 18), (130, 5, 20)] (alS l i op r a b nn tg ll le ok R)
def lTaSc : Sc := (.fork (.fork (.lit (.lit .fin)) (.fork (.lit .fin) .fin)) .fin)
noncomputable def lTaTree (l : List Ins) (i : Nat) (_op _r _a _b _nn : Int) (tg : List Int) (ll : List Ins) (le : List Ins) (_ok : Bool) (R : List PV → Bool) : Tree :=
 (.test (decide ((↑i : Int) < (↑l.length : Int)))
 (.must (inB (↑i : Int) l.length && true && true)
 (.must (isPs ((encL l).getD ((↑i : Int).toNat * 8 + 5) PV.bad) && true)
 (.need (AV.p (PV.ps (psLen ((encL l).getD ((↑i : Int).toNat * 8 + 5) PV.bad)) (psSz ((encL l).getD ((↑i : Int).toNat * 8 + 5) PV.bad)) (psCells ((encL l).getD ((↑i : Int).toNat * 8 + 5) PV.bad))) = AV.p (PV.ps tg.length 1 (encT IntKind.u32 tg)))
 (.test (decide ((↑tg.length : Int) > 16384))
 (.out (.ret (sB true) []))
 (.must (inB (↑i : Int) l.length && true && true)
 (.must (isPs ((encL l).getD ((↑i : Int).toNat * 8 + 6) PV.bad) && true)
 (.need (AV.p (PV.ps (psLen ((encL l).getD ((↑i : Int).toNat * 8 + 6) PV.bad)) (psSz ((encL l).getD ((↑i : Int).toNat * 8 + 6) PV.bad)) (psCells ((encL l).getD ((↑i : Int).toNat * 8 + 6) PV.bad))) = aL ll)
 (.call ⟨130, [.p (.ps ll.length 8 (encL ll))], [], .p (.sc (.bool (R (encL ll)))), []⟩
 (.test (R (encL ll))
 (.out (.ret (sB true) []))
 (.must (inB (↑i : Int) l.length && true && true)
 (.must (isPs ((encL l).getD ((↑i : Int).toNat * 8 + 7) PV.bad) && true)
 (.need (AV.p (PV.ps (psLen ((encL l).getD ((↑i : Int).toNat * 8 + 7) PV.bad)) (psSz ((encL l).getD ((↑i : Int).toNat * 8 + 7) PV.bad)) (psCells ((encL l).getD ((↑i : Int).toNat * 8 + 7) PV.bad))) = aL le)
 (.call ⟨130, [.p (.ps le.length 8 (encL le))], [], .p (.sc (.bool (R (encL le)))), []⟩
 (.test (R (encL le))
 (.out (.ret (sB true) []))
 (.need (sI .i64 (IntKind.i64.wrap ((↑i : Int) + 1)) = sI IntKind.i64 (↑(i + 1) : Int))
 (.at (bodyCfg Tryz.prog env 130 0 [.p (.ps l.length 8 (encL l)), sI .i64 (↑(i + 1) : Int)] ([]) 0 33)))))))))))))))))
 (.out (.ret (sB false) [])))
theorem lTa_tree (l : List Ins) (i : Nat) (op r a b nn : Int) (tg : List Int) (ll : List Ins) (le : List Ins) (ok : Bool) (R : List PV → Bool) : grow Tryz.prog env (lTaOrc l i op r a b nn tg ll le ok R) 1000000 true (bodyCfg Tryz.prog env 130 0 ([aL l, sI IntKind.i64 (↑i : Int)]) ([]) 0 33) lTaSc atEnd = lTaTree l i op r a b nn tg ll le ok R := by kernel_rfl

noncomputable def rCkOrc (l : List Ins) (a : Bool) (n d : Int) (t : Bool) : Orc := orcL (ckC l a n d t) noLed [] [(97, 0, 0), (97, 4, 4), (97, 4, 9), (97, 0, 1)] []
def rCkSc : Sc := (.fork .fin (.fork (.lit (.lit .fin)) (.fork (.lit .fin) .fin)))
noncomputable def rCkTree (l : List Ins) (a : Bool) (n d : Int) (t : Bool) : Tree :=
 (.call ⟨127, [.p (.ps l.length 8 (encL l))], [], .p (.sc (.bool a)), []⟩
 (.test (!a)
 (.out (.ret (sI .i64 2) []))
 (.call ⟨128, [.p (.ps l.length 8 (encL l))], [], sI .i64 n, []⟩
 (.test (decide (n > 262144))
 (.out (.ret (sI .i64 141) []))
 (.call ⟨129, [.p (.ps l.length 8 (encL l))], [], sI .i64 d, []⟩
 (.test (decide (d > 900))
 (.out (.ret (sI .i64 141) []))
 (.call ⟨130, [.p (.ps l.length 8 (encL l))], [], .p (.sc (.bool t)), []⟩
 (.test (t)
 (.out (.ret (sI .i64 141) []))
 (.out (.ret (sI .i64 0) []))))))))))
theorem rCk_tree (l : List Ins) (a : Bool) (n d : Int) (t : Bool) : growF Tryz.prog env (rCkOrc l a n d t) 1000000 97 ([aL l]) ([]) rCkSc = rCkTree l a n d t := by kernel_rfl

theorem rall_does {p : Ins → Bool} (hp : ∀ x : Ins, Does Tryz.prog env 150 [aggX x] [] (sB (p x)) []) : ∀ l : List Ins, numL l ≤ bigN → Does Tryz.prog env 127 [aL l] [] (sB (okL p l)) [] := by
  refine ins_rec fun l IH hb => does_of_tree names (rAl_tree l) ?_
  have loop : ∀ (r k : Nat), k + r = l.length → Am.Good Tryz.prog env (bodyCfg Tryz.prog env 127 0 [aL l, sI .i64 k] [] 0 34) (.ret (sB (okL p (l.drop k))) []) := by
    intro r
    induction r with
    | zero =>
      intro k hk
      refine good_of_tree names (lAl_tree l k 0 0 0 0 0 [] [] [] true (fun _ => true)) ?_
      have h2 : ¬ ((k : Int) < l.length) := by omega
      rw [List.drop_eq_nil_of_le (by omega)]
      simp only [lAlTree, Tree.ok, okL]
      exact ⟨fun h => absurd (by simpa using h) h2, fun _ => trivial⟩
    | succ r ih =>
      intro k hk
      have hkl : k < l.length := by omega
      have hgx : l[k]? = some l[k] := List.getElem?_eq_getElem hkl
      have hmem : l[k] ∈ l := List.getElem_mem hkl
      rw [show l.drop k = l[k] :: l.drop (k + 1) from List.drop_eq_getElem_cons hkl]
      have hlen := numL_length l
      have hbig : bigN = 1000000000000 := rfl
      generalize l[k] = x at *
      have hIH := IH x hmem
      have hpx := hp x
      have hnx := numL_mem hmem
      obtain ⟨op, rs, a, b, nn, tg, ll, le⟩ := x
      simp only [Ins.l, Ins.e, numI] at hIH hnx
      obtain ⟨c0, c1, c2, c3, c4, c5, c6, c7⟩ := cells_at hgx
      have w1 : IntKind.i64.wrap ((k : Int) + 1) = ((k + 1 : Nat) : Int) := by rw [i64In (by omega) (by omega)]; rfl
      have hkI : (k : Int) < (l.length : Int) := by omega
      refine good_of_tree names (lAl_tree l k op rs a b nn tg ll le (p (.mk op rs a b nn tg ll le)) (ofCells true (okL p))) ?_
      simp only [lAlTree, Tree.ok, Int.toNat_natCast, Nat.add_assoc, Nat.reduceAdd, c0, c1, c2, c3, c4, c5, c6, c7, isInt, isPs, pvInt, psLen, psSz, psCells, inB, w1, ofCells_eq, okL, okI]
      refine ⟨fun _ => ⟨by simp [hkI], by simp, rfl, hpx, fun h => ?_, fun h => ⟨by simp [hkI], rfl, (by trivial), hIH.1 (by omega), fun h1 => ?_, fun h1 => ⟨by simp [hkI], rfl, (by trivial), hIH.2 (by omega), fun h2 => ?_, fun h2 => ⟨(by trivial), ?_⟩⟩⟩⟩, fun h => absurd hkI (by simpa using h)⟩
      · rw [Bool.not_eq_true'] at h; rw [h]; rfl
      · rw [Bool.not_eq_true'] at h1; rw [h1, Bool.false_and, Bool.and_false, Bool.false_and]
      · rw [Bool.not_eq_true'] at h2; rw [h2, Bool.and_false, Bool.and_false, Bool.false_and]
      · rw [Bool.not_eq_false'] at h h1 h2
        rw [h, h1, h2]
        exact ih (k + 1) (by omega)
  have h := loop l.length 0 (by omega)
  rw [List.drop_zero] at h
  exact h

theorem rtags_does : ∀ l : List Ins, numL l ≤ bigN → Does Tryz.prog env 130 [aL l] [] (sB (decide (16384 < tagL l))) [] := by
  refine ins_rec fun l IH hb => does_of_tree names (rTa_tree l) ?_
  have loop : ∀ (r k : Nat), k + r = l.length → Am.Good Tryz.prog env (bodyCfg Tryz.prog env 130 0 [aL l, sI .i64 k] [] 0 33) (.ret (sB (decide (16384 < tagL (l.drop k)))) []) := by
    intro r
    induction r with
    | zero =>
      intro k hk
      refine good_of_tree names (lTa_tree l k 0 0 0 0 0 [] [] [] true (fun _ => true)) ?_
      have h2 : ¬ ((k : Int) < l.length) := by omega
      rw [List.drop_eq_nil_of_le (by omega)]
      simp only [lTaTree, Tree.ok, tagL]
      exact ⟨fun h => absurd (by simpa using h) h2, fun _ => rfl⟩
    | succ r ih =>
      intro k hk
      have hkl : k < l.length := by omega
      have hgx : l[k]? = some l[k] := List.getElem?_eq_getElem hkl
      have hmem : l[k] ∈ l := List.getElem_mem hkl
      rw [show l.drop k = l[k] :: l.drop (k + 1) from List.drop_eq_getElem_cons hkl]
      have hlen := numL_length l
      have hbig : bigN = 1000000000000 := rfl
      generalize l[k] = x at *
      have hIH := IH x hmem
      have hnx := numL_mem hmem
      obtain ⟨op, rs, a, b, nn, tg, ll, le⟩ := x
      simp only [Ins.l, Ins.e, numI] at hIH hnx
      obtain ⟨c0, c1, c2, c3, c4, c5, c6, c7⟩ := cells_at hgx
      have w1 : IntKind.i64.wrap ((k : Int) + 1) = ((k + 1 : Nat) : Int) := by rw [i64In (by omega) (by omega)]; rfl
      have hkI : (k : Int) < (l.length : Int) := by omega
      refine good_of_tree names (lTa_tree l k op rs a b nn tg ll le true (ofCells true fun l => decide (16384 < tagL l))) ?_
      simp only [lTaTree, Tree.ok, Int.toNat_natCast, c5, c6, c7, isPs, psLen, psSz, psCells, inB, w1, ofCells_eq]
      have hT : tagL (.mk op rs a b nn tg ll le :: l.drop (k + 1)) = max (max tg.length (max (tagL ll) (tagL le))) (tagL (l.drop (k + 1))) := by simp only [tagL, tagI]
      generalize tagL (.mk op rs a b nn tg ll le :: l.drop (k + 1)) = T at *
      have out : 16384 < T → Out.ret (.p (.sc (.bool true))) [] = Out.ret (sB (decide (16384 < T))) [] := fun hq => by rw [decide_eq_true hq]
      refine ⟨fun _ => ⟨by simp [hkI], rfl, (by trivial), fun h => out ?_, fun h => ⟨by simp [hkI], rfl, (by trivial), hIH.1 (by omega), fun h1 => out ?_, fun h1 => ⟨by simp [hkI], rfl, (by trivial), hIH.2 (by omega), fun h2 => out ?_, fun h2 => ⟨(by trivial), ?_⟩⟩⟩⟩, fun h => absurd hkI (by simpa using h)⟩
      · rw [decide_eq_true_eq] at h; omega
      · rw [decide_eq_true_eq] at h1; omega
      · rw [decide_eq_true_eq] at h2; omega
      · rw [decide_eq_false_iff_not] at h h1 h2
        have := ih (k + 1) (by omega)
        rw [show decide (16384 < T) = decide (16384 < tagL (l.drop (k + 1))) from Bool.eq_iff_iff.2 (by rw [decide_eq_true_eq, decide_eq_true_eq]; omega)]
        exact this
  have h := loop l.length 0 (by omega)
  rw [List.drop_zero] at h
  exact h

theorem rcount_does : ∀ l : List Ins, numL l ≤ bigN → Does Tryz.prog env 128 [aL l] [] (sI .i64 (numL l)) [] := by
  refine ins_rec fun l IH hb => does_of_tree names (rCo_tree l) ?_
  have loop : ∀ (r k n : Nat), k + r = l.length → n + numL (l.drop k) ≤ 2 * bigN + (l.drop k).length → Am.Good Tryz.prog env (bodyCfg Tryz.prog env 128 0 [aL l, sI .i64 n, sI .i64 k] [] 0 29) (.ret (sI .i64 (n + numL (l.drop k) - (l.drop k).length : Int)) []) := by
    intro r
    induction r with
    | zero =>
      intro k n hk hn
      refine good_of_tree names (lCo_tree l n k 0 0 0 0 0 [] [] [] (fun _ => 0)) ?_
      have h2 : ¬ ((k : Int) < l.length) := by omega
      rw [List.drop_eq_nil_of_le (by omega)]
      simp only [lCoTree, Tree.ok, numL]
      exact ⟨fun h => absurd (by simpa using h) h2, fun _ => ⟨(by trivial), by simp⟩⟩
    | succ r ih =>
      intro k n hk
      have hkl : k < l.length := by omega
      have hgx : l[k]? = some l[k] := List.getElem?_eq_getElem hkl
      have hmem : l[k] ∈ l := List.getElem_mem hkl
      rw [show l.drop k = l[k] :: l.drop (k + 1) from List.drop_eq_getElem_cons hkl]
      have hlen := numL_length l
      have hlen2 := numL_length (l.drop (k + 1))
      have hbig : bigN = 1000000000000 := rfl
      generalize l[k] = x at *
      have hIH := IH x hmem
      have hnx := numL_mem hmem
      obtain ⟨op, rs, a, b, nn, tg, ll, le⟩ := x
      simp only [Ins.l, Ins.e, numI, numL, List.length_cons] at hIH hnx ⊢
      intro hn
      obtain ⟨c0, c1, c2, c3, c4, c5, c6, c7⟩ := cells_at hgx
      have w1 : IntKind.i64.wrap ((k : Int) + 1) = ((k + 1 : Nat) : Int) := by rw [i64In (by omega) (by omega)]; rfl
      have w2 : IntKind.i64.wrap ((n : Int) + numL ll) = ((n + numL ll : Nat) : Int) := by rw [i64In (by omega) (by omega)]; rfl
      have w3 : IntKind.i64.wrap (((n + numL ll : Nat) : Int) + numL le) = ((n + numL ll + numL le : Nat) : Int) := by rw [i64In (by omega) (by omega)]; rfl
      have hkI : (k : Int) < (l.length : Int) := by omega
      refine good_of_tree names (lCo_tree l n k op rs a b nn tg ll le (ofCells 0 fun l => (numL l : Int))) ?_
      simp only [lCoTree, Tree.ok, Int.toNat_natCast, c6, c7, isPs, psLen, psSz, psCells, inB, w1, ofCells_eq, w2, w3]
      have := ih (k + 1) (n + numL ll + numL le) (by omega) (by omega)
      refine ⟨fun _ => ⟨hIH.1 (by omega), hIH.2 (by omega), by simp [hkI], (by trivial), ?_⟩, fun h => absurd hkI (by simpa using h)⟩
      rw [show ((n : Int) + ((1 + numL ll + numL le + numL (l.drop (k + 1)) : Nat) : Int) - (((l.drop (k + 1)).length + 1 : Nat) : Int)) = ((n + numL ll + numL le : Nat) : Int) + numL (l.drop (k + 1)) - (l.drop (k + 1)).length by omega]
      exact this
  have h := loop l.length 0 l.length (by omega) (by rw [List.drop_zero]; have hbig : bigN = 1000000000000 := rfl; omega)
  rw [List.drop_zero, show ((l.length : Int) + numL l - l.length) = numL l by omega] at h
  exact h

theorem depL_two (l : List Ins) : depL 2 l = if l = [] then 0 else depL 1 l + 1 := by
  split
  · rename_i h; rw [h]; rfl
  · rename_i h; exact depL_shift 1 l h

theorem depI_one (op rs a b nn : Int) (tg : List Int) (ll le : List Ins) : depI 1 (.mk op rs a b nn tg ll le) = 1 + max (depL 1 ll) (depL 1 le) := by
  simp only [depI, Nat.reduceAdd, depL_two]
  have z : depL 1 ([] : List Ins) = 0 := rfl
  split <;> split <;> simp_all <;> omega

theorem rdeep_does : ∀ l : List Ins, numL l ≤ bigN → Does Tryz.prog env 129 [aL l] [] (sI .i64 (depL 1 l)) [] := by
  refine ins_rec fun l IH hb => does_of_tree names (rDe_tree l) ?_
  have loop : ∀ (r k n : Nat), k + r = l.length → Am.Good Tryz.prog env (bodyCfg Tryz.prog env 129 0 [aL l, sI .i64 n, sI .i64 k] [] 0 28) (.ret (sI .i64 (max n (depL 1 (l.drop k)) : Nat)) []) := by
    intro r
    induction r with
    | zero =>
      intro k n hk
      refine good_of_tree names (lDe_tree l n k 0 0 0 0 0 [] [] [] (fun _ => 0)) ?_
      have h2 : ¬ ((k : Int) < l.length) := by omega
      rw [List.drop_eq_nil_of_le (by omega)]
      simp only [lDeTree, Tree.ok, depL, Nat.max_zero]
      exact ⟨fun h => absurd (by simpa using h) h2, fun _ => ⟨(by trivial), (by trivial)⟩⟩
    | succ r ih =>
      intro k n hk
      have hkl : k < l.length := by omega
      have hgx : l[k]? = some l[k] := List.getElem?_eq_getElem hkl
      have hmem : l[k] ∈ l := List.getElem_mem hkl
      rw [show l.drop k = l[k] :: l.drop (k + 1) from List.drop_eq_getElem_cons hkl]
      have hlen := numL_length l
      have hbig : bigN = 1000000000000 := rfl
      generalize l[k] = x at *
      have hIH := IH x hmem
      have hnx := numL_mem hmem
      obtain ⟨op, rs, a, b, nn, tg, ll, le⟩ := x
      simp only [Ins.l, Ins.e, numI] at hIH hnx
      have d1 := depL_num 1 ll
      have d2 := depL_num 1 le
      obtain ⟨c0, c1, c2, c3, c4, c5, c6, c7⟩ := cells_at hgx
      have w1 : IntKind.i64.wrap ((k : Int) + 1) = ((k + 1 : Nat) : Int) := by rw [i64In (by omega) (by omega)]; rfl
      have m1 : max (depL 1 ll : Int) (depL 1 le : Int) = ((max (depL 1 ll) (depL 1 le) : Nat) : Int) := by omega
      have w2 : IntKind.i64.wrap (1 + ((max (depL 1 ll) (depL 1 le) : Nat) : Int)) = ((1 + max (depL 1 ll) (depL 1 le) : Nat) : Int) := by rw [i64In (by omega) (by omega)]; rfl
      have m2 : max (n : Int) ((1 + max (depL 1 ll) (depL 1 le) : Nat) : Int) = ((max n (1 + max (depL 1 ll) (depL 1 le)) : Nat) : Int) := by omega
      have hkI : (k : Int) < (l.length : Int) := by omega
      refine good_of_tree names (lDe_tree l n k op rs a b nn tg ll le (ofCells 0 fun l => (depL 1 l : Int))) ?_
      simp only [lDeTree, Tree.ok, Int.toNat_natCast, c6, c7, isPs, psLen, psSz, psCells, inB, w1, ofCells_eq, cond_false, m1, w2, m2]
      have := ih (k + 1) (max n (1 + max (depL 1 ll) (depL 1 le))) (by omega)
      refine ⟨fun _ => ⟨hIH.1 (by omega), hIH.2 (by omega), by simp [hkI], (by trivial), ?_⟩, fun h => absurd hkI (by simpa using h)⟩
      rw [show max n (depL 1 (.mk op rs a b nn tg ll le :: l.drop (k + 1))) = max (max n (1 + max (depL 1 ll) (depL 1 le))) (depL 1 (l.drop (k + 1))) by simp only [depL, depI_one]; omega]
      exact this
  have h := loop l.length 0 0 (by omega)
  rw [List.drop_zero, Nat.zero_max] at h
  exact h

theorem rcheck_does {p : Ins → Bool} (hp : ∀ x : Ins, Does Tryz.prog env 150 [aggX x] [] (sB (p x)) []) (l : List Ins) (h : numL l ≤ bigN) : Does Tryz.prog env 97 [aL l] [] (sI .i64 (checkF p l)) [] := by
  refine does_of_tree names (rCk_tree l (okL p l) (numL l) (depL 1 l) (decide (16384 < tagL l))) ⟨rall_does hp l h, fun h0 => ?_, fun h0 => ⟨rcount_does l h, fun h1 => ?_, fun h1 => ⟨rdeep_does l h, fun h2 => ?_, fun h2 => ⟨rtags_does l h, fun h3 => ?_, fun h3 => ?_⟩⟩⟩⟩
  · rw [Bool.not_eq_true'] at h0
    rw [checkF, if_pos h0]; rfl
  all_goals
    rw [Bool.not_eq_false'] at h0
    simp only [decide_eq_true_eq, decide_eq_false_iff_not] at *
    rw [checkF, if_neg (by rw [h0]; simp)]
  · rw [if_pos (by omega)]; rfl
  · rw [if_pos (by omega)]; rfl
  · rw [if_pos (by omega)]; rfl
  · rw [if_neg (by omega)]; rfl

end Go.Proofs.YtgbphddecpjlhaaGreatDoor.N
end

section
set_option linter.unusedSimpArgs false
set_option linter.unusedVariables false
namespace Go.Proofs.YtgbphddecpjlhaaGreatDoor.N
open Go Go.Am

noncomputable def dgcOrc : Orc := orcL noCall noLed [] [(87, 0, 2), (89, 2, 4), (89, 2, 9), (89, 2, 14), (89, 0, 0), (37, 16, 15), (37, 0, 8)] []
noncomputable def dgcSc (tp tr lo ck : Int) (l : List Ins) : Sc := (.ans 97 (sI .i64 0) ([]) (.lit (.ans 97 (sI .i64 ck) ([]) (.fork .fin (.ans 97 (sI .i64 0) ([]) (.ans 97 (sI .i64 0) ([]) (.lit (.lit (.lit (.lit (.lit (.lit (.lit (.lit (.fork (.lit (.lit (.lit .fin))) (.fork (.lit (.lit .fin)) (.fork (.lit .fin) (.fork .fin (.lit (.lit (.fork (.lit .fin) (.fork .fin (.ans 97 (sI .i64 0) ([]) (.lit (.ans 97 (sI .i64 ck) ([]) (.fork .fin (.ans 97 (sI .i64 0) ([]) (.ans 97 (sI .i64 0) ([]) .fin))))))))))))))))))))))))))))
noncomputable def dgcTree (tp tr lo ck : Int) (l : List Ins) : Tree :=
 (.call ⟨97, [.p (.ps 0 8 [])], [], sI .i64 0, []⟩
 (.call ⟨97, [.p (.ps l.length 8 (encL l))], [], sI .i64 ck, []⟩
 (.test (ck == 141)
 (.out (.ret (sI .i64 141) []))
 (.call ⟨97, [.p (.ps 1 8 [sP 65, sP 0, .sc (.int .u32 0), .sc (.int .u32 0), .sc (.int .i32 0), .ps 0 1 [], .ps 0 8 [], .ps 0 8 []])], [], sI .i64 0, []⟩
 (.call ⟨97, [.p (.ps 1 8 [sP 65, sP 0, .sc (.int .u32 0), .sc (.int .u32 0), .sc (.int .i32 0), .ps 0 1 [], .ps 0 8 [], .ps 0 8 []])], [], sI .i64 0, []⟩
 (.test (decide (tp < 0))
 (.out (.ret (sI .i64 2) []))
 (.test (decide (tp > 255))
 (.out (.ret (sI .i64 2) []))
 (.test (decide (tr < 0))
 (.out (.ret (sI .i64 2) []))
 (.test (decide (tr > 1))
 (.out (.ret (sI .i64 2) []))
 (.test (decide (lo < 0))
 (.out (.ret (sI .i64 2) []))
 (.test (decide (lo > 50000))
 (.out (.ret (sI .i64 2) []))
 (.call ⟨97, [.p (.ps 0 8 [])], [], sI .i64 0, []⟩
 (.call ⟨97, [.p (.ps l.length 8 (encL l))], [], sI .i64 ck, []⟩
 (.test (ck == 2)
 (.out (.ret (sI .i64 2) []))
 (.call ⟨97, [.p (.ps 1 8 [sP 65, sP 0, .sc (.int .u32 0), .sc (.int .u32 0), .sc (.int .i32 0), .ps 0 1 [], .ps 0 8 [], .ps 0 8 []])], [], sI .i64 0, []⟩
 (.call ⟨97, [.p (.ps 1 8 [sP 65, sP 0, .sc (.int .u32 0), .sc (.int .u32 0), .sc (.int .i32 0), .ps 0 1 [], .ps 0 8 [], .ps 0 8 []])], [], sI .i64 0, []⟩
 (.out (.ret (sI .i64 0) []))))))))))))))))))
theorem dgc_tree (tp tr lo ck : Int) (l : List Ins) : growF Tryz.prog env dgcOrc 1000000 17 ([AV.agg (rmD tp tr lo l).cells]) ([]) (dgcSc tp tr lo ck l) = dgcTree tp tr lo ck l := by kernel_rfl

theorem dgc_does (tp tr lo : Int) {l : List Ins} (h : numL l ≤ 100000000000) : Does Tryz.prog env 17 [.agg (rmD tp tr lo l).cells] [] (sI .i64 (mcG tp tr lo (checkF mayI l))) [] := by
  have c0 := rcheck_does rightI_does [] (by decide)
  have c1 := rcheck_does rightI_does l (Nat.le_trans h (by show 100000000000 ≤ 1000000000000; decide))
  have c2 := rcheck_does rightI_does [.mk 65 0 0 0 0 [] [] []] (by decide)
  rw [ckNil] at c0
  rw [ckCon, conIns_eq] at c2
  refine does_of_tree names (dgc_tree tp tr lo (checkF mayI l) l) ?_
  generalize checkF mayI l = ck at *
  simp only [dgcTree, Tree.ok]
  refine ⟨c0, c1, fun q => ?_, fun q => ⟨c2, c2, fun t1 => ?_, fun t1 => ⟨fun t2 => ?_, fun t2 => ⟨fun t3 => ?_, fun t3 => ⟨fun t4 => ?_, fun t4 => ⟨fun q3 => ?_, fun q3 => ⟨fun q4 => ?_, fun q4 => ⟨c0, c1, fun q5 => ?_, fun q5 => ⟨c2, c2, ?_⟩⟩⟩⟩⟩⟩⟩⟩⟩
  · rw [mcG, if_pos (by simpa using q)]
  all_goals
    have q : ck ≠ 141 := by simpa using q
    simp only [decide_eq_true_eq, decide_eq_false_iff_not] at *
    rw [mcG, if_neg q]
  · rw [if_pos (by omega)]
  · rw [if_pos (by omega)]
  · rw [if_pos (by omega)]
  · rw [if_pos (by omega)]
  · rw [if_neg (by omega), if_pos (by omega)]
  · rw [if_neg (by omega), if_pos (by omega)]
  · rw [if_neg (by omega), if_neg (by omega), if_pos (by simpa using q5)]
  · rw [if_neg (by omega), if_neg (by omega), if_neg (by simpa using q5)]

end Go.Proofs.YtgbphddecpjlhaaGreatDoor.N
end

section
set_option linter.unusedSimpArgs false
set_option linter.unusedVariables false
namespace Go.Proofs.YtgbphddecpjlhaaGreatDoor.N
open Go Go.Am

def dbQ (tp tr lo e e2 p2 : Int) (l : List Ins) (i : Nat) (f : FuncId) (_ : List AV) (m : Mem) : Option (AV × Mem) := cond (Nat.beq f 17) (some (sI .i64 e, m)) (cond (Nat.beq f 19) (some (.tup [sI .i64 e2, sI .i64 p2], m)) (cond (Nat.beq f 18) (some (sB true, m)) none))
noncomputable def dboOrc : Orc := orcL noCall noLed [] [(9, 0, 0)] []
noncomputable def dboSc (tp tr lo e e2 p2 : Int) (l : List Ins) : Sc := (.ans 17 (sI .i64 e) ([]) (.fork .fin (.led 9 4 (dbQ tp tr lo e e2 p2 l 1) (.ans 19 (.tup [sI .i64 e2, sI .i64 p2]) ([]) .fin))))
noncomputable def dboTree (tp tr lo e e2 p2 : Int) (l : List Ins) : Tree :=
 (.call ⟨17, [.agg [.p (.ps 3 2 [sP 1, sP 1, sP 0, sP 0, sP tp, sP tr]), .p (.ps 1 3 [.sc (.string (ByteArray.mk #[104, 111, 115, 116])), .sc (.string (ByteArray.mk #[102])), sP 0]), .p (.ps 2 3 [sP 1, sP 0, .ps 0 8 [], sP 2, sP lo, .ps l.length 8 (encL l)]), .p (.ps 1 3 [.sc (.int .u32 1), .sc (.int .u32 0), .sc (.bool false)]), .p (.ps 1 3 [.sc (.int .u32 1), .sc (.int .u32 0), .sc (.bool false)]), .p (.ps 2 2 [.sc (.bool true), .ps 1 8 [sP 65, sP 0, .sc (.int .u32 0), .sc (.int .u32 0), .sc (.int .i32 0), .ps 0 1 [], .ps 0 8 [], .ps 0 8 []], .sc (.bool false), .ps 1 8 [sP 65, sP 0, .sc (.int .u32 0), .sc (.int .u32 0), .sc (.int .i32 0), .ps 0 1 [], .ps 0 8 [], .ps 0 8 []]]), .p (.ps 0 3 []), sB false, sI .u32 ((rmD tp tr lo l).sn), .p (.ps 0 2 []), .p (.ps 0 2 [])]], [], sI .i64 e, []⟩
 (.test (e != 0)
 (.out (.ret (.tup [sI .i64 e, sI .i64 0]) []))
 (.call ⟨18, [.agg [.p (.ps 3 2 [sP 1, sP 1, sP 0, sP 0, sP tp, sP tr]), .p (.ps 1 3 [.sc (.string (ByteArray.mk #[104, 111, 115, 116])), .sc (.string (ByteArray.mk #[102])), sP 0]), .p (.ps 2 3 [sP 1, sP 0, .ps 0 8 [], sP 2, sP lo, .ps l.length 8 (encL l)]), .p (.ps 1 3 [.sc (.int .u32 1), .sc (.int .u32 0), .sc (.bool false)]), .p (.ps 1 3 [.sc (.int .u32 1), .sc (.int .u32 0), .sc (.bool false)]), .p (.ps 2 2 [.sc (.bool true), .ps 1 8 [sP 65, sP 0, .sc (.int .u32 0), .sc (.int .u32 0), .sc (.int .i32 0), .ps 0 1 [], .ps 0 8 [], .ps 0 8 []], .sc (.bool false), .ps 1 8 [sP 65, sP 0, .sc (.int .u32 0), .sc (.int .u32 0), .sc (.int .i32 0), .ps 0 1 [], .ps 0 8 [], .ps 0 8 []]]), .p (.ps 0 3 []), sB false, sI .u32 ((rmD tp tr lo l).sn), .p (.ps 0 2 []), .p (.ps 0 2 [])], sI .i64 2], [], sB true, []⟩
 (.call ⟨19, [.agg [.p (.ps 3 2 [sP 1, sP 1, sP 0, sP 0, sP tp, sP tr]), .p (.ps 1 3 [.sc (.string (ByteArray.mk #[104, 111, 115, 116])), .sc (.string (ByteArray.mk #[102])), sP 0]), .p (.ps 2 3 [sP 1, sP 0, .ps 0 8 [], sP 2, sP lo, .ps l.length 8 (encL l)]), .p (.ps 1 3 [.sc (.int .u32 1), .sc (.int .u32 0), .sc (.bool false)]), .p (.ps 1 3 [.sc (.int .u32 1), .sc (.int .u32 0), .sc (.bool false)]), .p (.ps 2 2 [.sc (.bool true), .ps 1 8 [sP 65, sP 0, .sc (.int .u32 0), .sc (.int .u32 0), .sc (.int .i32 0), .ps 0 1 [], .ps 0 8 [], .ps 0 8 []], .sc (.bool false), .ps 1 8 [sP 65, sP 0, .sc (.int .u32 0), .sc (.int .u32 0), .sc (.int .i32 0), .ps 0 1 [], .ps 0 8 [], .ps 0 8 []]]), .p (.ps 0 3 []), sB false, sI .u32 ((rmD tp tr lo l).sn), .p (.ps 0 2 []), .p (.ps 0 2 [])], sI .i64 1], [], .tup [sI .i64 e2, sI .i64 p2], []⟩
 (.out (.ret (.tup [sI .i64 e2, sI .i64 p2]) []))))))
theorem dbo_tree (tp tr lo e e2 p2 : Int) (l : List Ins) : growF Tryz.prog env dboOrc 1000000 9 ([AV.agg (rmD tp tr lo l).cells, sI IntKind.i64 1]) ([]) (dboSc tp tr lo e e2 p2 l) = dboTree tp tr lo e e2 p2 l := by kernel_rfl

noncomputable def dtyOrc : Orc := orcL noCall noLed [] [] []
def dtySc : Sc := .fin
noncomputable def dtyTree (tp tr lo : Int) (l : List Ins) : Tree :=
 (.out (.ret (sB true) []))
theorem dty_tree (tp tr lo : Int) (l : List Ins) : growF Tryz.prog env dtyOrc 1000000 18 ([AV.agg (rmD tp tr lo l).cells, sI IntKind.i64 2]) ([]) dtySc = dtyTree tp tr lo l := by kernel_rfl

def bodG (tp tr lo : Int) (l : List Ins) : Int × Nat := if mcG tp tr lo (checkF mayI l) ≠ 0 then (mcG tp tr lo (checkF mayI l), 0) else bodyV (rV tp.toNat tr.toNat lo.toNat) l

theorem mcG_inv {tp tr lo ck : Int} (h : mcG tp tr lo ck = 0) : (0 ≤ tp ∧ tp ≤ 255 ∧ 0 ≤ tr ∧ tr ≤ 1) ∧ (0 ≤ lo ∧ lo ≤ 50000) ∧ mcF ck = 0 := by
  unfold mcG at h
  split at h
  · cases h
  split at h
  · cases h
  split at h
  · cases h
  split at h
  · cases h
  · rename_i h1 h2 h3 h4
    refine ⟨by omega, by omega, ?_⟩
    unfold mcF
    rw [if_neg h1, if_neg h4]

theorem vbody_does (tp tr lo : Int) {l : List Ins} (h : numL l ≤ 100000000000) (hw : wfL l) :
    Does Tryz.prog env 8 [.agg (rmD tp tr lo l).cells, sI .i64 1] [] (.tup [sI .i64 (bodG tp tr lo l).1, sI .i64 ((bodG tp tr lo l).2 : Nat)]) [] := by
  have hm := mgc_does tp tr lo h
  refine does_of_tree names (bod_tree (rmD tp tr lo l) 1 (mcG tp tr lo (checkF mayI l)) (bodG tp tr lo l).1 ((bodG tp tr lo l).2 : Nat)) ?_
  simp only [bodTree, Tree.ok]
  refine ⟨hm, fun q => ?_, fun q => ?_⟩
  · have q : mcG tp tr lo (checkF mayI l) ≠ 0 := by simpa using q
    simp only [bodG, if_pos q]
    rfl
  · have q : mcG tp tr lo (checkF mayI l) = 0 := by simpa using q
    have hb : bodG tp tr lo l = bodyV (rV tp.toNat tr.toNat lo.toNat) l := by unfold bodG; rw [if_neg (by simpa using q)]
    rw [hb]
    obtain ⟨⟨a1, a2, a3, a4⟩, ⟨a5, a6⟩, a7⟩ := mcG_inv q
    obtain ⟨tp, rfl⟩ := Int.eq_ofNat_of_zero_le a1
    obtain ⟨tr, rfl⟩ := Int.eq_ofNat_of_zero_le a3
    obtain ⟨lo, rfl⟩ := Int.eq_ofNat_of_zero_le a5
    simp only [Int.toNat_natCast]
    exact ⟨rlook (by omega) (by omega) (by omega) (fit_of hw a7), trivial⟩

theorem dbody_does (tp tr lo : Int) {l : List Ins} (h : numL l ≤ 100000000000) (hw : wfL l) :
    Does Tryz.prog env 9 [.agg (rmD tp tr lo l).cells, sI .i64 1] [] (.tup [sI .i64 (bodG tp tr lo l).1, sI .i64 ((bodG tp tr lo l).2 : Nat)]) [] := by
  have hm := dgc_does tp tr lo h
  have ht : Does Tryz.prog env 18 [.agg (rmD tp tr lo l).cells, sI .i64 2] [] (sB true) [] := does_of_tree names (dty_tree tp tr lo l) rfl
  refine does_of_tree names (dbo_tree tp tr lo (mcG tp tr lo (checkF mayI l)) (bodG tp tr lo l).1 ((bodG tp tr lo l).2 : Nat) l) ?_
  simp only [dboTree, Tree.ok]
  refine ⟨hm, fun q => ?_, fun q => ⟨ht, ?_⟩⟩
  · have q : mcG tp tr lo (checkF mayI l) ≠ 0 := by simpa using q
    simp only [bodG, if_pos q]
    rfl
  · have q : mcG tp tr lo (checkF mayI l) = 0 := by simpa using q
    have hb : bodG tp tr lo l = bodyV (rV tp.toNat tr.toNat lo.toNat) l := by unfold bodG; rw [if_neg (by simpa using q)]
    rw [hb]
    obtain ⟨⟨a1, a2, a3, a4⟩, ⟨a5, a6⟩, a7⟩ := mcG_inv q
    obtain ⟨tp, rfl⟩ := Int.eq_ofNat_of_zero_le a1
    obtain ⟨tr, rfl⟩ := Int.eq_ofNat_of_zero_le a3
    obtain ⟨lo, rfl⟩ := Int.eq_ofNat_of_zero_le a5
    simp only [Int.toNat_natCast]
    exact ⟨rbody (by omega) (by omega) (by omega) (fit_of hw a7), trivial⟩

end Go.Proofs.YtgbphddecpjlhaaGreatDoor.N
end
