/-
  Numbers as text: there is such a text.
  strings.Builder, written; a number, written: what these leave in the builder.
  instr.write: what it leaves in a builder that is written already.
-/
import Derived.Test.YtjjloibfhgofcaaDoorML
import Derived.Test.YtjjloibfhgofcaaDoorMG
import Derived.Test.YtjjloibfhgofcaaDoorMH

section
namespace Go.Proofs.YtjjloibfhgofcaaDoor.N
open Go Go.Am

def fpS (_n : Int) (d : Nat) (_cells : List PV) : FuncId → Nat → Nat → Option (AV → AV) := shapeAt [(85, 10, 1, sI .i64 ((1 + d : Nat) : Int)), (85, 10, 2, .ms 0 1 d 1 (some 23)), (85, 14, 1, sI .i64 ((1 + d : Nat) : Int)), (85, 14, 2, .ms 0 1 d 1 (some 23)), (85, 13, 1, sI .i64 ((1 + d : Nat) : Int)), (85, 13, 2, .ms 0 0 (1 + d) 1 (some 24))]
def fpC (_n : Int) (d : Nat) (cells : List PV) (f : FuncId) (_ : List AV) (m : Mem) : Option (AV × Mem) := cond (Nat.beq f 92) (some (sI .i64 d, m)) (cond (Nat.beq f 93) (some (.tup [], [.pc cells])) none)
/- fip: 88 steps -/
noncomputable def fipOrc (n : Int) (d : Nat) (cells : List PV) : Orc := orcS (fpC n d cells) noLed [] [(85, 3, 3), (85, 0, 1), (85, 0, 2), (85, 0, 3)] [(85, 10, 2), (85, 14, 2), (85, 14, 3)] (fpS n d cells)
def fipSc : Sc := (.yes (.no (.no (.no .fin))))
noncomputable def fipTree (n : Int) (d : Nat) (cells : List PV) : Tree :=
  (.must (decide (0 ≤ n))
   (.must (!(decide (n < 100)))
    (.must (!(decide (n < 0)))
     (.call ⟨92, [AV.p (PV.sc (Value.int IntKind.u64 (IntKind.u64.wrap n)))], [], AV.p (PV.sc (Value.int IntKind.i64 (↑d : Int))), []⟩
      (.need (AV.p (PV.sc (Value.int IntKind.i64 (IntKind.i64.wrap (1 + (↑d : Int))))) = sI IntKind.i64 (↑(1 + d) : Int))
       (.must (Nat.ble 1 (↑(1 + d) : Int).toNat && (↑(1 + d) : Int).toNat.ble 24 && true)
        (.need (AV.ms 0 1 ((↑(1 + d) : Int).toNat - 1) 1 (Option.some 23) = AV.ms 0 1 d 1 (Option.some 23))
         (.call ⟨93, [AV.ms 0 1 d 1 (Option.some 23), AV.p (PV.sc (Value.int IntKind.u64 (IntKind.u64.wrap n)))], [Blk.pc [PV.sc (Value.int IntKind.u8 0), PV.sc (Value.int IntKind.u8 0), PV.sc (Value.int IntKind.u8 0), PV.sc (Value.int IntKind.u8 0), PV.sc (Value.int IntKind.u8 0), PV.sc (Value.int IntKind.u8 0), PV.sc (Value.int IntKind.u8 0), PV.sc (Value.int IntKind.u8 0), PV.sc (Value.int IntKind.u8 0), PV.sc (Value.int IntKind.u8 0), PV.sc (Value.int IntKind.u8 0), PV.sc (Value.int IntKind.u8 0), PV.sc (Value.int IntKind.u8 0), PV.sc (Value.int IntKind.u8 0), PV.sc (Value.int IntKind.u8 0), PV.sc (Value.int IntKind.u8 0), PV.sc (Value.int IntKind.u8 0), PV.sc (Value.int IntKind.u8 0), PV.sc (Value.int IntKind.u8 0), PV.sc (Value.int IntKind.u8 0), PV.sc (Value.int IntKind.u8 0), PV.sc (Value.int IntKind.u8 0), PV.sc (Value.int IntKind.u8 0), PV.sc (Value.int IntKind.u8 0)]], AV.tup [], [Blk.pc cells]⟩
          (.must (!(decide (n < 0)))
           (.need (AV.p (PV.sc (Value.int IntKind.i64 (IntKind.i64.wrap (1 + (↑d : Int))))) = sI IntKind.i64 (↑(1 + d) : Int))
            (.must (Nat.ble 1 (↑(1 + d) : Int).toNat && (↑(1 + d) : Int).toNat.ble 24 && true)
             (.need (AV.ms 0 1 ((↑(1 + d) : Int).toNat - 1) 1 (Option.some 23) = AV.ms 0 1 d 1 (Option.some 23))
              (.must ((1 + d * 1).ble cells.length && (List.take (d * 1) (List.drop 1 cells)).all isByte && true)
               (.out (Out.ret (AV.p (PV.sc (Value.string (ByteArray.mk (List.map Am.byteOf (List.take (d * 1) (List.drop 1 cells))).toArray)))) [])))))))))))))))
theorem fip_tree (n : Int) (d : Nat) (cells : List PV) : growF Tryd.prog envP (fipOrc n d cells) 1000000 69 ([sI IntKind.i64 n, sI IntKind.i64 10]) ([]) fipSc = fipTree n d cells := by kernel_rfl

/- fin: 96 steps -/
noncomputable def finOrc (n : Int) (d : Nat) (cells : List PV) : Orc := orcS (fpC n d cells) noLed [] [(85, 3, 3), (85, 0, 2), (85, 0, 3)] [(85, 10, 2), (85, 12, 1), (85, 13, 2), (85, 13, 3)] (fpS n d cells)
def finSc : Sc := (.no (.yes (.yes .fin)))
noncomputable def finTree (n : Int) (d : Nat) (cells : List PV) : Tree :=
  (.must (!(decide (0 ≤ n)))
   (.must (decide (n < 0))
    (.call ⟨92, [AV.p (PV.sc (Value.int IntKind.u64 (IntKind.u64.wrap (0 - IntKind.u64.wrap n))))], [], AV.p (PV.sc (Value.int IntKind.i64 (↑d : Int))), []⟩
     (.need (AV.p (PV.sc (Value.int IntKind.i64 (IntKind.i64.wrap (1 + (↑d : Int))))) = sI IntKind.i64 (↑(1 + d) : Int))
      (.must (Nat.ble 1 (↑(1 + d) : Int).toNat && (↑(1 + d) : Int).toNat.ble 24 && true)
       (.need (AV.ms 0 1 ((↑(1 + d) : Int).toNat - 1) 1 (Option.some 23) = AV.ms 0 1 d 1 (Option.some 23))
        (.call ⟨93, [AV.ms 0 1 d 1 (Option.some 23), AV.p (PV.sc (Value.int IntKind.u64 (IntKind.u64.wrap (0 - IntKind.u64.wrap n))))], [Blk.pc [PV.sc (Value.int IntKind.u8 0), PV.sc (Value.int IntKind.u8 0), PV.sc (Value.int IntKind.u8 0), PV.sc (Value.int IntKind.u8 0), PV.sc (Value.int IntKind.u8 0), PV.sc (Value.int IntKind.u8 0), PV.sc (Value.int IntKind.u8 0), PV.sc (Value.int IntKind.u8 0), PV.sc (Value.int IntKind.u8 0), PV.sc (Value.int IntKind.u8 0), PV.sc (Value.int IntKind.u8 0), PV.sc (Value.int IntKind.u8 0), PV.sc (Value.int IntKind.u8 0), PV.sc (Value.int IntKind.u8 0), PV.sc (Value.int IntKind.u8 0), PV.sc (Value.int IntKind.u8 0), PV.sc (Value.int IntKind.u8 0), PV.sc (Value.int IntKind.u8 0), PV.sc (Value.int IntKind.u8 0), PV.sc (Value.int IntKind.u8 0), PV.sc (Value.int IntKind.u8 0), PV.sc (Value.int IntKind.u8 0), PV.sc (Value.int IntKind.u8 0), PV.sc (Value.int IntKind.u8 0)]], AV.tup [], [Blk.pc cells]⟩
         (.must (decide (n < 0))
          (.must ((0 + 1).ble cells.length && true && true && true)
           (.need (AV.p (PV.sc (Value.int IntKind.i64 (IntKind.i64.wrap (1 + (↑d : Int))))) = sI IntKind.i64 (↑(1 + d) : Int))
            (.must ((↑(1 + d) : Int).toNat.ble 24 && true)
             (.need (AV.ms 0 0 ((↑(1 + d) : Int).toNat - 0) 1 (Option.some 24) = AV.ms 0 0 (1 + d) 1 (Option.some 24))
              (.must ((0 + (1 + d) * 1).ble (setL cells 0 [PV.sc (Value.int IntKind.u8 45)]).length && (List.take ((1 + d) * 1) (List.drop 0 (setL cells 0 [PV.sc (Value.int IntKind.u8 45)]))).all isByte && true)
               (.out (Out.ret (AV.p (PV.sc (Value.string (ByteArray.mk (List.map Am.byteOf (List.take ((1 + d) * 1) (List.drop 0 (setL cells 0 [PV.sc (Value.int IntKind.u8 45)])))).toArray)))) [])))))))))))))))
theorem fin_tree (n : Int) (d : Nat) (cells : List PV) : growF Tryd.prog envP (finOrc n d cells) 1000000 69 ([sI IntKind.i64 n, sI IntKind.i64 10]) ([]) finSc = finTree n d cells := by kernel_rfl


/-- Some bytes as a text. -/
abbrev sS (l : List UInt8) : AV := .p (.sc (.string ⟨l.toArray⟩))

theorem sS_of (s : ByteArray) : (AV.p (.sc (.string s))) = sS s.data.toList := by rw [sS, Array.toArray_toList]

theorem ext_len (s : ByteArray) (l h : Nat) : (s.extract l h).data.toList.length ≤ s.data.toList.length := by
  rw [Array.length_toList, Array.length_toList]
  show (s.extract l h).size ≤ s.size
  rw [ByteArray.size_extract]
  omega

theorem allByte_take {l : List PV} (h : l.all isByte = true) (a b : Nat) : ((l.drop a).take b).all isByte = true := by
  rw [List.all_eq_true] at h ⊢
  exact fun x hx => h x (List.mem_of_mem_drop (List.mem_of_mem_take hx))

/-- There is a text of each number. -/
theorem fmt_does (n : Int) (h0 : -2147483648 ≤ n) (h1 : n < 4294967296) : ∃ bs : List UInt8, bs.length ≤ 300 ∧ Does Tryd.prog envP 69 [sI .i64 n, sI .i64 10] [] (sS bs) [] := by
  have w64 : ∀ m : Int, 0 ≤ m → m < 8589934592 → IntKind.u64.wrap m = m := fun m a b => by
    unfold IntKind.wrap
    rw [if_neg (by simp [IntKind.signed])]
    exact Int.emod_eq_of_lt a (by have : (2 : Int) ^ IntKind.u64.bits = 18446744073709551616 := by decide
                                  omega)
  by_cases hs : 0 ≤ n ∧ n < 100
  · have small : ∀ s : ByteArray, Does Tryd.prog envP 69 [sI .i64 n, sI .i64 10] [] (.p (.sc (.string s))) [] → s.data.toList.length ≤ 300 → ∃ bs : List UInt8, bs.length ≤ 300 ∧ Does Tryd.prog envP 69 [sI .i64 n, sI .i64 10] [] (sS bs) [] := fun s h hl => ⟨s.data.toList, hl, by rw [← sS_of]; exact h⟩
    have w1 : IntKind.i64.wrap (n + 1) = n + 1 := i64In (by omega) (by omega)
    have w2 : IntKind.i64.wrap (n * 2) = n * 2 := i64In (by omega) (by omega)
    have w3 : IntKind.i64.wrap (n * 2 + 2) = n * 2 + 2 := i64In (by omega) (by omega)
    by_cases ht : n < 10
    · refine small _ (does_of_tree names (fis_tree n) ⟨by simp; omega, by simp; omega, fun _ => ⟨?_, rfl⟩, fun h => absurd ht (of_decide_eq_false h)⟩) (Nat.le_trans (ext_len _ _ _) (Nat.le_of_ble_eq_true (by kernel_rfl)))
      rw [w1]; simp; omega
    · refine small _ (does_of_tree names (fis_tree n) ⟨by simp; omega, by simp; omega, fun h => absurd (of_decide_eq_true h) ht, fun _ => ⟨?_, rfl⟩⟩) (Nat.le_trans (ext_len _ _ _) (Nat.le_of_ble_eq_true (by kernel_rfl)))
      rw [w2, w3]; simp; omega
  · by_cases hn : 0 ≤ n
    · have e : IntKind.u64.wrap n = n := w64 n hn (by omega)
      obtain ⟨d, hd, hdig⟩ := digits_does n hn (by omega)
      obtain ⟨cells, ha, hl, hlay⟩ := lays_all hn hd
      have wd : IntKind.i64.wrap (1 + (d : Int)) = ((1 + d : Nat) : Int) := by rw [i64In (by omega) (by omega)]; rfl
      refine ⟨((cells.drop 1).take (d * 1)).map Am.byteOf, ?_, does_of_tree names (fip_tree n d cells) ?_⟩
      rotate_left
      · simp only [fipTree, Tree.ok, e, wd, Int.toNat_natCast]
        refine ⟨by simp; omega, by simp; omega, by simp; omega, hdig, (by trivial), by simp; omega, by rw [Nat.add_sub_cancel_left], hlay, by simp; omega, (by trivial), by simp; omega, by rw [Nat.add_sub_cancel_left], ?_, (by trivial)⟩
        rw [allByte_take ha]; simp; omega
      · simp; omega
    · have e : IntKind.u64.wrap (0 - IntKind.u64.wrap n) = -n := by
        unfold IntKind.wrap
        rw [if_neg (by simp [IntKind.signed]), if_neg (by simp [IntKind.signed])]
        have : (2 : Int) ^ IntKind.u64.bits = 18446744073709551616 := by decide
        rw [this]; omega
      obtain ⟨d, hd, hdig⟩ := digits_does (-n) (by omega) (by omega)
      obtain ⟨cells, ha, hl, hlay⟩ := lays_all (show 0 ≤ -n by omega) hd
      have wd : IntKind.i64.wrap (1 + (d : Int)) = ((1 + d : Nat) : Int) := by rw [i64In (by omega) (by omega)]; rfl
      refine ⟨(((setL cells 0 [PV.sc (Value.int IntKind.u8 45)]).drop 0).take ((1 + d) * 1)).map Am.byteOf, ?_, does_of_tree names (fin_tree n d cells) ?_⟩
      rotate_left
      · simp only [finTree, Tree.ok, e, wd, Int.toNat_natCast]
        refine ⟨by simp; omega, by simp; omega, hdig, (by trivial), by simp; omega, by rw [Nat.add_sub_cancel_left], hlay, by simp; omega, by simp; omega, (by trivial), by simp; omega, by rw [Nat.sub_zero], ?_, (by trivial)⟩
        have hb : (setL cells 0 [PV.sc (Value.int IntKind.u8 45)]).all isByte = true := by
          rw [List.all_eq_true] at ha ⊢
          intro x hx
          rcases List.mem_or_eq_of_mem_set hx with q | rfl
          · exact ha x q
          · rfl
        have hc : (setL cells 0 [PV.sc (Value.int IntKind.u8 45)]).length = 24 := by rw [← hl]; simp [setL]
        rw [allByte_take hb, hc]; simp; omega
      · simp; omega
end Go.Proofs.YtjjloibfhgofcaaDoor.N
end

section
namespace Go.Proofs.YtjjloibfhgofcaaDoor.N
open Go Go.Am

def bytesA (s : ByteArray) : List AV := s.data.toList.map fun c => .p (ofByte c)
def numL (_n : Int) (_k : Nat) (_X : List AV) (s : ByteArray) (f : FuncId) (args : List AV) (m : Mem) : Option (AV × Mem) := cond (Nat.beq f 69) (some (.p (.sc (.string s)), m)) (cond (Nat.beq f 68) (match args, m with
  | [_, .p (.sc (.string z))], [.ob (.gr t q) [x, .ms _ _ j _ _], .ob (.gr u p) Y] => some (.tup [sI .i64 z.data.toList.length, .p (.sc .nilIface)], [.ob (.gr t q) [x, .ms 2 0 (j + z.data.toList.length) 1 none], .dead, .ob (.gr u p) (Y ++ bytesA z)])
  | _, _ => none) none)
/- wsA: 54 steps -/
noncomputable def wsAOrc : Orc := orcL noCall noLed [] [] [(68, 3, 6)]
def wsASc : Sc := .fin
noncomputable def wsATree (k : Nat) (X : List AV) (s : ByteArray) : Tree :=
  (.must (((k + s.data.toList.length) * 1).ble lim && (k + s.data.toList.length).ble lim && ((k * 1).ble (List.map keepP (List.map keepP (List.map keepP X))).length && true) && true)
   (.out (Out.ret (AV.tup [AV.p (PV.sc (Value.int IntKind.i64 (↑s.data.toList.length : Int))), AV.p (PV.sc Value.nilIface)]) [Blk.ob (ObK.gr 83 false) [AV.mp 0 0, AV.ms 2 0 (k + s.data.toList.length) 1 Option.none], Blk.dead, Blk.ob (ObK.gr 5 true) (List.map keepP (List.take (k * 1) (List.map keepP (List.map keepP (List.map keepP X))) ++ List.map AV.p (List.map ofByte s.data.toList)))])))
theorem wsA_tree (k : Nat) (X : List AV) (s : ByteArray) : growF Tryd.prog envP wsAOrc 1000000 68 ([AV.mp 0 0, AV.p (PV.sc (Value.string s))]) ([Blk.ob (ObK.gr 83 false) [AV.mp 0 0, AV.ms 1 0 k 1 Option.none], Blk.ob (ObK.gr 5 true) X]) wsASc = wsATree k X s := by kernel_rfl

/- wsZ: 53 steps -/
noncomputable def wsZOrc : Orc := orcL noCall noLed [] [] [(68, 3, 6)]
def wsZSc : Sc := .fin
noncomputable def wsZTree (b : UInt8) (bs : List UInt8) : Tree :=
  (.must (((0 + (ByteArray.mk (b :: bs).toArray).data.toList.length) * 1).ble lim && (0 + (ByteArray.mk (b :: bs).toArray).data.toList.length).ble lim && true && true)
   (.out (Out.ret (AV.tup [AV.p (PV.sc (Value.int IntKind.i64 (↑(ByteArray.mk (b :: bs).toArray).data.toList.length : Int))), AV.p (PV.sc Value.nilIface)]) [Blk.ob (ObK.gr 83 false) [AV.mp 0 0, AV.ms 1 0 (0 + (ByteArray.mk (b :: bs).toArray).data.toList.length) 1 Option.none], Blk.ob (ObK.gr 5 true) (AV.p (PV.sc (Value.int IntKind.u8 (↑b.toNat : Int))) :: List.map keepP (List.map AV.p (List.map ofByte bs)))])))
theorem wsZ_tree (b : UInt8) (bs : List UInt8) : growF Tryd.prog envP wsZOrc 1000000 68 ([AV.mp 0 0, AV.p (PV.sc (Value.string (ByteArray.mk (b :: bs).toArray)))]) ([Blk.ob (ObK.gr 83 false) [AV.p (PV.sc (Value.pointer Option.none)), AV.os Option.none 0 0 []]]) wsZSc = wsZTree b bs := by kernel_rfl

/- num: 59 steps -/
noncomputable def numOrc (n : Int) (k : Nat) (X : List AV) (s : ByteArray) : Orc := orcL noCall (numL n k X s) [] [] [(67, 0, 0), (68, 3, 6)]
def numSc : Sc := .fin
noncomputable def numTree (n : Int) (k : Nat) (X : List AV) (s : ByteArray) : Tree :=
  (.call ⟨69, [AV.p (PV.sc (Value.int IntKind.i64 n)), AV.p (PV.sc (Value.int IntKind.i64 10))], [], AV.p (PV.sc (Value.string s)), []⟩
  (.must ((1 + s.data.toList.length).ble lim && true && true && true)
   (.must (((k + (ByteArray.mk #[32] ++ s).data.toList.length) * 1).ble lim && (k + (ByteArray.mk #[32] ++ s).data.toList.length).ble lim && ((k * 1).ble (List.map keepP (List.map keepP (List.map keepP (List.map keepP X)))).length && true) && true)
    (.must true
     (.out (Out.ret (AV.tup []) [Blk.ac [AV.mp 1 0], Blk.ob (ObK.gr 83 false) [AV.mp 1 0, AV.ms 3 0 (k + (ByteArray.mk #[32] ++ s).data.toList.length) 1 Option.none], Blk.dead, Blk.ob (ObK.gr 5 true) (List.map keepP (List.map keepP (List.map keepP (List.take (k * 1) (List.map keepP (List.map keepP (List.map keepP (List.map keepP X)))) ++ AV.p (PV.sc (Value.int IntKind.u8 32)) :: List.map AV.p (List.map ofByte ([].append s.data.toList))))))]))))))
theorem num_tree (n : Int) (k : Nat) (X : List AV) (s : ByteArray) : growF Tryd.prog envP (numOrc n k X s) 1000000 67 ([sI IntKind.i64 n, AV.mp 0 0]) ([Blk.ac [AV.mp 1 0], Blk.ob (ObK.gr 83 false) [AV.mp 1 0, AV.ms 2 0 k 1 Option.none], Blk.ob (ObK.gr 5 true) X]) numSc = numTree n k X s := by kernel_rfl


/-- Bytes in a growing list; a builder that has written these, whose list is this block. -/
def btA (l : List UInt8) : List AV := l.map fun c => .p (ofByte c)
abbrev bufB (l : List UInt8) : Blk := .ob (.gr 5 true) (btA l)
abbrev bldB (self b : Nat) (l : List UInt8) : Blk := .ob (.gr 83 false) [.mp self 0, .ms b 0 (btA l).length 1 none]

theorem btA_keep (l : List UInt8) : (btA l).map keepP = btA l := by simp [btA, keepP]
theorem btA_append (a b : List UInt8) : btA a ++ btA b = btA (a ++ b) := by simp [btA]
theorem btA_length (l : List UInt8) : (btA l).length = l.length := by simp [btA]
theorem btA_take (l : List UInt8) : (btA l).take (btA l).length = btA l := List.take_of_length_le (Nat.le_refl _)
theorem btA_of (l : List UInt8) : (l.map ofByte).map AV.p = btA l := by simp [btA]

theorem ws_does (tx bs : List UInt8) (h : tx.length + bs.length ≤ 1000000000000) : Does Tryd.prog envP 68 [.mp 0 0, sS bs] [bldB 0 1 tx, bufB tx] (.tup [sI .i64 bs.length, .p (.sc .nilIface)]) [bldB 0 2 (tx ++ bs), .dead, bufB (tx ++ bs)] := by
  have hlim : lim = 70368744177664 := rfl
  refine does_of_tree names (wsA_tree (btA tx).length (btA tx) ⟨bs.toArray⟩) ?_
  simp only [wsATree, Tree.ok, Nat.mul_one, btA_keep, btA_take]
  refine ⟨by simp [btA_length]; omega, ?_⟩
  rw [btA_of, btA_append, btA_keep, show (btA tx).length + (ByteArray.mk bs.toArray).data.toList.length = (btA (tx ++ bs)).length by simp [btA_length]]

theorem wsZ_does (b : UInt8) (bs : List UInt8) (h : bs.length ≤ 1000000000000) : Does Tryd.prog envP 68 [.mp 0 0, sS (b :: bs)] [.ob (.gr 83 false) [.p (.sc (.pointer none)), .os none 0 0 []]] (.tup [sI .i64 (b :: bs).length, .p (.sc .nilIface)]) [bldB 0 1 (b :: bs), bufB (b :: bs)] := by
  have hlim : lim = 70368744177664 := rfl
  refine does_of_tree names (wsZ_tree b bs) ?_
  simp only [wsZTree, Tree.ok, Nat.mul_one, Nat.zero_add, btA_of, btA_keep]
  refine ⟨by simp; omega, ?_⟩
  rw [show (ByteArray.mk (b :: bs).toArray).data.toList.length = (btA (b :: bs)).length by simp [btA_length]]
  rfl

open Classical in
/-- A number's text. -/
noncomputable def fmtB (n : Int) : List UInt8 := if h : -2147483648 ≤ n ∧ n < 4294967296 then (fmt_does n h.1 h.2).choose else []

theorem fmtB_does {n : Int} (h : -2147483648 ≤ n ∧ n < 4294967296) : (fmtB n).length ≤ 300 ∧ Does Tryd.prog envP 69 [sI .i64 n, sI .i64 10] [] (sS (fmtB n)) [] := by
  unfold fmtB
  rw [dif_pos h]
  exact (fmt_does n h.1 h.2).choose_spec

theorem num_does {n : Int} (hn : -2147483648 ≤ n ∧ n < 4294967296) (tx : List UInt8) (h : tx.length ≤ 1000000000) : Does Tryd.prog envP 67 [sI .i64 n, .mp 0 0] [.ac [.mp 1 0], bldB 1 2 tx, bufB tx] (.tup []) [.ac [.mp 1 0], bldB 1 3 (tx ++ 32 :: fmtB n), .dead, bufB (tx ++ 32 :: fmtB n)] := by
  have hlim : lim = 70368744177664 := rfl
  obtain ⟨hl, hf⟩ := fmtB_does hn
  refine does_of_tree names (num_tree n (btA tx).length (btA tx) ⟨(fmtB n).toArray⟩) ?_
  have e : (ByteArray.mk #[32] ++ ⟨(fmtB n).toArray⟩ : ByteArray).data.toList = 32 :: fmtB n := by simp
  simp only [numTree, Tree.ok, Nat.mul_one, btA_keep, btA_take, e]
  refine ⟨hf, by simp; omega, by simp [btA_length]; omega, (by trivial), ?_⟩
  have e2 : (AV.p (PV.sc (Value.int IntKind.u8 32)) :: List.map AV.p (List.map ofByte ([].append (ByteArray.mk (fmtB n).toArray).data.toList))) = btA (32 :: fmtB n) := by simp [btA]; rfl
  rw [e2, btA_append, btA_keep, btA_keep, btA_keep, show (btA tx).length + (32 :: fmtB n).length = (btA (tx ++ 32 :: fmtB n)).length by simp [btA_length]]
end Go.Proofs.YtjjloibfhgofcaaDoor.N
end

section
namespace Go.Proofs.YtjjloibfhgofcaaDoor.N
open Go Go.Am

abbrev bldX (B : List UInt8 → List AV) (b : Nat) (l : List UInt8) : Blk := .ob (.gr 83 false) [.mp 0 0, .ms b 0 (B l).length 1 none]
abbrev bufX (B : List UInt8 → List AV) (l : List UInt8) : Blk := .ob (.gr 5 true) (B l)
def wC (u1 u2 u3 u4 u5 u6 : Bool) (nb : List UInt8) (F : Int → List UInt8) (W : List PV → List UInt8) (B : List UInt8 → List AV) (f : FuncId) (args : List AV) (m : Mem) : Option (AV × Mem) :=
  cond (Nat.beq f 32) (some (sS nb, m)) (cond (Nat.beq f 63) (some (.agg [sB u1, sB u2, sB u3, sB u4, sB u5, sB u6], m)) (match args, m with
  | [_, .p (.sc (.string z))], [.ob (.gr t q) [x, .ms _ _ _ _ _], .ob (.gr u p) Y] => some (.tup [sI .i64 z.data.toList.length, .p (.sc .nilIface)], [.ob (.gr t q) [x, .ms 2 0 ((Y ++ B z.data.toList).length) 1 none], .dead, .ob (.gr u p) (Y ++ B z.data.toList)])
  | [_, .p (.sc (.string z))], [.ob (.gr t q) [.p _, .os none 0 0 []]] => some (.tup [sI .i64 z.data.toList.length, .p (.sc .nilIface)], [.ob (.gr t q) [.mp 0 0, .ms 1 0 (B z.data.toList).length 1 none], .ob (.gr 5 true) (B z.data.toList)])
  | [.p (.sc (.int _ n)), _], [c, .ob (.gr t q) [x, .ms _ _ _ _ _], .ob (.gr u p) Y] => some (.tup [], [c, .ob (.gr t q) [x, .ms 3 0 ((Y ++ B (32 :: F n)).length) 1 none], .dead, .ob (.gr u p) (Y ++ B (32 :: F n))])
  | [_, .p (.ps _ _ cs)], [.ob (.gr t q) [x, .ms _ _ _ _ _], .ob (.gr u p) Y] => some (.tup [], [.ob (.gr t q) [x, .ms 2 0 ((Y ++ B (W cs)).length) 1 none], .dead, .ob (.gr u p) (Y ++ B (W cs))])
  | _, _ => none))
def wS (_l : List Ins) (_tx : List UInt8) (i : Nat) (op r a b nn : Int) (tg : List Int) (ll le : List Ins) (_nb : List UInt8) (_F : Int → List UInt8) (_W : List PV → List UInt8) (_B : List UInt8 → List AV) : FuncId → Nat → Nat → Option (AV → AV) := shapeAt [(34, 5, 1, aggI op r a b nn tg ll le), (34, 29, 0, sI .i64 ((i + 1 : Nat) : Int)), (34, 17, 3, sI .i64 a), (34, 19, 3, sI .i64 b), (34, 21, 3, sI .i64 nn)]
def wc0 (_l : List Ins) (_tx : List UInt8) (_i : Nat) (_op _r _a _b _nn : Int) (_tg : List Int) (_ll _le : List Ins) (nb : List UInt8) (F : Int → List UInt8) (W : List PV → List UInt8) (B : List UInt8 → List AV) : FuncId → List AV → Mem → Option (AV × Mem) := wC false false false false false false nb F W B
def wcA (_l : List Ins) (_tx : List UInt8) (_i : Nat) (_op _r _a _b _nn : Int) (_tg : List Int) (_ll _le : List Ins) (nb : List UInt8) (F : Int → List UInt8) (W : List PV → List UInt8) (B : List UInt8 → List AV) : FuncId → List AV → Mem → Option (AV × Mem) := wC false false true false false false nb F W B
def wcB (_l : List Ins) (_tx : List UInt8) (_i : Nat) (_op _r _a _b _nn : Int) (_tg : List Int) (_ll _le : List Ins) (nb : List UInt8) (F : Int → List UInt8) (W : List PV → List UInt8) (B : List UInt8 → List AV) : FuncId → List AV → Mem → Option (AV × Mem) := wC false false true true false false nb F W B
def wcN (_l : List Ins) (_tx : List UInt8) (_i : Nat) (_op _r _a _b _nn : Int) (_tg : List Int) (_ll _le : List Ins) (nb : List UInt8) (F : Int → List UInt8) (W : List PV → List UInt8) (B : List UInt8 → List AV) : FuncId → List AV → Mem → Option (AV × Mem) := wC false false false false true false nb F W B
def wcT (_l : List Ins) (_tx : List UInt8) (_i : Nat) (_op _r _a _b _nn : Int) (_tg : List Int) (_ll _le : List Ins) (nb : List UInt8) (F : Int → List UInt8) (W : List PV → List UInt8) (B : List UInt8 → List AV) : FuncId → List AV → Mem → Option (AV × Mem) := wC false false true false false true nb F W B
def wcL (_l : List Ins) (_tx : List UInt8) (_i : Nat) (_op _r _a _b _nn : Int) (_tg : List Int) (_ll _le : List Ins) (nb : List UInt8) (F : Int → List UInt8) (W : List PV → List UInt8) (B : List UInt8 → List AV) : FuncId → List AV → Mem → Option (AV × Mem) := wC true false false false false false nb F W B
def wcI (_l : List Ins) (_tx : List UInt8) (_i : Nat) (_op _r _a _b _nn : Int) (_tg : List Int) (_ll _le : List Ins) (nb : List UInt8) (F : Int → List UInt8) (W : List PV → List UInt8) (B : List UInt8 → List AV) : FuncId → List AV → Mem → Option (AV × Mem) := wC true true false false false false nb F W B
def wtS (_l : List Ins) (_tx : List UInt8) (i : Nat) (_op _r a _b _nn : Int) (_tg : List Int) (_ll _le : List Ins) (_nb : List UInt8) (_F : Int → List UInt8) (_W : List PV → List UInt8) (_B : List UInt8 → List AV) (j : Nat) (t : Int) : FuncId → Nat → Nat → Option (AV → AV) := shapeAt [(34, 29, 0, sI .i64 ((i + 1 : Nat) : Int)), (34, 17, 3, sI .i64 a), (34, 13, 1, .p (.sc (.int .u32 t))), (34, 14, 2, sI .i64 t), (34, 15, 0, sI .i64 ((j + 1 : Nat) : Int))]
def wt (_l : List Ins) (_tx : List UInt8) (_i : Nat) (_op _r _a _b _nn : Int) (_tg : List Int) (_ll _le : List Ins) (nb : List UInt8) (F : Int → List UInt8) (W : List PV → List UInt8) (B : List UInt8 → List AV) (_j : Nat) (_t : Int) : FuncId → List AV → Mem → Option (AV × Mem) := wC false false true false false true nb F W B

/-! The text. -/

/-- An operation's name. -/
def nameB (op : Int) : List UInt8 := (nm op).data.toList

theorem nameB_does (op : Int) : Does Tryd.prog envP 32 [sI .i64 op] [] (sS (nameB op)) [] := by
  rw [nameB, ← sS_of]; exact Does.toP (name_does op)

theorem nameB_len (op : Int) : (nameB op).length ≤ 32 := by
  unfold nameB nm
  split
  · simp
  · rw [List.getD_eq_getElem?_getD]
    cases hj : nmL[op.toNat]? with
    | none => simp
    | some s =>
      have h : nmL.all (fun s => Nat.ble s.data.toList.length 32) = true := by kernel_rfl
      exact Nat.le_of_ble_eq_true (List.all_eq_true.1 h s (List.mem_of_getElem? hj))

mutual
/-- An instruction's text. -/
noncomputable def txtI : Ins → List UInt8
  | .mk op r a b nn tg ll le => nameB op ++ ((if isLi op = true ∧ r = 1 then [32, 105, 51, 50] else []) ++ ((if op = 14 then tg.flatMap (fun t => 32 :: fmtB t) else []) ++ ((if isSt op = true ∨ isWh op = true ∨ op = 14 then 32 :: fmtB a else []) ++ ((if isSt op = true then 32 :: fmtB b else []) ++ ((if op = 65 then 32 :: fmtB nn else []) ++ ([59] ++
      (if isLi op = true then txtL ll ++ ((if op = 4 ∧ le ≠ [] then [101, 108, 115, 101, 59] ++ txtL le else []) ++ [101, 110, 100, 59]) else [])))))))
noncomputable def txtL : List Ins → List UInt8
  | [] => []
  | x :: r => txtI x ++ txtL r
end

theorem fmtB_len (n : Int) : (fmtB n).length ≤ 300 := by
  unfold fmtB
  split
  · rename_i h; exact (fmt_does n h.1 h.2).choose_spec.1
  · simp

theorem tags_len (tg : List Int) : (tg.flatMap (fun t => 32 :: fmtB t)).length ≤ 301 * tg.length := by
  induction tg with
  | nil => simp
  | cons t tg ih =>
    have := fmtB_len t
    simp only [List.flatMap_cons, List.length_append, List.length_cons]; omega

mutual
theorem txtI_len : ∀ x : Ins, (txtI x).length ≤ 1000 * cntI x
  | .mk op r a b nn tg ll le => by
    have h1 := txtL_len ll
    have h2 := txtL_len le
    have h3 := tags_len tg
    have h4 := fmtB_len a
    have h5 := fmtB_len b
    have h6 := fmtB_len nn
    have h7 := nameB_len op
    simp only [txtI, cntI, List.length_append]
    have i1 : (if isLi op = true ∧ r = 1 then ([32, 105, 51, 50] : List UInt8) else []).length ≤ 4 := by split <;> simp
    have i2 : (if op = 14 then tg.flatMap (fun t => 32 :: fmtB t) else []).length ≤ 301 * tg.length := by
      split
      · exact h3
      · simp
    have i3 : (if isSt op = true ∨ isWh op = true ∨ op = 14 then 32 :: fmtB a else []).length ≤ 301 := by split <;> simp; omega
    have i4 : (if isSt op = true then 32 :: fmtB b else []).length ≤ 301 := by split <;> simp; omega
    have i5 : (if op = 65 then 32 :: fmtB nn else []).length ≤ 301 := by split <;> simp; omega
    have i6 : (if op = 4 ∧ le ≠ [] then [101, 108, 115, 101, 59] ++ txtL le else []).length ≤ 5 + (txtL le).length := by split <;> simp; omega
    have i7 : (if isLi op = true then txtL ll ++ ((if op = 4 ∧ le ≠ [] then [101, 108, 115, 101, 59] ++ txtL le else []) ++ [101, 110, 100, 59]) else []).length ≤ (txtL ll).length + (5 + (txtL le).length + 4) := by
      split
      · simp only [List.length_append]; simp only [List.length_cons, List.length_nil] at *; omega
      · simp
    simp only [List.length_cons, List.length_nil] at *
    omega
theorem txtL_len : ∀ l : List Ins, (txtL l).length ≤ 1000 * cntL l
  | [] => by simp [txtL]
  | x :: r => by
    have h1 := txtI_len x
    have h2 := txtL_len r
    simp only [txtL, cntL, List.length_append]; omega
end

theorem txtL_append : ∀ a b : List Ins, txtL (a ++ b) = txtL a ++ txtL b
  | [], _ => rfl
  | x :: a, b => by rw [List.cons_append, txtL, txtL, txtL_append a b, List.append_assoc]

/-- What an operation uses, by its kind. -/
theorem use4 : useV 4 = .agg [sB true, sB true, sB false, sB false, sB false, sB false] := rfl
theorem useLi {op : Int} (h : op = 2 ∨ op = 3) : useV op = .agg [sB true, sB false, sB false, sB false, sB false, sB false] := by rcases h with rfl | rfl <;> rfl
theorem use14 : useV 14 = .agg [sB false, sB false, sB true, sB false, sB false, sB true] := rfl
theorem use65 : useV 65 = .agg [sB false, sB false, sB false, sB false, sB true, sB false] := rfl
theorem useSt {op : Int} (h : isSt op = true) : useV op = .agg [sB false, sB false, sB true, sB true, sB false, sB false] := by
  rcases isSt_iff.1 h with rfl | rfl | rfl | rfl | rfl | rfl | rfl | rfl <;> rfl
theorem useWh {op : Int} (h : isWh op = true) : useV op = .agg [sB false, sB false, sB true, sB false, sB false, sB false] := by
  have : op = 12 ∨ op = 13 ∨ op = 16 ∨ op = 17 ∨ op = 32 ∨ op = 33 ∨ op = 34 ∨ op = 35 ∨ op = 36 := by have := isWh_iff.1 h; omega
  rcases this with rfl | rfl | rfl | rfl | rfl | rfl | rfl | rfl | rfl <;> rfl
theorem useNo {op : Int} (h1 : isLi op = false) (h2 : isSt op = false) (h3 : isWh op = false) (h4 : op ≠ 14) (h5 : op ≠ 65) : useV op = .agg [sB false, sB false, sB false, sB false, sB false, sB false] := by
  have h6 : op ≠ 4 := fun e => by subst e; cases h1
  simp only [useV, h1, h2, h3, h4, h5, h6, decide_false, Bool.or_false]

end Go.Proofs.YtjjloibfhgofcaaDoor.N
end
