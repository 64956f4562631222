import Derived.Shelf.Strings.SlTrimAscii
import Derived.Shelf.Strings.Search3
import Derived.Shelf.Strings.Cut
import Derived.Shelf.Strings.Shaped
import Derived.Shelf.Strings.Trim
import Derived.Shelf.Small.Utf8
import Derived.Shelf.Small.Strs
import Derived.Shelf.Small.Wraps
import Derived.Shelf.Strings.Search1
import Derived.Shelf.Strings.Search2
import Derived.Shelf.LaysM
import Derived.Shelf.Strings.Runes
import Derived.Shelf.Strings.AsciiSet
import Derived.Shelf.Unicode.DecodeSlow
import Derived.Test.YtepacjkacjabbaaGreatDoorProg
import Derived.Test.YtepacjkacjabbaaGreatDoorKAE
import Derived.Lib.IndexMore
import Derived.Lib.SlTrimSet
import Derived.Test.YtepacjkacjabbaaGreatDoorKAH
import Derived.Deep.CutBlock
import Derived.Deep.CutRange
import Derived.Test.YtepacjkacjabbaaGreatDoorKAI
namespace Go.Proofs
open Go.Shelf
def Tryz.lays160_ren : Go.Shelf.Ren := ⟨fun | 160 => 280 | 232 => 301 | 231 => 300 | 227 => 302 | 234 => 304 | 233 => 303 | 236 => 306 | 235 => 305 | 228 => 307 | 271 => 310 | 151 => 309 | 197 => 308 | 120 => 313 | 152 => 312 | 260 => 311 | 137 => 314 | 119 => 315 | 224 => 199 | 225 => 198 | 217 => 197 | 266 => 220 | n => n, fun | 9 => 9 | 4 => 4 | 3 => 3 | 5 => 5 | 117 => 323 | 116 => 322 | 0 => 0 | 124 => 326 | 21 => 21 | 105 => 328 | 46 => 240 | 119 => 332 | 139 => 335 | 138 => 334 | n => n, fun | 3 => 1 | 4 => 2 | n => n⟩
theorem Tryz.lays160 : Go.Proofs.Lays.n160 Tryz.prog Tryz.lays160_ren := {
 mixed := by kernel_rfl
 f119 := Tryz.func315.trans (congrArg some (by kernel_rfl))
 f120 := Tryz.func313.trans (congrArg some (by kernel_rfl))
 f137 := Tryz.func314.trans (congrArg some (by kernel_rfl))
 f151 := Tryz.func309.trans (congrArg some (by kernel_rfl))
 f152 := Tryz.func312.trans (congrArg some (by kernel_rfl))
 f160 := Tryz.func280.trans (congrArg some (by kernel_rfl))
 f197 := Tryz.func308.trans (congrArg some (by kernel_rfl))
 f217 := Tryz.func197.trans (congrArg some (by kernel_rfl))
 f224 := Tryz.func199.trans (congrArg some (by kernel_rfl))
 f225 := Tryz.func198.trans (congrArg some (by kernel_rfl))
 f227 := Tryz.func302.trans (congrArg some (by kernel_rfl))
 f228 := Tryz.func307.trans (congrArg some (by kernel_rfl))
 f231 := Tryz.func300.trans (congrArg some (by kernel_rfl))
 f232 := Tryz.func301.trans (congrArg some (by kernel_rfl))
 f233 := Tryz.func303.trans (congrArg some (by kernel_rfl))
 f234 := Tryz.func304.trans (congrArg some (by kernel_rfl))
 f235 := Tryz.func305.trans (congrArg some (by kernel_rfl))
 f236 := Tryz.func306.trans (congrArg some (by kernel_rfl))
 f260 := Tryz.func311.trans (congrArg some (by kernel_rfl))
 f266 := Tryz.func220.trans (congrArg some (by kernel_rfl))
 f271 := Tryz.func310.trans (congrArg some (by kernel_rfl))
 t0 := Tryz.underlying0
 a0 := Tryz.isAgg0
 z0 := Tryz.sizeOf0
 v0 := Tryz.zeroValue0
 t3 := Tryz.underlying3
 a3 := Tryz.isAgg3
 z3 := Tryz.sizeOf3
 v3 := Tryz.zeroValue3
 t4 := Tryz.underlying4
 a4 := Tryz.isAgg4
 z4 := Tryz.sizeOf4
 v4 := Tryz.zeroValue4
 t5 := Tryz.underlying5
 a5 := Tryz.isAgg5
 z5 := Tryz.sizeOf5
 v5 := Tryz.zeroValue5
 t9 := Tryz.underlying9
 a9 := Tryz.isAgg9
 z9 := Tryz.sizeOf9
 v9 := Tryz.zeroValue9
 t21 := Tryz.underlying21
 a21 := Tryz.isAgg21
 z21 := Tryz.sizeOf21
 v21 := Tryz.zeroValue21
 t46 := Tryz.underlying240
 a46 := Tryz.isAgg240
 z46 := Tryz.sizeOf240
 v46 := Tryz.zeroValue240
 t105 := Tryz.underlying328
 a105 := Tryz.isAgg328
 z105 := Tryz.sizeOf328
 v105 := Tryz.zeroValue328
 t116 := Tryz.underlying322
 a116 := Tryz.isAgg322
 z116 := Tryz.sizeOf322
 t117 := Tryz.underlying323
 a117 := Tryz.isAgg323
 z117 := Tryz.sizeOf323
 v117 := Tryz.zeroValue323
 t119 := Tryz.underlying332
 a119 := Tryz.isAgg332
 z119 := Tryz.sizeOf332
 t124 := Tryz.underlying326
 a124 := Tryz.isAgg326
 z124 := Tryz.sizeOf326
 v124 := Tryz.zeroValue326
 t138 := Tryz.underlying334
 a138 := Tryz.isAgg334
 z138 := Tryz.sizeOf334
 v138 := Tryz.zeroValue334
 t139 := Tryz.underlying335
 a139 := Tryz.isAgg335
 z139 := Tryz.sizeOf335
 v139 := Tryz.zeroValue335
 g3 := by kernel_rfl
 g4 := by kernel_rfl }
def Tryz.lays144_ren : Go.Shelf.Ren := ⟨fun | 144 => 279 | 143 => 299 | 219 => 153 | 217 => 197 | 225 => 198 | 224 => 199 | 267 => 200 | 266 => 220 | 314 => 221 | n => n, fun | 9 => 9 | 4 => 4 | 3 => 3 | 5 => 5 | 46 => 240 | 146 => 260 | 51 => 26 | n => n, fun | 1 => 0 | n => n⟩
theorem Tryz.lays144 : Go.Proofs.Lays.n144 Tryz.prog Tryz.lays144_ren := {
 mixed := by kernel_rfl
 f143 := Tryz.func299.trans (congrArg some (by kernel_rfl))
 f144 := Tryz.func279.trans (congrArg some (by kernel_rfl))
 f217 := Tryz.func197.trans (congrArg some (by kernel_rfl))
 f219 := Tryz.func153.trans (congrArg some (by kernel_rfl))
 f224 := Tryz.func199.trans (congrArg some (by kernel_rfl))
 f225 := Tryz.func198.trans (congrArg some (by kernel_rfl))
 f266 := Tryz.func220.trans (congrArg some (by kernel_rfl))
 f267 := Tryz.func200.trans (congrArg some (by kernel_rfl))
 f314 := Tryz.func221.trans (congrArg some (by kernel_rfl))
 t3 := Tryz.underlying3
 a3 := Tryz.isAgg3
 z3 := Tryz.sizeOf3
 v3 := Tryz.zeroValue3
 t4 := Tryz.underlying4
 a4 := Tryz.isAgg4
 z4 := Tryz.sizeOf4
 v4 := Tryz.zeroValue4
 t5 := Tryz.underlying5
 a5 := Tryz.isAgg5
 z5 := Tryz.sizeOf5
 v5 := Tryz.zeroValue5
 t9 := Tryz.underlying9
 a9 := Tryz.isAgg9
 z9 := Tryz.sizeOf9
 v9 := Tryz.zeroValue9
 t46 := Tryz.underlying240
 a46 := Tryz.isAgg240
 z46 := Tryz.sizeOf240
 v46 := Tryz.zeroValue240
 t51 := Tryz.underlying26
 a51 := Tryz.isAgg26
 z51 := Tryz.sizeOf26
 v51 := Tryz.zeroValue26
 t146 := Tryz.underlying260
 a146 := Tryz.isAgg260
 z146 := Tryz.sizeOf260
 v146 := Tryz.zeroValue260
 g1 := by kernel_rfl }
open Go.RowKit Go.Lib in
theorem Tryz.strings_Contains (s sub : ByteArray) (m : Int) (w : World) (hs : s.size < 4294967281) (hm : w.cell? ⟨0, 0, none⟩ = some (.int .i64 m)) :
   Calls Tryz.prog 279 #[.string s, .string sub] w fun e w' => e = .returned (.bool (Lib.contains s.data.toList sub.data.toList)) ∧ w' = w := Any.strings_Contains Tryz.lays144 s sub m w hs hm
def Tryz.lays145_ren : Go.Shelf.Ren := ⟨fun | 145 => 19 | 220 => 89 | 219 => 153 | 217 => 197 | 225 => 198 | 224 => 199 | 267 => 200 | 266 => 220 | 314 => 221 | n => n, fun | 9 => 9 | 4 => 4 | 59 => 45 | 3 => 3 | 5 => 5 | 46 => 240 | 146 => 260 | 51 => 26 | n => n, fun | 1 => 0 | n => n⟩
theorem Tryz.lays145 : Go.Proofs.Lays.n145 Tryz.prog Tryz.lays145_ren := {
 mixed := by kernel_rfl
 f145 := Tryz.func19.trans (congrArg some (by kernel_rfl))
 f217 := Tryz.func197.trans (congrArg some (by kernel_rfl))
 f219 := Tryz.func153.trans (congrArg some (by kernel_rfl))
 f220 := Tryz.func89.trans (congrArg some (by kernel_rfl))
 f224 := Tryz.func199.trans (congrArg some (by kernel_rfl))
 f225 := Tryz.func198.trans (congrArg some (by kernel_rfl))
 f266 := Tryz.func220.trans (congrArg some (by kernel_rfl))
 f267 := Tryz.func200.trans (congrArg some (by kernel_rfl))
 f314 := Tryz.func221.trans (congrArg some (by kernel_rfl))
 t3 := Tryz.underlying3
 a3 := Tryz.isAgg3
 z3 := Tryz.sizeOf3
 v3 := Tryz.zeroValue3
 t4 := Tryz.underlying4
 a4 := Tryz.isAgg4
 z4 := Tryz.sizeOf4
 v4 := Tryz.zeroValue4
 t5 := Tryz.underlying5
 a5 := Tryz.isAgg5
 z5 := Tryz.sizeOf5
 v5 := Tryz.zeroValue5
 t9 := Tryz.underlying9
 a9 := Tryz.isAgg9
 z9 := Tryz.sizeOf9
 v9 := Tryz.zeroValue9
 t46 := Tryz.underlying240
 a46 := Tryz.isAgg240
 z46 := Tryz.sizeOf240
 v46 := Tryz.zeroValue240
 t51 := Tryz.underlying26
 a51 := Tryz.isAgg26
 z51 := Tryz.sizeOf26
 v51 := Tryz.zeroValue26
 t59 := Tryz.underlying45
 a59 := Tryz.isAgg45
 z59 := Tryz.sizeOf45
 v59 := Tryz.zeroValue45
 t146 := Tryz.underlying260
 a146 := Tryz.isAgg260
 z146 := Tryz.sizeOf260
 v146 := Tryz.zeroValue260
 g1 := by kernel_rfl }
open Go.RowKit Go.Lib in
theorem Tryz.strings_Cut (s sep : ByteArray) (m : Int) (w : World) (hs : s.size < 4294967281) (hm : w.cell? ⟨0, 0, none⟩ = some (.int .i64 m)) :
   Calls Tryz.prog 19 #[.string s, .string sep] w fun e w' => e = .returned (.tuple #[.string ⟨(Lib.cut s.data.toList sep.data.toList).1.toArray⟩, .string ⟨(Lib.cut s.data.toList sep.data.toList).2.1.toArray⟩, .bool (Lib.cut s.data.toList sep.data.toList).2.2]) ∧ ∃ n, w' = w.drewN n := Any.strings_Cut Tryz.lays145 s sep m w hs hm
def Tryz.laysM144_ren : Go.Shelf.Ren := ⟨fun | 144 => 279 | 143 => 299 | 219 => 153 | 217 => 197 | 225 => 198 | 224 => 199 | 267 => 200 | 266 => 220 | 314 => 221 | n => n, fun | 9 => 9 | 4 => 4 | 3 => 3 | 5 => 5 | 46 => 240 | 146 => 260 | 51 => 26 | n => n, fun | 1 => 0 | n => n⟩
theorem Tryz.laysM144 : Go.Proofs.LaysM.n144 Tryz.prog Tryz.laysM144_ren := {
 mixed := by kernel_rfl
 f143 := Tryz.func299.trans (congrArg some (by kernel_rfl))
 f144 := Tryz.func279.trans (congrArg some (by kernel_rfl))
 f217 := Tryz.func197.trans (congrArg some (by kernel_rfl))
 f219 := Tryz.func153.trans (congrArg some (by kernel_rfl))
 f224 := Tryz.func199.trans (congrArg some (by kernel_rfl))
 f225 := Tryz.func198.trans (congrArg some (by kernel_rfl))
 f266 := Tryz.func220.trans (congrArg some (by kernel_rfl))
 f267 := Tryz.func200.trans (congrArg some (by kernel_rfl))
 f314 := Tryz.func221.trans (congrArg some (by kernel_rfl))
 t3 := Tryz.underlying3
 a3 := Tryz.isAgg3
 z3 := Tryz.sizeOf3
 v3 := Tryz.zeroValue3
 t4 := Tryz.underlying4
 a4 := Tryz.isAgg4
 z4 := Tryz.sizeOf4
 v4 := Tryz.zeroValue4
 t5 := Tryz.underlying5
 a5 := Tryz.isAgg5
 z5 := Tryz.sizeOf5
 v5 := Tryz.zeroValue5
 t9 := Tryz.underlying9
 a9 := Tryz.isAgg9
 z9 := Tryz.sizeOf9
 v9 := Tryz.zeroValue9
 t46 := Tryz.underlying240
 a46 := Tryz.isAgg240
 z46 := Tryz.sizeOf240
 v46 := Tryz.zeroValue240
 t51 := Tryz.underlying26
 a51 := Tryz.isAgg26
 z51 := Tryz.sizeOf26
 v51 := Tryz.zeroValue26
 t146 := Tryz.underlying260
 a146 := Tryz.isAgg260
 z146 := Tryz.sizeOf260
 v146 := Tryz.zeroValue260
 g1 := by kernel_rfl
 i3 := by kernel_rfl
 i4 := by kernel_rfl
 i5 := by kernel_rfl
 i9 := by kernel_rfl
 i46 := by kernel_rfl
 i51 := by kernel_rfl
 i146 := by kernel_rfl
 m1 := by kernel_rfl
 s1_3 := fun w h => Go.Proofs.cell_of_shapedOpen_int (zero := #[.int .i64 0]) (t := 3) h (of_decide_eq_true (by kernel_rfl)) (by kernel_rfl) rfl (by kernel_rfl) (by kernel_rfl) Tryz.underlying3 }

end Go.Proofs
namespace Go.Proofs.YtepacjkacjabbaaGreatDoor
open Go
theorem contains_cons (b : UInt8) (l sub : List UInt8) : Lib.contains (b :: l) sub = (sub.isPrefixOf (b :: l) || Lib.contains l sub) := by
 unfold Lib.contains
 rw [Lib.index]
 have := Lib.index_ge l sub
 by_cases h : sub.isPrefixOf (b :: l) = true
 · rw [if_pos h, h]; simp
 · rw [if_neg h, Bool.eq_false_iff.2 h, Bool.false_or]
   by_cases h2 : Lib.index l sub = -1
   · rw [h2]; rfl
   · have : ((Lib.index l sub == -1) = true) = False := by simp [h2]
     simp only [this, if_false]
     apply decide_eq_decide.2
     omega
theorem contains_nil (b : UInt8) (t : List UInt8) : Lib.contains [] (b :: t) = false := rfl
theorem contains_skip (w r t : List UInt8) (c : UInt8) (hw : c ∉ w) : Lib.contains (w ++ r) (c :: t) = Lib.contains r (c :: t) := by
 induction w with
 | nil => rfl
 | cons x w ih =>
   have h1 : c ≠ x := fun e => hw (by rw [e]; exact List.mem_cons_self ..)
   rw [List.cons_append, contains_cons, ih (fun h => hw (List.mem_cons_of_mem _ h))]
   have : (c :: t).isPrefixOf (x :: (w ++ r)) = false := by rw [List.isPrefixOf]; simp [h1]
   rw [this, Bool.false_or]
theorem prefix_word (r : List UInt8) : ∀ (s w : List UInt8), 32 ∉ s → 32 ∉ w → (s ++ [32]).isPrefixOf (w ++ 32 :: r) = decide (w = s)
 | [], [], _, _ => rfl
 | [], x :: w, _, hw => by
   have h1 : (32 : UInt8) ≠ x := fun e => hw (by rw [e]; exact List.mem_cons_self ..)
   simp [List.isPrefixOf, h1]
 | y :: s, [], hs, _ => by
   have h1 : y ≠ 32 := fun e => hs (by rw [e]; exact List.mem_cons_self ..)
   simp [List.isPrefixOf, h1]
 | y :: s, x :: w, hs, hw => by
   have ih := prefix_word r s w (fun h => hs (List.mem_cons_of_mem _ h)) (fun h => hw (List.mem_cons_of_mem _ h))
   rw [List.cons_append, List.cons_append, List.isPrefixOf, ih]
   by_cases h : y = x
   · subst h; simp
   · have h2 : x ≠ y := fun e => h e.symm
     simp [h, h2]
def joinW : List (List UInt8) → List UInt8
 | [] => [32]
 | w :: ws => 32 :: (w ++ joinW ws)
theorem joinW_head : ∀ ws : List (List UInt8), ∃ r, joinW ws = 32 :: r
 | [] => ⟨[], rfl⟩
 | w :: ws => ⟨w ++ joinW ws, rfl⟩
theorem contains_join (s : List UInt8) (hs : 32 ∉ s) : ∀ ws : List (List UInt8), (∀ w ∈ ws, (32 : UInt8) ∉ w) → Lib.contains (joinW ws) (32 :: (s ++ [32])) = ws.any fun w => decide (w = s)
 | [], _ => by
   rw [joinW, contains_cons, contains_nil]
   cases s <;> rfl
 | w :: ws, hw => by
   rw [joinW, contains_cons, contains_skip _ _ _ _ (hw w (List.mem_cons_self ..)), contains_join s hs ws (fun x hx => hw x (List.mem_cons_of_mem _ hx)), List.any_cons]
   obtain ⟨r, hr⟩ := joinW_head ws
   rw [hr, List.isPrefixOf, prefix_word r s w hs (hw w (List.mem_cons_self ..))]
   simp
def wordsB : List (List UInt8) := words.map fun w => w.toUTF8.data.toList
theorem words_clean : ∀ w ∈ wordsB, (32 : UInt8) ∉ w := by decide
theorem dropWhile_nil (f : UInt8 → Bool) : ∀ l : List UInt8, l.dropWhile f = [] ↔ ∀ c ∈ l, f c = true
 | [] => by simp
 | c :: l => by
   rw [List.dropWhile_cons]
   by_cases h : f c = true
   · rw [if_pos h, dropWhile_nil f l]; simp [h]
   · rw [if_neg h]; simp [h]
theorem all_ne (f : String → List UInt8) (s : List UInt8) : ∀ l : List String, (l.all fun w => decide (f w ≠ s)) = !((l.map f).any fun w => decide (w = s))
 | [] => rfl
 | w :: l => by rw [List.all_cons, all_ne f s l, List.map_cons, List.any_cons]; by_cases h : f w = s <;> simp [h]
theorem trimS_nil (l cs : List UInt8) : (Lib.trimS l cs = []) ↔ ∀ c ∈ l, cs.contains c = true := by
 unfold Lib.trimS Lib.trimLeftS Lib.trimRightS
 rw [dropWhile_nil]
 constructor
 · intro h c hc
   cases hd : l.reverse.dropWhile (cs.contains ·) with
   | nil => exact (dropWhile_nil _ _).1 hd c (List.mem_reverse.2 hc)
   | cons x t =>
     have h1 := List.head?_dropWhile_not (cs.contains ·) l.reverse
     rw [hd] at h1
     have h2 := h x (by rw [hd]; simp)
     simp at h1
     rw [List.contains_iff_mem] at h2
     exact absurd h2 h1
 · intro h c hc
   have h1 : l.reverse.dropWhile (cs.contains ·) = [] := (dropWhile_nil _ _).2 fun x hx => h x (List.mem_reverse.1 hx)
   rw [h1] at hc
   cases hc
def signsB : List UInt8 := "abcdefghijklmnopqrstuvwxyz0123456789_".toUTF8.data.toList
set_option maxRecDepth 100000 in
theorem signs_all : ∀ n : Nat, n < 256 → signsB.contains (UInt8.ofNat n) = nameSign (UInt8.ofNat n) := by decide
theorem signs_eq (c : UInt8) : signsB.contains c = nameSign c := by
 have := signs_all c.toNat c.toNat_lt
 rwa [UInt8.ofNat_toNat] at this
def isNameG (s : List UInt8) : Bool :=
 decide (s.length ≤ 16) && (match s with | c :: _ => lower c | [] => false) && !Lib.contains (joinW wordsB) (32 :: (s ++ [32])) && decide (Lib.trimS s signsB = [])
theorem isNameG_eq (s : List UInt8) : isNameG s = isName s := by
 unfold isNameG isName
 have ht : decide (Lib.trimS s signsB = []) = s.all nameSign := by
   rw [Bool.eq_iff_iff, decide_eq_true_iff, trimS_nil, List.all_eq_true]
   constructor <;> intro h c hc <;> have := h c hc <;> rw [signs_eq] at * <;> exact this
 rw [ht]
 by_cases ha : s.all nameSign = true
 · have h32 : (32 : UInt8) ∉ s := fun h => absurd (List.all_eq_true.1 ha 32 h) (by decide)
   rw [contains_join s h32 wordsB words_clean, ha]
   rw [all_ne (fun w => w.toUTF8.data.toList) s words, Bool.and_true, Bool.and_true]
   rfl
 · rw [Bool.eq_false_iff.2 ha]
   simp
theorem cutDot_eq : ∀ s : List UInt8, cutDot s = if (Lib.cut s [46]).2.2 = true then some ((Lib.cut s [46]).1, (Lib.cut s [46]).2.1) else none
 | [] => rfl
 | c :: l => by
   have ih := cutDot_eq l
   have hg := Lib.index_ge l [46]
   rw [cutDot, ih]
   by_cases h : c.toNat = 46
   · have hc : c = 46 := UInt8.toNat.inj h
     subst hc
     have h1 : Lib.index (46 :: l) [46] = 0 := by rw [Lib.index]; rfl
     unfold Lib.cut
     rw [h1]
     simp
   · have hc : c ≠ 46 := fun e => h (by rw [e]; rfl)
     have hp : [46].isPrefixOf (c :: l) = false := by
       have : (46 : UInt8) ≠ c := fun e => hc e.symm
       simp [List.isPrefixOf, this]
     rw [if_neg h]
     unfold Lib.cut
     rw [Lib.index, hp]
     by_cases h2 : Lib.index l [46] = -1
     · simp [h2]
     · obtain ⟨k, hk⟩ : ∃ k : Nat, Lib.index l [46] = k := ⟨(Lib.index l [46]).toNat, by omega⟩
       have h3 : ((k : Int) == -1) = false := by rw [beq_eq_false_iff_ne]; omega
       have h4 : (0 : Int) ≤ (k : Int) + 1 := by omega
       have h5 : ((k : Int) + 1).toNat = k + 1 := by omega
       simp [hk, h3, h4, h5]
end Go.Proofs.YtepacjkacjabbaaGreatDoor
namespace Go.Proofs.YtepacjkacjabbaaGreatDoor
open Go Go.RowKit Go.Maps Go.Lib
def MxAt (W : World) : Prop := ∃ m, W.cell? ⟨0, 0, none⟩ = some (.int .i64 m)
theorem MxAt.below {B : Nat} {W W' : World} (h : MxAt W) (hb : Below B W W') (hB : 0 < B) : MxAt W' := by
 obtain ⟨m, hm⟩ := h
 exact ⟨m, (hb.cell (p := ⟨0, 0, none⟩) hB).trans hm⟩
def signsV : ByteArray := ⟨#[97, 98, 99, 100, 101, 102, 103, 104, 105, 106, 107, 108, 109, 110, 111, 112, 113, 114, 115, 116, 117, 118, 119, 120, 121, 122, 48, 49, 50, 51, 52, 53, 54, 55, 56, 57, 95]⟩
theorem signsV_eq : signsV.data.toList = signsB := by decide
def reservedV : ByteArray := ⟨#[32, 100, 101, 118, 105, 99, 101, 32, 119, 105, 100, 116, 104, 32, 105, 110, 112, 117, 116, 32, 103, 104, 111, 115, 116, 32, 118, 97, 114, 32, 97, 114, 114, 97, 121, 32, 114, 101, 113, 117, 105, 114, 101, 32, 105, 110, 105, 116, 32, 112, 114, 111, 99, 32, 119, 111, 114, 107, 32, 114, 101, 99, 111, 118, 101, 114, 32, 105, 110, 118, 97, 114, 105, 97, 110, 116, 32, 102, 108, 117, 115, 104, 32, 98, 97, 114, 114, 105, 101, 114, 32, 119, 114, 105, 116, 101, 32, 105, 102, 32, 101, 108, 115, 101, 32, 119, 104, 105, 108, 101, 32, 98, 111, 117, 110, 100, 32, 99, 97, 108, 108, 32, 100, 105, 115, 107, 32]⟩
theorem reservedV_eq : reservedV.data.toList = joinW wordsB := by decide
theorem isEmpty_data (t : ByteArray) : t.toList.isEmpty = t.data.toList.isEmpty := by rw [ByteArray.toList_eq]
theorem spaced (s : ByteArray) : (({ data := #[32] } : ByteArray) ++ s ++ { data := #[32] }).data.toList = 32 :: (s.data.toList ++ [32]) := by simp
set_option maxRecDepth 100000 in
set_option maxHeartbeats 2000000 in
theorem isName_any (w : World) (s : ByteArray) (hs : s.size ≤ 4294967200) (hmx : MxAt w) :
   Calls Tryz.prog 272 #[.string s] w fun o w' => o = .returned (.bool (isName s.data.toList)) ∧ Below w.heap.size w w' := by
 obtain ⟨m, hm⟩ := hmx
 have hT := Any.strings_Trim_laid Tryz.lays160 (by kernel_rfl) s signsV w (by omega) (by decide) (ascii_of_all (by decide))
 have hC := Tryz.strings_Contains reservedV ({ data := #[32] } ++ s ++ { data := #[32] }) m w (by decide) hm
 rw [reservedV_eq, spaced] at hC
 rw [signsV_eq] at hT
 have hem := isEmpty_data s
 have hsz : s.size = s.data.toList.length := by simp
 have hG := isNameG_eq s.data.toList
 unfold isNameG at hG
 rw [← hG]
 clear hG hm
 obtain ⟨tr, htr⟩ : ∃ tr, Lib.trimS s.data.toList signsB = tr := ⟨_, rfl⟩
 rw [htr] at hT ⊢
 obtain ⟨ct, hct⟩ : ∃ ct, Lib.contains (joinW wordsB) (32 :: (s.data.toList ++ [32])) = ct := ⟨_, rfl⟩
 rw [hct] at hC ⊢
 have HC := Lib.hid hC
 have HT := Lib.hid hT
 unfold reservedV at HC
 unfold signsV at HT
 clear hC hT htr hct
 cases hL : s.data.toList with
 | nil =>
   rw [hL] at hem hsz
   have hem2 : s.toList.isEmpty = true := hem
   clear hem HC HT hL
   go_enter Tryz.func272, Tryz.ntmps272
   go_wp2_with fail
   go_ret
   exact ⟨by simp, Below.refl _ _⟩
 | cons c r =>
   rw [hL] at hem hsz
   have hem2 : s.toList.isEmpty = false := hem
   have h0 : 0 < s.size := by rw [hsz]; simp
   have hc0 : s[0]'h0 = c := by
     show s.data[0] = c
     rw [← Array.getElem_toList]
     simp only [hL, List.getElem_cons_zero]
   have HSZ := Lib.hid hsz
   clear hem hsz hL
   by_cases h16 : s.size ≤ 16
   · have hd16 : decide ((16 : Int) < (s.size : Int)) = false := decide_eq_false (by omega)
     have hr16 : decide ((c :: r).length ≤ 16) = true := decide_eq_true (by rw [← HSZ.out]; exact h16)
     rw [hr16]
     have hca : (s[0]'h0).toNat = c.toNat := by rw [hc0]
     obtain ⟨k, hk⟩ : ∃ k, c.toNat = k := ⟨_, rfl⟩
     have hlw : lower c = decide (97 ≤ k ∧ k ≤ 122) := by unfold lower; rw [hk]
     rw [hk] at hca
     dsimp only
     rw [hlw]
     clear hlw hk hc0
     by_cases h97 : k < 97
     · have hd97 : decide ((k : Int) < 97) = true := decide_eq_true (by omega)
       have hres : decide (97 ≤ k ∧ k ≤ 122) = false := decide_eq_false (by omega)
       rw [hres]
       clear hres HC HT
       go_enter Tryz.func272, Tryz.ntmps272
       go_wp2_with fail
       go_ret
       exact ⟨by simp, Below.refl _ _⟩
     · have hd97 : decide ((k : Int) < 97) = false := decide_eq_false (by omega)
       by_cases h122 : 122 < k
       · have hd122 : decide ((122 : Int) < (k : Int)) = true := decide_eq_true (by omega)
         have hres : decide (97 ≤ k ∧ k ≤ 122) = false := decide_eq_false (by omega)
         rw [hres]
         clear hres HC HT
         go_enter Tryz.func272, Tryz.ntmps272
         go_wp2_with fail
         go_ret
         exact ⟨by simp, Below.refl _ _⟩
       · have hd122 : decide ((122 : Int) < (k : Int)) = false := decide_eq_false (by omega)
         have hres : decide (97 ≤ k ∧ k ≤ 122) = true := decide_eq_true (by omega)
         rw [hres]
         clear hres
         cases ct with
         | true =>
           clear HT
           go_enter Tryz.func272, Tryz.ntmps272
           go_wp2_with (first | (go_at_call 279; refine HC.out.mono ?_; rintro o2 w2 ⟨rfl, rfl⟩) | fail)
           go_ret
           exact ⟨by simp, Below.refl _ _⟩
         | false =>
           have hte := isEmpty_data ⟨tr.toArray⟩
           cases htt : tr.isEmpty
           all_goals
             have hte2 : (ByteArray.mk tr.toArray).toList.isEmpty = _ := hte.trans htt
             have HTT := Lib.hid htt
             clear hte htt
             go_enter Tryz.func272, Tryz.ntmps272
             go_wp2_with (first | (go_at_call 279; refine HC.out.mono ?_; rintro o2 w2 ⟨rfl, rfl⟩) | (go_at_call 280; refine HT.out.mono ?_; rintro o3 w3 ⟨rfl, hb3⟩) | fail)
             go_ret
             exact ⟨by have h := HTT.out; cases tr <;> simp at h ⊢, hb3⟩
   · have hd16 : decide ((16 : Int) < (s.size : Int)) = true := decide_eq_true (by omega)
     have hr16 : decide ((c :: r).length ≤ 16) = false := decide_eq_false (by rw [← HSZ.out]; exact h16)
     rw [hr16]
     clear HC HT
     go_enter Tryz.func272, Tryz.ntmps272
     go_wp2_with fail
     go_ret
     exact ⟨by simp, Below.refl _ _⟩
theorem cut_size (s sep : List UInt8) : (Lib.cut s sep).1.length ≤ s.length ∧ (Lib.cut s sep).2.1.length ≤ s.length := by
 unfold Lib.cut
 split
 · simp; omega
 · simp
set_option maxRecDepth 1000000 in
set_option maxHeartbeats 2000000 in
theorem name_check {K : CkE} {pm : Option Nat} {E : Env} {n : Int} {over : Bool} (w : World) (hk : Ckr K pm E n over w) (s : ByteArray) (hs : s.size ≤ 4294967200) (hmx : MxAt w) :
   Calls Tryz.prog 255 #[.pointer (some ⟨K.q, 0, none⟩), .string s] w fun o w' => o = .returned (.bool (nameB K.p s.data.toList)) ∧ Below w.heap.size w w' := by
 have hmx2 := hmx
 obtain ⟨m, hm⟩ := hmx
 have hC := Tryz.strings_Cut s ⟨#[46]⟩ m w (by omega) hm
 have h46 : (⟨#[46]⟩ : ByteArray).data.toList = [46] := rfl
 rw [h46] at hC
 have hcd := cutDot_eq s.data.toList
 obtain ⟨hl1, hl2⟩ := cut_size s.data.toList [46]
 have hsz : s.data.toList.length = s.size := by simp
 have hnb : nameB K.p s.data.toList = if (Lib.cut s.data.toList [46]).2.2 = true then (if K.p.procs.length = 0 then isName (Lib.cut s.data.toList [46]).1 && isName (Lib.cut s.data.toList [46]).2.1 else isName s.data.toList) else isName s.data.toList := by
   unfold nameB
   rw [hcd]
   split
   · rename_i h; split at h
     · rename_i h2; rw [if_pos h2]; cases h; rfl
     · cases h
   · rename_i h; split at h
     · cases h
     · rename_i h2; rw [if_neg h2]
 rw [hnb]
 clear hcd hnb hm h46
 generalize (Lib.cut s.data.toList [46]).1 = a at *
 generalize (Lib.cut s.data.toList [46]).2.1 = b at *
 generalize (Lib.cut s.data.toList [46]).2.2 = two at *
 have hk0 := hk.new (W' := w) (Below.refl _ _)
 have HNX : Hid (∀ (t : ByteArray) (W : World), t.size ≤ s.size → Below w.heap.size w W → Calls Tryz.prog 272 #[.string t] W fun o w' => o = .returned (.bool (isName t.data.toList)) ∧ Below W.heap.size W w') := Lib.hid fun t W ht hW =>
   isName_any W t (by omega) (hmx2.below hW (by have := hk.lt; have := hk.q; have := hk.n0; omega))
 have ha : (⟨a.toArray⟩ : ByteArray).size ≤ s.size := by show a.toArray.size ≤ _; simp; omega
 have hb : (⟨b.toArray⟩ : ByteArray).size ≤ s.size := by show b.toArray.size ≤ _; simp; omega
 have HA := Lib.hid ha
 have HB := Lib.hid hb
 have HC := Lib.hid hC
 have HK := Lib.hid hk
 have hpl := hk.prog.prow.few
 clear hk hk0 ha hb hl1 hl2 hsz hC hs hmx2
 have hea : (⟨a.toArray⟩ : ByteArray).data.toList = a := by simp
 have heb : (⟨b.toArray⟩ : ByteArray).data.toList = b := by simp
 generalize (⟨a.toArray⟩ : ByteArray) = ab at *
 generalize (⟨b.toArray⟩ : ByteArray) = bb at *
 subst hea heb
 have hbd : ∀ n, Below w.heap.size w (w.drewN n) := fun n => ⟨rfl, rfl, rfl, Nat.le_refl _, fun _ _ => rfl⟩
 have HBD := Lib.hid hbd
 clear hbd
 have c13 := HK.out.c13
 cases two with
 | false =>
   go_enter Tryz.func255, Tryz.ntmps255
   go_wp2_with (first | (go_at_call 19; refine HC.out.mono ?_; rintro o2 w2 ⟨rfl, nq, rfl⟩) | (go_at_call 272; refine (HNX.out s _ (Nat.le_refl _) (HBD.out nq)).mono ?_; rintro o3 w3 ⟨rfl, hb3⟩) | fail)
   go_ret
   exact ⟨rfl, (HBD.out nq).trans (hb3.mono (Nat.le_refl _))⟩
 | true =>
   by_cases hp : K.p.procs.length = 0
   · have hz : ((K.p.procs.length : Int) == 0) = true := beq_iff_eq.2 (by omega)
     have hzd : decide (K.p.procs.length = 0) = true := decide_eq_true hp
     rw [if_pos rfl, if_pos hp]
     clear hp
     cases hia : isName ab.data.toList with
     | true =>
       have HIA := Lib.hid hia
       clear hia
       go_enter Tryz.func255, Tryz.ntmps255
       go_upto_region 3 with (first | (go_at_call 19; refine HC.out.mono ?_; rintro o2 w2 ⟨rfl, nq, rfl⟩) | fail)
       have HN1 := Lib.hid (HNX.out ab _ HA.out (HBD.out nq))
       rw [HIA.out] at HN1
       clear c13
       go_wp2_with (first | (go_at_call 272; refine HN1.out.mono ?_; clear HN1; rintro o3 w3 ⟨rfl, hb3⟩; have HB3 := Lib.hid hb3; have HN2 := Lib.hid (HNX.out bb w3 HB.out ((HBD.out nq).trans (hb3.mono (Nat.le_refl _)))); clear hb3) | (go_at_call 272; refine HN2.out.mono ?_; rintro o4 w4 ⟨rfl, hb4⟩) | fail)
       go_ret
       have h3 : w.heap.size ≤ w3.heap.size := HB3.out.size
       have h03 : Below w.heap.size w w3 := (HBD.out nq).trans HB3.out
       exact ⟨by rw [Bool.true_and]; rfl, h03.trans (hb4.mono h3)⟩
     | false =>
       have HIA := Lib.hid hia
       clear hia
       go_enter Tryz.func255, Tryz.ntmps255
       go_upto_region 3 with (first | (go_at_call 19; refine HC.out.mono ?_; rintro o2 w2 ⟨rfl, nq, rfl⟩) | fail)
       have HN1 := Lib.hid (HNX.out ab _ HA.out (HBD.out nq))
       rw [HIA.out] at HN1
       go_wp2_with (first | (go_at_call 272; refine HN1.out.mono ?_; rintro o3 w3 ⟨rfl, hb3⟩) | fail)
       go_ret
       exact ⟨by rw [Bool.false_and]; rfl, (HBD.out nq).trans (hb3.mono (Nat.le_refl _))⟩
   · have hz : ((K.p.procs.length : Int) == 0) = false := beq_eq_false_iff_ne.2 (by omega)
     have hzd : decide (K.p.procs.length = 0) = false := decide_eq_false hp
     rw [if_pos rfl, if_neg hp]
     clear hp
     go_enter Tryz.func255, Tryz.ntmps255
     go_wp2_with (first | (go_at_call 19; refine HC.out.mono ?_; rintro o2 w2 ⟨rfl, nq, rfl⟩) | (go_at_call 272; refine (HNX.out s _ (Nat.le_refl _) (HBD.out nq)).mono ?_; rintro o3 w3 ⟨rfl, hb3⟩) | fail)
     go_ret
     exact ⟨rfl, (HBD.out nq).trans (hb3.mono (Nat.le_refl _))⟩
end Go.Proofs.YtepacjkacjabbaaGreatDoor
namespace Go.Proofs.YtepacjkacjabbaaGreatDoor
open Go Go.RowKit
def opNames : List ByteArray := [⟨#[]⟩, ⟨#[126]⟩, ⟨#[45]⟩, ⟨#[43]⟩, ⟨#[45]⟩, ⟨#[42]⟩, ⟨#[47]⟩, ⟨#[37]⟩, ⟨#[38]⟩, ⟨#[124]⟩, ⟨#[94]⟩, ⟨#[60, 60]⟩, ⟨#[62, 62]⟩, ⟨#[61, 61]⟩, ⟨#[33, 61]⟩, ⟨#[60]⟩, ⟨#[60, 61]⟩]
def opName (k : Nat) : ByteArray := opNames.getD k ⟨#[]⟩
def opRank (k : Nat) : Int := [0, 0, 0, 5, 5, 6, 6, 6, 2, 1, 1, 4, 4, 3, 3, 3, 3].getD k 0
def opFn (k : Nat) : Value := tabCells.getD (k * 4 + 3) undef
theorem upto16 {p : Nat → Prop} (k : Nat) (h : k ≤ 16) (h0 : p 0) (h1 : p 1) (h2 : p 2) (h3 : p 3) (h4 : p 4) (h5 : p 5) (h6 : p 6) (h7 : p 7) (h8 : p 8) (h9 : p 9) (h10 : p 10) (h11 : p 11) (h12 : p 12) (h13 : p 13) (h14 : p 14) (h15 : p 15) (h16 : p 16) : p k := by
 rcases (show k = 0 ∨ k = 1 ∨ k = 2 ∨ k = 3 ∨ k = 4 ∨ k = 5 ∨ k = 6 ∨ k = 7 ∨ k = 8 ∨ k = 9 ∨ k = 10 ∨ k = 11 ∨ k = 12 ∨ k = 13 ∨ k = 14 ∨ k = 15 ∨ k = 16 by omega) with rfl | rfl | rfl | rfl | rfl | rfl | rfl | rfl | rfl | rfl | rfl | rfl | rfl | rfl | rfl | rfl | rfl <;> assumption
theorem tab_name (k : Nat) (h : k ≤ 16) : tabCells[k * 4]? = some (.string (opName k)) := by
 refine upto16 (p := fun k => tabCells[k * 4]? = some (.string (opName k))) k h ?_ ?_ ?_ ?_ ?_ ?_ ?_ ?_ ?_ ?_ ?_ ?_ ?_ ?_ ?_ ?_ ?_ <;> rfl
theorem opName_empty (k : Nat) (h : k ≤ 16) : (opName k).toList.isEmpty = decide (k = 0) := by
 refine upto16 (p := fun k => (opName k).toList.isEmpty = decide (k = 0)) k h ?_ ?_ ?_ ?_ ?_ ?_ ?_ ?_ ?_ ?_ ?_ ?_ ?_ ?_ ?_ ?_ ?_ <;> (rw [ByteArray.toList_eq]; rfl)
theorem tab_index (k : Nat) (h : k ≤ 16) (w : World) : (Instr.index 311 (.agg tabCells) (.int .u8 (k : Int))).run Tryz.prog w = .ok (.agg #[.string (opName k), .int .i64 (opRank k), .bool (opTruth (k : Int)), opFn k]) w := by
 refine upto16 (p := fun k => (Instr.index 311 (.agg tabCells) (.int .u8 (k : Int))).run Tryz.prog w = .ok (.agg #[.string (opName k), .int .i64 (opRank k), .bool (opTruth (k : Int)), opFn k]) w) k h ?_ ?_ ?_ ?_ ?_ ?_ ?_ ?_ ?_ ?_ ?_ ?_ ?_ ?_ ?_ ?_ ?_ <;> kernel_rfl
theorem tab_rank (k : Nat) (h : k ≤ 16) (w : World) : (Instr.field 310 (.agg #[.string (opName k), .int .i64 (opRank k), .bool (opTruth (k : Int)), opFn k]) 1).run Tryz.prog w = .ok (.int .i64 (opRank k)) w := by
 refine upto16 (p := fun k => (Instr.field 310 (.agg #[.string (opName k), .int .i64 (opRank k), .bool (opTruth (k : Int)), opFn k]) 1).run Tryz.prog w = .ok (.int .i64 (opRank k)) w) k h ?_ ?_ ?_ ?_ ?_ ?_ ?_ ?_ ?_ ?_ ?_ ?_ ?_ ?_ ?_ ?_ ?_ <;> kernel_rfl
theorem tab_truth (k : Nat) (h : k ≤ 16) (w : World) : (Instr.field 310 (.agg #[.string (opName k), .int .i64 (opRank k), .bool (opTruth (k : Int)), opFn k]) 2).run Tryz.prog w = .ok (.bool (opTruth (k : Int))) w := by
 refine upto16 (p := fun k => (Instr.field 310 (.agg #[.string (opName k), .int .i64 (opRank k), .bool (opTruth (k : Int)), opFn k]) 2).run Tryz.prog w = .ok (.bool (opTruth (k : Int))) w) k h ?_ ?_ ?_ ?_ ?_ ?_ ?_ ?_ ?_ ?_ ?_ ?_ ?_ ?_ ?_ ?_ ?_ <;> kernel_rfl
set_option maxRecDepth 1000000 in
set_option maxHeartbeats 2000000 in
theorem name_some (k : Nat) (h : k ≤ 16) (w : World) : Calls Tryz.prog 273 #[.int .u8 (k : Int)] w fun o w' => o = .returned (.string (opName k)) ∧ Below w.heap.size w w' := by
 have hb : Below w.heap.size w (w.alloc (.cells tabCells 311)) := (Below.refl _ _).alloc (Nat.le_refl _) _
 have hT := table_any w
 have hc : ∀ w1 : World, (w1.alloc (.cells tabCells 311)).cell? ⟨w1.heap.size, k * 4, none⟩ = some (.string (opName k)) := fun w1 => (cell_of_row _ _ _ _ _ _ (heap_alloc_last w1 _)).trans (tab_name k h)
 have h0 : (0 : Int) ≤ (k : Int) := by omega
 have h1 : decide (17 ≤ (k : Int)) = false := decide_eq_false (by omega)
 have h1' : decide (17 ≤ k) = false := decide_eq_false (by omega)
 have h2 : (k : Int) < 17 := by omega
 have HT := Lib.hid hT
 have HB := Lib.hid hb
 clear hT hb
 go_enter Tryz.func273, Tryz.ntmps273
 go_wp2_with fail
 refine HT.out.mono ?_
 rintro o w1 ⟨rfl, rfl⟩
 have hcc := hc (w.alloc (.cells tabCells 311))
 have HB2 := Lib.hid (HB.out.alloc HB.out.size (.cells tabCells 311))
 clear hc
 generalize w.alloc (.cells tabCells 311) = w1 at *
 go_wp2_with (first
   | (refine wpList_allocRow (t := 311) rfl rfl (run_zeroTab _) ?_)
   | (refine wpList_storeNew (t := 311) rfl _ _ rfl rfl rfl tab_info (by kernel_rfl) tab_one ?_)
   | fail)
 go_ret
 exact ⟨rfl, HB2.out⟩
set_option maxRecDepth 1000000 in
set_option maxHeartbeats 2000000 in
theorem name_none (k : Nat) (h : 17 ≤ k) (h' : k ≤ 255) (w : World) : Calls Tryz.prog 273 #[.int .u8 (k : Int)] w fun o w' => o = .returned (.string ⟨#[]⟩) ∧ Below w.heap.size w w' := by
 have hb : Below w.heap.size w (w.alloc (.cells tabCells 311)) := (Below.refl _ _).alloc (Nat.le_refl _) _
 have hT := table_any w
 have h0 : (0 : Int) ≤ (k : Int) := by omega
 have h1 : decide (17 ≤ (k : Int)) = true := decide_eq_true (by omega)
 have h1' : decide (17 ≤ k) = true := decide_eq_true (by omega)
 have h2 : (k : Int) < 256 := by omega
 have HT := Lib.hid hT
 have HB := Lib.hid hb
 clear hT hb
 go_enter Tryz.func273, Tryz.ntmps273
 go_wp2_with fail
 refine HT.out.mono ?_
 rintro o w1 ⟨rfl, rfl⟩
 have HB2 := Lib.hid (HB.out.alloc HB.out.size (.cells tabCells 311))
 generalize w.alloc (.cells tabCells 311) = w1 at *
 go_wp2_with (first
   | (refine wpList_allocRow (t := 311) rfl rfl (run_zeroTab _) ?_)
   | (refine wpList_storeNew (t := 311) rfl _ _ rfl rfl rfl tab_info (by kernel_rfl) tab_one ?_)
   | fail)
 go_ret
 exact ⟨rfl, HB2.out⟩
def opText (k : Nat) : ByteArray := if k ≤ 16 then opName k else ⟨#[]⟩
theorem name_any (k : Nat) (h : k ≤ 255) (w : World) : Calls Tryz.prog 273 #[.int .u8 (k : Int)] w fun o w' => o = .returned (.string (opText k)) ∧ Below w.heap.size w w' := by
 by_cases hk : k ≤ 16
 · rw [opText, if_pos hk]; exact name_some k hk w
 · rw [opText, if_neg hk]; exact name_none k (by omega) h w
theorem opText_empty (k : Nat) : (opText k).toList.isEmpty = !opOk (k : Int) := by
 unfold opText
 by_cases hk : k ≤ 16
 · rw [if_pos hk, opName_empty k hk, opOk]
   by_cases h0 : k = 0
   · subst h0; rfl
   · rw [decide_eq_false h0, decide_eq_true (by omega : 1 ≤ (k : Int) ∧ (k : Int) ≤ 16)]; rfl
 · rw [if_neg hk, opOk, decide_eq_false (by omega : ¬ (1 ≤ (k : Int) ∧ (k : Int) ≤ 16)), ByteArray.toList_eq]; rfl
set_option maxRecDepth 1000000 in
set_option maxHeartbeats 2000000 in
theorem rank_any (k : Nat) (h : k ≤ 255) (w : World) : Calls Tryz.prog 281 #[.int .u8 (k : Int)] w fun o w' => o = .returned (.int .i64 (if opOk (k : Int) = true then opRank k else 0)) ∧ Below w.heap.size w w' := by
 have HN := Lib.hid (name_any k h w)
 have hE := opText_empty k
 cases ho : opOk (k : Int) with
 | false =>
   rw [ho] at hE
   have hE' : (opText k).toList = [] := by simpa using hE
   generalize opText k = s at *
   go_enter Tryz.func281, Tryz.ntmps281
   go_wp2_with fail
   refine HN.out.mono ?_
   rintro o w1 ⟨rfl, hb1⟩
   have HB1 := Lib.hid hb1
   clear hb1
   go_wp2_with fail
   go_ret
   exact ⟨by simp, HB1.out⟩
 | true =>
   rw [ho] at hE
   have hk : k ≤ 16 := by have := of_decide_eq_true ho; omega
   have hE' : (!(opText k).toList.isEmpty) = true := by rw [hE]; rfl
   simp only [Bool.not_true] at hE
   have hT := fun W => table_any W
   have hI := tab_index k hk
   have hF := tab_rank k hk
   generalize opText k = s at *
   have HT := Lib.hid hT
   clear hT
   go_enter Tryz.func281, Tryz.ntmps281
   go_wp2_with fail
   refine HN.out.mono ?_
   rintro o w1 ⟨rfl, hb1⟩
   have HB1 := Lib.hid hb1
   clear hb1
   go_wp2_with fail
   refine (HT.out _).mono ?_
   rintro o w2 ⟨rfl, rfl⟩
   have HB2 := Lib.hid (HB1.out.alloc HB1.out.size (.cells tabCells 311))
   generalize w1.alloc (.cells tabCells 311) = w2 at *
   go_wp2_with fail
   go_ret
   exact ⟨by simp, HB2.out⟩
theorem opRank_two (k : Nat) : decide ((0 : Int) < (if opOk (k : Int) = true then opRank k else 0)) = opTwo (k : Int) := by
 by_cases hk : k ≤ 16
 · refine upto16 (p := fun k => decide ((0 : Int) < (if opOk (k : Int) = true then opRank k else 0)) = opTwo (k : Int)) k hk ?_ ?_ ?_ ?_ ?_ ?_ ?_ ?_ ?_ ?_ ?_ ?_ ?_ ?_ ?_ ?_ ?_ <;> rfl
 · rw [opOk, decide_eq_false (by omega : ¬ (1 ≤ (k : Int) ∧ (k : Int) ≤ 16)), opTwo, decide_eq_false (by omega : ¬ (3 ≤ (k : Int) ∧ (k : Int) ≤ 16))]; rfl
set_option maxRecDepth 1000000 in
theorem two_any (k : Nat) (h : k ≤ 255) (w : World) : Calls Tryz.prog 274 #[.int .u8 (k : Int)] w fun o w' => o = .returned (.bool (opTwo (k : Int))) ∧ Below w.heap.size w w' := by
 have HN := Lib.hid (rank_any k h w)
 have hE := opRank_two k
 rw [← hE]
 clear hE
 generalize (if opOk (k : Int) = true then opRank k else 0) = r at *
 go_enter Tryz.func274, Tryz.ntmps274
 go_wp2_with fail
 refine HN.out.mono ?_
 rintro o w1 ⟨rfl, hb1⟩
 have HB1 := Lib.hid hb1
 clear hb1
 go_wp2_with fail
 go_ret
 exact ⟨rfl, HB1.out⟩
def OpW (w : World) (r : Int) (o : Ending) (w' : World) : Prop := ∃ er : Int, o = .returned (.tuple #[.int .i64 r, .int .i64 er]) ∧ Below w.heap.size w w'
set_option maxRecDepth 1000000 in
set_option maxHeartbeats 2000000 in
theorem opWidth_any (k : Nat) (h : k ≤ 255) (n : Int) (w : World) : Calls Tryz.prog 261 #[.int .u8 (k : Int), .int .i64 n] w (OpW w (opWidth (k : Int) n)) := by
 have HN := Lib.hid (name_any k h w)
 have hE := opText_empty k
 unfold opWidth
 cases ho : opOk (k : Int) with
 | false =>
   rw [ho] at hE
   have hE' : (opText k).toList = [] := by simpa using hE
   generalize opText k = s at *
   go_enter Tryz.func261, Tryz.ntmps261
   go_wp2_with fail
   refine HN.out.mono ?_
   rintro o w1 ⟨rfl, hb1⟩
   have HB1 := Lib.hid hb1
   clear hb1
   go_wp2_with fail
   go_returns
   exact ⟨_, rfl, HB1.out⟩
 | true =>
   rw [ho] at hE
   have hk : k ≤ 16 := by have := of_decide_eq_true ho; omega
   have hE' : (!(opText k).toList.isEmpty) = true := by rw [hE]; rfl
   simp only [Bool.not_true] at hE
   have hM := fun W => most_any n W
   generalize opText k = s at *
   have HM := Lib.hid hM
   clear hM
   cases hw : wideW n with
   | false =>
     have e2 : mostE n = 220 := by simp [mostE, hw]
     rw [e2] at HM
     generalize mostW n = mw at *
     go_enter Tryz.func261, Tryz.ntmps261
     go_wp2_with fail
     refine HN.out.mono ?_
     rintro o w1 ⟨rfl, hb1⟩
     have HB1 := Lib.hid hb1
     clear hb1
     go_wp2_with fail
     refine (HM.out _).mono ?_
     rintro o w2 ⟨rfl, rfl⟩
     go_wp2_with fail
     go_returns
     exact ⟨_, rfl, HB1.out⟩
   | true =>
     have e2 : mostE n = 0 := by simp [mostE, hw]
     rw [e2] at HM
     generalize mostW n = mw at *
     have hI := tab_index k hk
     have hF := tab_truth k hk
     have hT := fun W => table_any W
     have HT := Lib.hid hT
     clear hT
     cases ht : opTruth (k : Int) with
     | false =>
       simp only [ht] at hI hF
       go_enter Tryz.func261, Tryz.ntmps261
       go_wp2_with fail
       refine HN.out.mono ?_
       rintro o w1 ⟨rfl, hb1⟩
       have HB1 := Lib.hid hb1
       clear hb1
       go_wp2_with fail
       refine (HM.out _).mono ?_
       rintro o w2 ⟨rfl, rfl⟩
       go_wp2_with fail
       refine (HT.out _).mono ?_
       rintro o w2 ⟨rfl, rfl⟩
       have HB2 := Lib.hid (HB1.out.alloc HB1.out.size (.cells tabCells 311))
       generalize w1.alloc (.cells tabCells 311) = w2 at *
       go_wp2_with fail
       go_returns
       exact ⟨_, rfl, HB2.out⟩
     | true =>
       simp only [ht] at hI hF
       go_enter Tryz.func261, Tryz.ntmps261
       go_wp2_with fail
       refine HN.out.mono ?_
       rintro o w1 ⟨rfl, hb1⟩
       have HB1 := Lib.hid hb1
       clear hb1
       go_wp2_with fail
       refine (HM.out _).mono ?_
       rintro o w2 ⟨rfl, rfl⟩
       go_wp2_with fail
       refine (HT.out _).mono ?_
       rintro o w2 ⟨rfl, rfl⟩
       have HB2 := Lib.hid (HB1.out.alloc HB1.out.size (.cells tabCells 311))
       generalize w1.alloc (.cells tabCells 311) = w2 at *
       go_wp2_with fail
       go_returns
       exact ⟨_, rfl, HB2.out⟩
end Go.Proofs.YtepacjkacjabbaaGreatDoor
