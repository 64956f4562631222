/- slices.Insert of one integer into a row of the call's own: the shelf's four roads in one contract. -/
import Derived.Test.YthpdndkfdiphmaaDoorIter
import Derived.Test.YthpdndkfdiphmaaDoorShelf
import Derived.Laws.IdiomCopy
import Derived.Maps.AppendAt
namespace Go.Proofs.YthpdndkfdiphmaaDoor
open Go Go.RowKit
def putAt (cur : Array Value) : Nat → List Value → Array Value
  | _, [] => cur
  | o, v :: r => putAt (cur.setIfInBounds o v) (o + 1) r
theorem putAt_size : ∀ (vs : List Value) (cur : Array Value) (o : Nat), (putAt cur o vs).size = cur.size
  | [], _, _ => rfl
  | v :: r, cur, o => by simp only [putAt]; rw [putAt_size r]; simp
theorem putAt_get : ∀ (vs : List Value) (cur : Array Value) (o j : Nat), o + vs.length ≤ cur.size → (putAt cur o vs)[j]? = if o ≤ j ∧ j < o + vs.length then vs[j - o]? else cur[j]?
  | [], cur, o, j, _ => by simp only [putAt, List.length_nil]; rw [if_neg (by omega)]
  | v :: r, cur, o, j, h => by
    simp only [putAt, List.length_cons] at *
    rw [putAt_get r _ (o + 1) j (by simp; omega)]
    by_cases h1 : o + 1 ≤ j ∧ j < o + 1 + r.length
    · rw [if_pos h1, if_pos (by omega)]
      obtain ⟨k, rfl⟩ : ∃ k, j = o + 1 + k := ⟨j - (o + 1), by omega⟩
      rw [show o + 1 + k - (o + 1) = k by omega, show o + 1 + k - o = k + 1 by omega]; rfl
    · rw [if_neg h1]
      by_cases h2 : j = o
      · subst h2
        rw [if_pos (by omega), Array.getElem?_setIfInBounds_self_of_lt (by omega)]; simp
      · rw [if_neg (by omega), Array.getElem?_setIfInBounds_ne (by omega)]
theorem setCells_heap (g : Nat) (t : TypeId) (fr : Nat × Nat) : ∀ (vs : List Value) (o : Nat) (cur : Array Value) (w : World), w.heap[g]? = some (.cells cur t fr) → (w.setCells g o vs).heap[g]? = some (.cells (putAt cur o vs) t fr)
  | [], _, _, _, h => h
  | v :: r, o, cur, w, h => by
    simp only [World.setCells, putAt]
    refine setCells_heap g t fr r (o + 1) _ _ ?_
    simp [World.setCell, Array.getElem?_modify, h]
theorem grownBy_set (W : World) (b o : Nat) (v : Value) : W.grownBy (W.setCell ⟨b, o, none⟩ v) (some b) :=
  ⟨rfl, rfl, rfl, (KeepsWalks.setCell W _ v).size, fun k _ hk => Below.heap_setCell _ _ _ k (fun e => hk (by rw [e]))⟩
theorem setCells_grown (g : Nat) : ∀ (vs : List Value) (o : Nat) (w : World), w.grownBy (w.setCells g o vs) (some g)
  | [], _, w => World.grownBy.refl w _
  | v :: r, o, w => (grownBy_set w g o v).trans (setCells_grown g r (o + 1) _)
theorem grownBy_drew (w : World) (row : Option Nat) : w.grownBy w.drew row := ⟨rfl, rfl, rfl, Nat.le_refl _, fun _ _ _ => rfl⟩
theorem ints_one (l : List Int) : ∀ v ∈ l.map (Value.int .i64), v.oneCell' = true := by
  intro v hv; obtain ⟨z, _, rfl⟩ := List.mem_map.1 hv; rfl
/-- The row that a block holds up to n, read cell by cell. -/
theorem own_of_get {w : World} {base g n cap : Nat} {cur : Array Value} {xs : List Value} (hb : base ≤ g) (hh : w.heap[g]? = some (.cells cur 3 (0, 0))) (hn : n ≤ cap) (hc : cap ≤ maxLen) (hs : cur.size = cap) (hl : xs.length = n)
    (hg : ∀ j, j < n → cur[j]? = xs[j]?) : w.ownsRow base 3 1 (.slice (some ⟨g, 0, none⟩) n cap) n xs := by
  refine ⟨by omega, .inr ⟨g, cap, cur, rfl, hb, hh, hn, hc, by omega, ?_⟩⟩
  apply List.ext_getElem?
  intro j
  by_cases hj : j < n
  · rw [List.getElem?_take_of_lt (by omega), Array.getElem?_toList, hg j hj]
  · rw [List.getElem?_eq_none (by simp; omega), List.getElem?_eq_none (by omega)]
def insAt (i : Nat) (x : Int) (xs : List Int) : List Int := xs.take i ++ x :: xs.drop i
theorem insAt_get (i : Nat) (x : Int) (xs : List Int) (hi : i ≤ xs.length) (j : Nat) : (insAt i x xs)[j]? = if j < i then xs[j]? else if j = i then some x else xs[j - 1]? := by
  unfold insAt
  by_cases h1 : j < i
  · rw [if_pos h1, List.getElem?_append_left (by simp; omega), List.getElem?_take_of_lt h1]
  · rw [if_neg h1, List.getElem?_append_right (by simp; omega)]
    simp only [List.length_take, Nat.min_eq_left hi]
    by_cases h2 : j = i
    · subst h2; rw [if_pos rfl]; simp
    · rw [if_neg h2]
      obtain ⟨k, rfl⟩ : ∃ k, j = i + 1 + k := ⟨j - (i + 1), by omega⟩
      rw [show i + 1 + k - i = k + 1 by omega, List.getElem?_cons_succ, List.getElem?_drop, show i + 1 + k - 1 = i + k by omega]
theorem insAt_length (i : Nat) (x : Int) (xs : List Int) (hi : i ≤ xs.length) : (insAt i x xs).length = xs.length + 1 := by
  unfold insAt; simp; omega

set_option maxHeartbeats 1000000 in
theorem Insert_own (w : World) (base : Nat) (v : Value) (xs : List Int) (i : Nat) (x : Int) (vb : Nat) (hown : w.ownsRow base 3 1 v xs.length (xs.map (.int .i64))) (hi : i ≤ xs.length) (hlen : xs.length ≤ 1000000)
    (hvb : Boxed w vb 3 (.int .i64 x)) (hne : v.ownBlock ≠ some vb) (hbase : base ≤ w.heap.size) :
    Calls Tryd.prog 55 #[v, .int .i64 i, .slice (some ⟨vb, 0, none⟩) 1 1] w fun e w' => ∃ v', e = .returned v' ∧ w'.ownsRow base 3 1 v' (xs.length + 1) ((insAt i x xs).map (.int .i64)) ∧
      w.grownBy w' v.ownBlock ∧ (v'.ownBlock = v.ownBlock ∨ v'.ownBlock = some w.heap.size) := by
  have hvs : ∀ j u, [Value.int .i64 x][j]? = some u → w.cell? ⟨vb, 0 + j, none⟩ = some u := by
    intro j u hu
    cases j with
    | zero => simp at hu; subst hu; exact hvb.cell
    | succ j => simp at hu
  have h1v : ∀ u ∈ [Value.int .i64 x], u.oneCell' = true := by intro u hu; simp at hu; subst hu; rfl
  have hil := insAt_length i x xs hi
  have hmx : maxLen = 9223372036854775807 := rfl
  have hcsl : (xs.map (Value.int .i64)).length = xs.length := by simp
  have h1c := ints_one xs
  have hig : ∀ j, ((insAt i x xs).map (Value.int .i64))[j]? = if j < i then (xs.map (Value.int .i64))[j]? else if j = i then some (.int .i64 x) else (xs.map (Value.int .i64))[j - 1]? := by
    intro j
    rw [List.getElem?_map, insAt_get i x xs hi j]
    simp only [List.getElem?_map]
    split
    · rfl
    · split <;> rfl
  have hilm : ((insAt i x xs).map (Value.int .i64)).length = xs.length + 1 := by rw [List.length_map, hil]
  generalize hI : (insAt i x xs).map (Value.int .i64) = I at *
  generalize hcs : xs.map (Value.int .i64) = cs at *
  generalize hn : xs.length = n at *
  -- the array that a road without room lays, read at its end
  have endg : ∀ (gc : Nat), n + 1 ≤ gc → i = n → ∀ (Z : Array Value), Z.size = gc - (n + 1) → ((cs ++ [Value.int .i64 x]).toArray ++ Z).size = gc ∧ ∀ j, j < n + 1 → ((cs ++ [Value.int .i64 x]).toArray ++ Z)[j]? = I[j]? := by
    intro gc hgc hin Z hZ
    refine ⟨by simp; omega, fun j hj => ?_⟩
    rw [Array.getElem?_append_left (by simp; omega), List.getElem?_toArray, hig j]
    by_cases h1 : j < i
    · rw [if_pos h1, List.getElem?_append_left (by omega)]
    · rw [if_neg h1, if_pos (by omega), List.getElem?_append_right (by omega), show j - cs.length = 0 by omega]; rfl
  have zs : ∀ k, (Builtin.zeroCells (Value.int .i64 0).cells k).size = k := by intro k; simp [Builtin.zeroCells, Value.cells]
  rcases hown.2 with ⟨rfl, h0⟩ | ⟨g, cap, cur, rfl, hbg, hh, hnc, hcm, hcs', htk⟩
  · -- the nil slice
    have hcs0 : cs = [] := List.eq_nil_of_length_eq_zero (by omega)
    subst h0
    have hi0 : i = 0 := by omega
    subst hi0
    refine (Any2.slices_Insert_int_end_grow Tryd.laysIns none 0 0 vb 0 1 1 [] [.int .i64 x] w (by omega) (by omega) (by omega) (by omega) rfl rfl (fun _ => rfl) (fun a e => by cases e) hvs h1v).mono ?_
    rintro e w' ⟨rfl, rfl⟩
    obtain ⟨e1, e2⟩ := endg (grownCap w (0 + 1) 0 3) (grownCap_ge _ _ _ _) rfl (Builtin.zeroCells (Value.int .i64 0).cells (grownCap w (0 + 1) 0 3 - (0 + 1))) (zs _)
    rw [hcs0] at e1 e2
    exact ⟨_, rfl, own_of_get hbase (Go.World.alloc_heap_new w.drew _) (grownCap_ge _ _ _ _) (grownCap_le_maxLen _ _ _ _ (by omega)) e1 hilm e2, ⟨rfl, rfl, rfl, by simp, fun k hk _ => Below.heap_alloc w.drew _ k hk⟩, .inr rfl⟩
  · have hcell : ∀ j u, cs[j]? = some u → w.cell? ⟨g, 0 + j, none⟩ = some u := by
      intro j u hu
      have := hown.cells (g := g) rfl j u hu
      rw [Nat.zero_add]
      cases j with
      | zero => exact this
      | succ j => simpa [Addr.add] using this
    have hcurj : ∀ j, j < n → cur[j]? = cs[j]? := by
      intro j hj
      rw [← htk, List.getElem?_take_of_lt (by omega), Array.getElem?_toList]
    have hsp : ∀ j, j < cap → (w.cell? ⟨g, 0 + j, none⟩).isSome = true := by
      intro j hj
      have hjc : j < cur.size := by omega
      simp [World.cell?, hh, hjc]
    have hfz : ∀ j, w.frozen? ⟨g, 0 + j, none⟩ = false := by
      intro j; simp [World.frozen?, hh]
    by_cases hroom : n + 1 ≤ cap
    · by_cases hin : i < n
      · -- room, within: shifted in place
        have hvh : w.heap[vb]? = some (.cells #[.int .i64 x] 3 (0, 0)) := hvb
        have hsa : w.shape? vb = some (3, 1) := by simp [World.shape?, hvh]
        have hsb : w.shape? g = some (3, cap) := by simp [World.shape?, hh]; omega
        have hvne : vb ≠ g := fun e => hne (by rw [e]; rfl)
        refine (Any2.slices_Insert_int_shift Tryd.laysIns g 0 n cap i vb 0 1 1 cs [.int .i64 x] w hin (by omega) hroom (by omega) hvne hcsl rfl hcell (fun j hj => hsp j (by omega)) (fun j _ => hfz j) hvs h1c h1v
          3 3 1 cap hsa hsb (by omega) hvb.frozen (by simp [World.frozen?, hvh])).mono ?_
        rintro e w' ⟨rfl, rfl⟩
        have H1 := setCells_heap g 3 (0, 0) (cs.drop i) (0 + (i + 1)) cur w.drew hh
        have H2 := setCells_heap g 3 (0, 0) [.int .i64 x] (0 + i) _ _ H1
        refine ⟨_, rfl, own_of_get hbg H2 hroom hcm (by rw [putAt_size, putAt_size]; omega) hilm (fun j hj => ?_), (grownBy_drew w (some g)).trans ((setCells_grown g _ _ _).trans (setCells_grown g _ _ _)), .inl rfl⟩
        rw [putAt_get _ _ _ _ (by rw [putAt_size]; simp; omega), putAt_get _ _ _ _ (by simp; omega), hig j]
        simp only [Nat.zero_add, List.length_singleton, List.length_drop, hcsl]
        by_cases h1 : j < i
        · rw [if_neg (by omega), if_neg (by omega), if_pos h1, hcurj j (by omega)]
        · rw [if_neg h1]
          by_cases h2 : j = i
          · subst h2; rw [if_pos (by omega), if_pos rfl]; simp
          · rw [if_neg (by omega), if_pos (by omega), if_neg h2, List.getElem?_drop, show i + (j - (i + 1)) = j - 1 by omega]
      · -- room, at the end
        have hin' : i = n := by omega
        subst hin'
        refine (Any2.slices_Insert_int_end_room Tryd.laysIns g 0 i cap vb 0 1 1 [.int .i64 x] w (by omega) hroom (by omega) rfl (fun j hj => by rw [Nat.add_assoc]; exact hsp (i + j) (by omega)) (fun j hj => by rw [Nat.add_assoc]; exact hfz _) hvs h1v).mono ?_
        rintro e w' ⟨rfl, rfl⟩
        have H2 := setCells_heap g 3 (0, 0) [.int .i64 x] (0 + i) cur w hh
        refine ⟨_, rfl, own_of_get hbg H2 hroom hcm (by rw [putAt_size]; omega) hilm (fun j hj => ?_), setCells_grown g _ _ _, .inl rfl⟩
        rw [putAt_get _ _ _ _ (by simp; omega), hig j]
        simp only [Nat.zero_add, List.length_singleton]
        by_cases h1 : j < i
        · rw [if_neg (by omega), if_pos h1, hcurj j (by omega)]
        · rw [if_pos (by omega), if_neg h1, if_pos (by omega), show j - i = 0 by omega]; rfl
    · by_cases hin : i < n
      · -- no room, within: a new row
        refine (Any2.slices_Insert_int_grow Tryd.laysIns g 0 n cap i vb 0 1 1 cs [.int .i64 x] w hin (by omega) hnc (by omega) (by omega) hcsl rfl hcell hvs h1c h1v).mono ?_
        rintro e w' ⟨rfl, rfl⟩
        have hge := grownCap_ge w (n + 1) cap 3
        have hle := grownCap_le_maxLen w (n + 1) cap 3 (by omega)
        have H0 := Go.World.alloc_heap_new w (.cells ((cs.take i).toArray ++ Builtin.zeroCells (Value.int .i64 0).cells (n + 1 - i) ++ Builtin.zeroCells (Value.int .i64 0).cells (grownCap w (n + 1) cap 3 - (n + 1))) 3)
        have H1 := setCells_heap w.heap.size 3 (0, 0) [.int .i64 x] i _ (w.alloc (.cells ((cs.take i).toArray ++ Builtin.zeroCells (Value.int .i64 0).cells (n + 1 - i) ++ Builtin.zeroCells (Value.int .i64 0).cells (grownCap w (n + 1) cap 3 - (n + 1))) 3)).drew H0
        have H2 := setCells_heap w.heap.size 3 (0, 0) (cs.drop i) (i + 1) _ (((w.alloc (.cells ((cs.take i).toArray ++ Builtin.zeroCells (Value.int .i64 0).cells (n + 1 - i) ++ Builtin.zeroCells (Value.int .i64 0).cells (grownCap w (n + 1) cap 3 - (n + 1))) 3)).drew.setCells w.heap.size i [.int .i64 x]).drew) H1
        have hA : ((cs.take i).toArray ++ Builtin.zeroCells (Value.int .i64 0).cells (n + 1 - i) ++ Builtin.zeroCells (Value.int .i64 0).cells (grownCap w (n + 1) cap 3 - (n + 1))).size = grownCap w (n + 1) cap 3 := by
          simp [zs]; omega
        have hG1 : w.grownBy ((w.alloc (.cells ((cs.take i).toArray ++ Builtin.zeroCells (Value.int .i64 0).cells (n + 1 - i) ++ Builtin.zeroCells (Value.int .i64 0).cells (grownCap w (n + 1) cap 3 - (n + 1))) 3)).drew) (some w.heap.size) :=
          ⟨rfl, rfl, rfl, by simp, fun k hk _ => Below.heap_alloc w _ k hk⟩
        have hG := (hG1.trans (setCells_grown w.heap.size [.int .i64 x] i _)).trans (grownBy_drew _ _)
        have hG' := hG.trans (setCells_grown w.heap.size (cs.drop i) (i + 1) _)
        refine ⟨_, rfl, own_of_get hbase H2 hge hle (by rw [putAt_size, putAt_size]; exact hA) hilm (fun j hj => ?_), ⟨hG'.os, hG'.tape, hG'.output, hG'.size, fun k hk _ => hG'.block k hk (fun e => by injection e with e; omega)⟩, .inr rfl⟩
        rw [putAt_get _ _ _ _ (by rw [putAt_size, hA]; simp; omega), putAt_get _ _ _ _ (by rw [hA]; simp; omega), hig j]
        simp only [List.length_singleton, List.length_drop, hcsl]
        by_cases h1 : j < i
        · rw [if_neg (by omega), if_neg (by omega), if_pos h1, Array.append_assoc, Array.getElem?_append_left (by simp; omega), List.getElem?_toArray, List.getElem?_take_of_lt h1]
        · rw [if_neg h1]
          by_cases h2 : j = i
          · subst h2; rw [if_neg (by omega), if_pos (by omega), if_pos rfl]; simp
          · rw [if_pos (by omega), if_neg h2, List.getElem?_drop, show i + (j - (i + 1)) = j - 1 by omega]
      · -- no room, at the end: a new row
        have hin' : i = n := by omega
        subst hin'
        refine (Any2.slices_Insert_int_end_grow Tryd.laysIns (some ⟨g, 0, none⟩) i cap vb 0 1 1 cs [.int .i64 x] w (by omega) hnc (by omega) (by omega) hcsl rfl (fun e => by cases e) (fun a e j u hu => by cases e; exact hown.cells (g := g) rfl j u hu) hvs h1v).mono ?_
        rintro e w' ⟨rfl, rfl⟩
        obtain ⟨e1, e2⟩ := endg (grownCap w (i + 1) cap 3) (grownCap_ge _ _ _ _) rfl (Builtin.zeroCells (Value.int .i64 0).cells (grownCap w (i + 1) cap 3 - (i + 1))) (zs _)
        exact ⟨_, rfl, own_of_get hbase (Go.World.alloc_heap_new w.drew _) (grownCap_ge _ _ _ _) (grownCap_le_maxLen _ _ _ _ (by omega)) e1 hilm e2, ⟨rfl, rfl, rfl, by simp, fun k hk _ => Below.heap_alloc w.drew _ k hk⟩, .inr rfl⟩
end Go.Proofs.YthpdndkfdiphmaaDoor
