/- tree.Calls: the names of the procedures that statements call, each once. -/
import Derived.Test.YthcboallnbaimaaGreatDoorSizes
import Derived.Test.YthcboallnbaimaaGreatDoorLeadP
import Derived.Maps.AppendAt
import Derived.RangeFuncBox
namespace Go.Proofs.YthcboallnbaimaaGreatDoor
open Go Go.RowKit
attribute [local go_sem] Oper.semAt_some
theorem toList_inj {s t : ByteArray} (h : s.toList = t.toList) : s = t := by
  rw [ByteArray.toList_eq, ByteArray.toList_eq] at h
  have h2 : s.data = t.data := Array.toList_inj.1 h
  cases s; cases t; simp at h2; rw [h2]
/-- A slice of strings, read. -/
def RdN (W : World) (v : Value) (l : List ByteArray) : Prop :=
  ∃ A c, v = .slice A l.length c ∧ (0 < l.length → ∃ b off, A = some ⟨b, off, .none⟩ ∧ ∀ j (h : j < l.length), W.cell? ⟨b, off + j, .none⟩ = some (.string l[j]))
theorem rdN_of_own {W : World} {B : Nat} {v : Value} {l : List ByteArray} (h : W.ownsRow B 9 1 v l.length (l.map .string)) : RdN W v l := by
  rcases h.2 with ⟨rfl, h0⟩ | ⟨g, cap, cur, rfl, _⟩
  · exact ⟨none, 0, by rw [h0], fun h => by omega⟩
  · refine ⟨_, cap, rfl, fun _ => ⟨g, 0, rfl, fun j hj => ?_⟩⟩
    have := h.cells (g := g) rfl j (.string l[j]) (by simp [hj])
    rw [Addr.add_lit] at this
    exact this
set_option maxRecDepth 100000 in
theorem indexN_any (w : World) (v : Value) (l : List ByteArray) (s : ByteArray) (hl : l.length ≤ 1000000) (h : RdN w v l) :
    Calls Tryz.prog 47 #[v, .string s] w fun o w' => (∃ k : Int, -1 ≤ k ∧ o = .returned (.int .i64 k) ∧ (0 ≤ k ↔ hasN l s = true)) ∧ w = w' := by
  obtain ⟨A, c, rfl, hc⟩ := h
  go_enter Tryz.func47, Tryz.ntmps47
  go_wp2_with fail
  go_loopw [8] (fun i wr => ∃ k : Nat, k ≤ l.length ∧ i = .int .i64 k ∧ Hid (∀ j (h : j < l.length), j < k → l[j] ≠ s) ∧ w = wr) (fun i _ => l.length - (intOf i).toNat)
  case atStart => exact ⟨0, Nat.zero_le _, rfl, Lib.hid fun j _ h => absurd h (Nat.not_lt_zero _), rfl⟩
  case round =>
    obtain ⟨k, hk, rfl, HNO, rfl⟩ := hrel
    by_cases hlt : k < l.length
    · obtain ⟨b, off, rfl, hcell⟩ := hc (by omega)
      have hk1 := hcell k hlt
      have hx : ∃ x, l[k] = x := ⟨_, rfl⟩
      obtain ⟨x, hx⟩ := hx
      rw [hx] at hk1
      have HX := Lib.hid hx
      have HC := Lib.hid hcell
      have hj0 : (0 : Int) ≤ (k : Int) := by omega
      have hj1 : (k : Int) < (l.length : Int) := by omega
      clear hc hcell hx
      by_cases he : s = x
      · subst he
        have hfin : hasN l s = true := by
          unfold hasN
          rw [List.any_eq_true]
          exact ⟨l[k], List.getElem_mem hlt, by simp [HX.out]⟩
        have HF := Lib.hid hfin
        clear hfin
        go_wp2_with fail
        go_ret
        exact ⟨⟨k, by omega, rfl, by simp [HF.out]⟩, rfl⟩
      · have hsx : (s.toList == x.toList) = false := beq_eq_false_iff_ne.2 fun e => he (toList_inj e)
        have HE := Lib.hid he
        clear he
        go_wp2_with fail
        go_roundw
        case rel => exact ⟨k + 1, by omega, by go_num, Lib.hid fun j hj hjk => by
          by_cases e : j = k
          · subst e; rw [HX.out]; exact fun e => HE.out e.symm
          · exact HNO.out j hj (by omega), trivial⟩
        case measure => simp [intOf]; omega
    · obtain rfl : k = l.length := by omega
      have hfin : hasN l s = false := by
        unfold hasN
        rw [List.any_eq_false]
        intro x hx
        obtain ⟨j, hj, rfl⟩ := List.getElem_of_mem hx
        simpa using HNO.out j hj hj
      have HF := Lib.hid hfin
      clear hfin
      go_wp2_with fail
      go_ret
      exact ⟨⟨-1, by omega, rfl, by rw [HF.out]; simp⟩, rfl⟩
theorem containsN_any (w : World) (v : Value) (l : List ByteArray) (s : ByteArray) (hl : l.length ≤ 1000000) (h : RdN w v l) :
    Calls Tryz.prog 14 #[v, .string s] w fun o w' => o = .returned (.bool (hasN l s)) ∧ w = w' := by
  have H := Lib.hid (indexN_any w v l s hl h)
  obtain ⟨A, c, rfl, -⟩ := h
  go_enter Tryz.func14, Tryz.ntmps14
  go_wp2_with (first | (go_at_call 47; refine H.out.mono ?_; rintro o2 w2 ⟨⟨k, hk1, rfl, hk⟩, rfl⟩; have HKK := Lib.hid hk; clear hk) | fail)
  go_ret
  exact ⟨by rw [show decide (0 ≤ k) = hasN l s by rw [Bool.eq_iff_iff, decide_eq_true_iff]; exact HKK.out]; rfl, rfl⟩
theorem str_info : (Tryz.prog.info? 9).map (fun i => (i.zero, i.size, i.bytes)) = some (some (.string ⟨#[]⟩), 1, 16) := by kernel_rfl
theorem info_of {P : Program} {e : TypeId} {z : Value} {s b : Nat} (h : (P.info? e).map (fun i => (i.zero, i.size, i.bytes)) = some (some z, s, b)) : ∃ i, P.info? e = some i ∧ i.zero = some z ∧ i.size = s ∧ i.bytes = b := by
  cases hi : P.info? e with
  | none => rw [hi] at h; cases h
  | some i => rw [hi] at h; simp at h; exact ⟨i, rfl, h.1, h.2.1, h.2.2⟩
theorem ownN_form {w : World} {base n : Nat} {e : TypeId} {v : Value} {xs : List Value} (h : w.ownsRow base e 1 v n xs) : ∃ A c, v = .slice A n c := by
  rcases h.2 with ⟨rfl, h0⟩ | ⟨g, cap, cur, rfl, _⟩
  · exact ⟨none, 0, by rw [h0]⟩
  · exact ⟨_, _, rfl⟩
/-- Names with one more. -/
theorem with_any (w : World) (B : Nat) (v : Value) (l : List ByteArray) (s : ByteArray) (hl : l.length ≤ 1000000) (hB : B ≤ w.heap.size) (h : w.ownsRow B 9 1 v l.length (l.map .string)) :
    Calls Tryz.prog 182 #[v, .string s] w fun o w' => ∃ v', o = .returned v' ∧ w'.ownsRow B 9 1 v' (withN l s).length ((withN l s).map .string) ∧ w.grownBy w' v.ownBlock := by
  have HC := Lib.hid (containsN_any w v l s hl (rdN_of_own h))
  obtain ⟨A, c, rfl⟩ := ownN_form h
  have HO := Lib.hid h
  clear h
  cases hh : hasN l s with
  | true =>
    have hw : withN l s = l := by unfold withN; rw [if_pos hh]
    rw [hh] at HC
    rw [hw]
    clear hh hw
    go_enter Tryz.func182, Tryz.ntmps182
    go_wp2_with (first | (go_at_call 14; refine HC.out.mono ?_; rintro o2 w2 ⟨rfl, rfl⟩) | fail)
    go_ret
    exact ⟨_, rfl, HO.out, ⟨rfl, rfl, rfl, Nat.le_refl _, fun _ _ _ => rfl⟩⟩
  | false =>
    have hw : withN l s = l ++ [s] := by unfold withN; rw [if_neg (by rw [hh]; simp)]
    rw [hh] at HC
    rw [hw]
    clear hh hw
    obtain ⟨i0, hi, hz0, hz1, hz2⟩ := info_of str_info
    have hcell := cell_one_new w (.string s) 9
    go_enter Tryz.func182, Tryz.ntmps182
    go_wp2_with (first | (go_at_call 14; refine HC.out.mono ?_; rintro o2 w2 ⟨rfl, rfl⟩) | (at_builtin; refine wpList_append_own_at _ rfl _ _ 26 rfl B 9 i0 (.string ⟨#[]⟩) 1 16 Tryz.underlying26 hi hz0 hz1 hz2 rfl (by decide) _ _ _ rfl (HO.out.alloc _) ⟨w.heap.size, 0, none⟩ 1 1 [.string s] rfl rfl hcell (by simp [Value.oneCell']) (by simp only [maxLen]; omega) (by omega) (by simp; omega) ?_; intro v' w2 hown2 hg2 _ _) | fail)
    go_ret
    exact ⟨_, rfl, by simpa using hown2, (World.grownBy_alloc w _ _).trans hg2⟩
/-- The names called so far. -/
def callsOf (l : List StmtV) : List ByteArray := l.foldl (fun out s => if s.kind = 8 then withN out s.name else out) []
theorem callsOf_snoc (l : List StmtV) (s : StmtV) : callsOf (l ++ [s]) = if s.kind = 8 then withN (callsOf l) s.name else callsOf l := by simp [callsOf]
theorem callsOf_len (l : List StmtV) : (callsOf l).length ≤ l.length := by
  have := calls_len l []
  simpa [callsOf] using this
theorem keeps_grown {T : TypeId → Bool} {B : Nat} {W W' : World} {row : Option Nat} (h : W.grownBy W' row) (hr : ∀ r, row = some r → ∃ cs t fr, W.heap[r]? = some (.cells cs t fr) ∧ T t = false) : KeepsT T B W W' := by
  refine ⟨h.size, fun k o _ ho hc => ?_, fun k cs t fr hk ht => ?_⟩
  · refine (h.block k (Array.getElem?_eq_some_iff.1 ho).1 (fun e => ?_)).trans ho
    obtain ⟨cs, t, fr, h1, _⟩ := hr k e.symm
    rw [h1] at ho; cases ho; cases hc
  · refine (h.block k (Array.getElem?_eq_some_iff.1 hk).1 (fun e => ?_)).trans hk
    obtain ⟨cs', t', fr', h1, h2⟩ := hr k e.symm
    rw [h1] at hk; cases hk; rw [ht] at h2; cases h2
theorem own_cells {w : World} {base n : Nat} {e : TypeId} {v : Value} {xs : List Value} (h : w.ownsRow base e 1 v n xs) : ∀ r, v.ownBlock = some r → base ≤ r ∧ ∃ cs, w.heap[r]? = some (.cells cs e (0, 0)) := by
  intro r hr
  rcases h.2 with ⟨rfl, _⟩ | ⟨g, cap, cur, rfl, hg, hh, _⟩
  · cases hr
  · cases hr; exact ⟨hg, cur, hh⟩
theorem ownN_at {w w' : World} {base n : Nat} {e : TypeId} {v : Value} {xs : List Value} (h : w.ownsRow base e 1 v n xs) (hk : ∀ g, v.ownBlock = some g → w'.heap[g]? = w.heap[g]?) : w'.ownsRow base e 1 v n xs := by
  refine ⟨h.1, ?_⟩
  rcases h.2 with hn | ⟨g, cap, cur, rfl, hb, hgg, rest⟩
  · exact .inl hn
  · exact .inr ⟨g, cap, cur, rfl, hb, (hk g rfl).trans hgg, rest⟩
theorem below_grown {B : Nat} {W W' : World} {row : Option Nat} (h : W.grownBy W' row) (hB : B ≤ W.heap.size) (hr : ∀ r, row = some r → B ≤ r) : Below B W W' :=
  ⟨h.os, h.tape, h.output, h.size, fun k hk => h.block k (by omega) (fun e => by have := hr k e.symm; omega)⟩
theorem ownsRow_weak {w : World} {base base' : Nat} {e : TypeId} {n : Nat} {v : Value} {xs : List Value} (hb : base' ≤ base) (h : w.ownsRow base e 1 v n xs) : w.ownsRow base' e 1 v n xs := by
  refine ⟨h.1, ?_⟩
  rcases h.2 with hn | ⟨g, cap, cur, rfl, hg, rest⟩
  · exact .inl hn
  · exact .inr ⟨g, cap, cur, rfl, Nat.le_trans hb hg, rest⟩
theorem RdT.kk {n₀ : Nat} {W : World} {s : StmtV} (h : RdT n₀ W s) : 0 ≤ s.kind ∧ s.kind ≤ 255 := by cases h; assumption
/-- The box of the names. -/
def NamesAt (W : World) (q : Nat) (l : List ByteArray) : Prop := ∃ v, Boxed W q 26 v ∧ W.ownsRow (q + 1) 9 1 v l.length (l.map .string)
theorem NamesAt.alloc {W : World} {q : Nat} {l : List ByteArray} (h : NamesAt W q l) (o : Obj) : NamesAt (W.alloc o) q l := by
  obtain ⟨v, h1, h2⟩ := h
  exact ⟨v, h1.alloc o, h2.alloc o⟩
theorem NamesAt.kept {W W' : World} {q : Nat} {l : List ByteArray} {row : Option Nat} (h : NamesAt W q l) (hg : W.grownBy W' row) (hr : ∀ r, row = some r → ∃ o : Obj, W.heap[r]? = some o ∧ o.isCells = false) : NamesAt W' q l := by
  obtain ⟨v, h1, h2⟩ := h
  refine ⟨v, h1.kept hg (fun e => ?_), ownN_at h2 fun g hg2 => hg.block g ?_ (fun e => ?_)⟩
  · obtain ⟨o, ho, hc⟩ := hr q e.symm
    rw [show W.heap[q]? = _ from h1] at ho; cases ho; cases hc
  · obtain ⟨_, cs, hh⟩ := own_cells h2 g hg2
    exact (Array.getElem?_eq_some_iff.1 hh).1
  · obtain ⟨_, cs, hh⟩ := own_cells h2 g hg2
    obtain ⟨o, ho, hc⟩ := hr g e.symm
    rw [hh] at ho; cases ho; cases hc
theorem NamesAt.put {W W2 : World} {q : Nat} {l l' : List ByteArray} {v v' : Value} (hq : Boxed W q 26 v) (h : W.ownsRow (q + 1) 9 1 v l.length (l.map .string)) (hg : W.grownBy W2 v.ownBlock) (h' : W2.ownsRow (q + 1) 9 1 v' l'.length (l'.map .string)) :
    Boxed W2 q 26 v ∧ NamesAt (W2.setCell ⟨q, 0, none⟩ v') q l' ∧ KeepsT TT q W (W2.setCell ⟨q, 0, none⟩ v') ∧ Below q W (W2.setCell ⟨q, 0, none⟩ v') := by
  have hb2 : Boxed W2 q 26 v := hq.kept hg (fun e => by have := (own_cells h q e.symm).1; omega)
  refine ⟨hb2, ⟨v', hb2.set v', ownN_at h' fun g hg2 => Below.heap_setCell _ _ _ _ (fun e => by have := (own_cells h' g hg2).1; simp at e; omega)⟩, ?_, ?_⟩
  · exact (keeps_grown hg fun r hr => by obtain ⟨_, cs, hh⟩ := own_cells h r hr; exact ⟨cs, _, _, hh, rfl⟩).trans (KeepsT.set (a := ⟨q, 0, none⟩) hb2 rfl _)
  · exact (below_grown hg (Nat.le_of_lt hq.lt) fun r hr => by have := (own_cells h r hr).1; omega).setCell (p := ⟨q, 0, none⟩) (Nat.le_refl _) _
set_option maxRecDepth 1000000 in
set_option maxHeartbeats 4000000 in
theorem calls_any (w : World) (sp : Sp) (ll : List StmtV) (h : RdTs w.heap.size w sp ll) (hL : cntT (ll.flatMap StmtV.pre) 0 ≤ 20000) (hn : (ll.flatMap StmtV.pre).length ≤ 20000) :
    Calls Tryz.prog 179 #[sp.val ll.length] w fun o w' => ∃ v, o = .returned v ∧ w'.ownsRow w.heap.size 9 1 v (callsN ll).length ((callsN ll).map .string) ∧ Below w.heap.size w w' := by
  refine (callsIn_wide (n := 5)).1 ?_
  have hE := fun w' => stmts_any sp ll.length w'
  have hba0 : Below w.heap.size w (w.alloc (.cells #[.slice none 0 0] 26)) := (Below.refl _ w).alloc (Nat.le_refl _) _
  have hCN := countStmts_any _ sp ll 0 ((h.below hba0).more (Nat.le_of_lt (by simp : w.heap.size < (w.alloc (.cells #[.slice none 0 0] 26)).heap.size))) (by omega)
  simp only [Sp.val] at hE hCN ⊢
  have HE := Lib.hid hE
  have HCN := Lib.hid hCN
  have hLT := light_any (cntT (ll.flatMap StmtV.pre) 0)
  rw [decide_eq_true hL] at hLT
  have HLT := Lib.hid hLT
  generalize cntT (ll.flatMap StmtV.pre) 0 = cnt at *
  clear hE hCN hLT hL
  refine callsIn_of_wp_marks Tryz.func179 rfl trivial ?_ rfl
  simp only [Tryz.ntmps179, List.size_toArray, List.length_cons, List.length_nil, Nat.reduceAdd, Nat.reduceSub, Array.replicate_succ, Array.replicate_zero, List.push_toArray, List.append_toArray, List.nil_append, List.cons_append]
  gi_wp2_with (refine ⟨trivial, ?_⟩; first | (gi_at_call 65; refine (callsIn_wide.2 HCN.out).mono ?_; rintro o3 w3 ⟨rfl, hb3⟩) | (gi_at_call 81; refine (callsIn_wide.2 (HLT.out _)).mono ?_; rintro o5 w5 ⟨rfl, rfl⟩) | (gi_at_call 101; refine (callsIn_wide.2 (HE.out _)).mono ?_; rintro o4 w4 ⟨rfl, rfl⟩) | fail)
  have hbw : Below w.heap.size w (w3.alloc (.cells #[.slice sp.at_ ll.length sp.cap] 37)) := (hba0.trans (hb3.mono hba0.size)).alloc (Nat.le_trans hba0.size hb3.size) _
  have hB5 := World.alloc_heap_new w3 (.cells #[.slice sp.at_ ll.length sp.cap] 37)
  have hbx3 : Boxed w3 w.heap.size 26 (.slice none 0 0) := (hb3.block w.heap.size (by simp)).trans (Boxed.new w 26 _)
  have hbx : NamesAt (w3.alloc (.cells #[.slice sp.at_ ll.length sp.cap] 37)) w.heap.size [] := ⟨_, hbx3.alloc _, World.ownsRow_nil _ _ _ _⟩
  have hs3 : w.heap.size + 2 ≤ (w3.alloc (.cells #[.slice sp.at_ ll.length sp.cap] 37)).heap.size := by have := hb3.size; simp at this ⊢; omega
  clear hb3 hba0 hbx3
  generalize w3.heap.size = b3 at *
  generalize w3.alloc (.cells #[.slice sp.at_ ll.length sp.cap] 37) = wa at *
  have hmem : ∀ y ∈ ll.flatMap StmtV.pre, RdT w.heap.size w y := by
    intro y hy
    obtain ⟨s, hs, hy⟩ := List.mem_flatMap.1 hy
    exact rdT_pre (h.ok s hs) y hy
  refine wpIn_rangeFunc_net (T := TT) rfl (fun h => by cases h) (gf := 136) (lb := #[.pointer (some ⟨b3, 0, none⟩)]) rfl trivial (enters_of Tryz.func136 (by kernel_rfl) rfl)
    (stmts_seq h _ wa b3 hbw (by omega) hB5) (by omega) (Below.refl _ _) (fun _ => rfl)
    (fun pre W' => NamesAt W' w.heap.size (callsOf pre) ∧ Below w.heap.size w W' ∧ wa.heap.size ≤ W'.heap.size)
    (fun _ _ _ => False)
    ?hI ?hIx ⟨hbx, hbw, Nat.le_refl _⟩
    (fun y a' W' => ∃ by5 v10, W'.heap[by5]? = some (.cells y.cells.toArray 49 (0, 0)) ∧ a' = { tmps := #[.slice sp.at_ ll.length sp.cap, undef, .slice none 0 0, .pointer (some ⟨w.heap.size, 0, none⟩), .pointer (some ⟨by5, 0, none⟩), .slice sp.at_ ll.length sp.cap, .int .i64 cnt, .bool true, .slice sp.at_ ll.length sp.cap, .func (.func 136) #[] #[.pointer (some ⟨b3, 0, none⟩)], v10, undef, undef, undef, undef, undef, undef, undef, undef], defers := [] })
    ?hAx ?assign ?body ?done ?stop
  case hI =>
    rintro s X' Y rw ⟨h1, h4, h5⟩ hg hr
    exact ⟨h1.kept hg (fun r hr2 => (hr r hr2).2), h4.grown hg (by omega) (fun q hq => by have := (hr q hq).1; omega), Nat.le_trans h5 hg.size⟩
  case hIx => rintro c s X' Y rw h; exact h.elim
  case hAx =>
    rintro y a' _ X' Y rw ⟨by5, v10, h1, h2⟩ hg hr
    refine ⟨by5, v10, (hg.block by5 (Array.getElem?_eq_some_iff.1 h1).1 (fun e' => ?_)).trans h1, h2⟩
    obtain ⟨_, o', ho, hc⟩ := hr by5 e'.symm
    rw [h1] at ho
    cases ho
    cases hc
  case assign =>
    rintro l2 pre y Wc K ⟨h1, h4, h5⟩ hK
    simp only [StmtV.val, Sp.val] at hK ⊢
    gi_wp2
    have hba : Below Wc.heap.size Wc (Wc.alloc (.cells #[.int .u8 y.kind, .string y.name, .slice y.es.at_ y.exprs.length y.es.cap, .int .i64 y.bound, .slice y.ts.at_ y.thn.length y.ts.cap, .slice y.os.at_ y.els.length y.os.cap] 49)) := (Below.refl _ Wc).alloc (Nat.le_refl _) _
    exact hK _ _ (KeepsT.of_below hba) (hba.mono (by omega)) ⟨h1.alloc _, h4.trans (hba.mono (by omega)), by have := hba.size; omega⟩ ⟨_, _, World.alloc_heap_new _ _, rfl⟩
  case body =>
    rintro l2 pre y a' Wc hl2 ⟨h1, h4, h5⟩ ⟨by5, v10, hby, rfl⟩ hlen hsp
    simp only [StmtV.cells, Sp.val] at hby
    obtain ⟨q0, q1, q2, q3, q4, q5⟩ := six_cells hby
    have hsn := callsOf_snoc pre y
    have hcl := callsOf_len pre
    obtain ⟨kk0, kk1⟩ := (hmem y (hsp.mem (by simp))).kk
    generalize hacc : callsOf pre = acc at *
    have HSN := Lib.hid hsn
    clear hacc hsn hby hmem q2 q3 q4 q5
    by_cases hk8 : y.kind = 8
    · have hsn := HSN.out
      rw [if_pos hk8] at hsn
      have HSN2 := Lib.hid hsn
      obtain ⟨v, hbx, hown⟩ := h1
      have hc := hbx.cell
      have hf := hbx.frozen
      have HW := Lib.hid (with_any Wc (w.heap.size + 1) v acc y.name (by omega) (by omega) hown)
      have HX := Lib.hid hbx
      have HO := Lib.hid hown
      clear hsn HSN
      gi_wp2_with (refine ⟨trivial, ?_⟩; first | (gi_at_call 182; refine (CallsIn.inRound l2 (callsIn_wide.2 HW.out)).mono ?_; rintro o4 w4 ⟨v', rfl, hown2, hg2⟩; obtain ⟨A8, c8, rfl⟩ := ownN_form hown2; obtain ⟨hb2, hN, hK2, hB2⟩ := NamesAt.put HX.out HO.out hg2 hown2; have hf2 := hb2.frozen; have hc2 := hb2.cell; have HN := Lib.hid hN; have HK2 := Lib.hid hK2; have HB2 := Lib.hid hB2; clear hown2 hg2 hb2 hN hK2 hB2) | fail)
      exact ⟨HK2.out.up (by omega), HB2.out, by rw [HSN2.out]; exact HN.out, h4.trans HB2.out, Nat.le_trans h5 HK2.out.size⟩
    · have hsn := HSN.out
      rw [if_neg hk8] at hsn
      have HSN2 := Lib.hid hsn
      have hk8' : (y.kind == 8) = false := by simpa using hk8
      clear hsn HSN hk8
      gi_wp2
      exact ⟨KeepsT.refl _ _ _, Below.refl _ _, by rw [HSN2.out]; exact h1, h4, h5⟩
  case done =>
    rintro Dq ys Wd hD rfl ⟨⟨v, hbx, hown⟩, h4, h5⟩ hK
    have hc := hbx.cell
    gi_wp2
    refine ⟨by simp, .inl ⟨_, _, rfl, run_takeDeferred hK, ?_⟩⟩
    exact ⟨_, results_tmp rfl _ _ _, v, rfl, ownN_at (ownsRow_weak (Nat.le_succ _) hown) fun g hg => World.putObj_heap_other (fun e => by obtain ⟨_, cs, hh⟩ := own_cells hown g hg; subst e; rw [hh] at hK; cases hK), h4.trans (below_put _ _ (by omega))⟩
  case stop =>
    rintro Dq c pre Wd hD hp h
    exact h.elim
end Go.Proofs.YthcboallnbaimaaGreatDoor
