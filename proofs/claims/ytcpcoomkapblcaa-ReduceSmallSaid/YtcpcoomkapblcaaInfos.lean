import Derived.Test.YtcpcoomkapblcaaAllI
import Derived.Maps.OwnIn
open Go Go.RowKit Go.Maps
namespace Go.Proofs.Ytcpcoomkapblcaa
open Go.Shelf
attribute [local go_sem] Oper.semAt_some
theorem Tab.below {w w' : World} {p m : Nat} {T : List Inf} {c : Int} (h : Tab w p m T c) (hb : Below w.heap.size w w') : Tab w' p m T c :=
  ⟨(hb.block p h.lt).trans h.head, h.map.kept (row := none) ⟨hb.os, hb.tape, hb.output, hb.size, fun k hk _ => hb.block k hk⟩ (by simp), h.apart, h.wf, h.ne⟩
theorem all_stops (n : Nat) (hn : 1 ≤ n) (Bs p m ob : Nat) (T : List Inf) (c : Int) (hT : T.length < 1000000) (w : World) (hBs : Bs < w.heap.size) (hc : w.cell? ⟨Bs, 0, none⟩ = some (.pointer (some ⟨p, 0, none⟩))) (hob : ob < w.heap.size)
    (hp0 : ∀ k, ptrOf w ob = some k → k < w.heap.size) (hTab : Tab w p m T c) :
    SeqStopsK Fence.wide n Try.prog 65 #[.pointer (some ⟨Bs, 0, none⟩)] (fun x : Inf => #[Inf.val x]) (OutK ob) (fun ys => ys = sortI T) (fun pre => pre <+: sortI T) T.length w := fun l J Jx W hW hJ _ hY h0 =>
  all1_in n hn l Bs p m ob T c hT J Jx W (Nat.lt_of_lt_of_le hob hW.size) hJ hY (fun k e => by rw [ptr_of_same (hW.block ob hob)] at e; exact Nat.lt_of_lt_of_le (hp0 k e) hW.size) ((hW.cell (p := ⟨Bs, 0, none⟩) hBs).trans hc) (hTab.below hW) h0
theorem own_weaken {w : World} {base base' e size : Nat} {v : Value} {n : Nat} {xs : List Value} (hb : base' ≤ base) (h : w.ownsRow base e size v n xs) : w.ownsRow base' e size v n xs := by
  refine ⟨h.1, ?_⟩
  rcases h.2 with hn | ⟨g, cap, cur, rfl, hg, rest⟩
  · exact .inl hn
  · exact .inr ⟨g, cap, cur, rfl, Nat.le_trans hb hg, rest⟩
theorem eql_nil (W : World) (b : Nat) : (binOp .eql 80 (.func (.func 65) #[] #[.pointer (some ⟨b, 0, none⟩)]) .nilFunc).run Try.prog W = .ok (.bool false) W := by
  kernel_rfl
theorem OutK.alloc {ob : Nat} {W : World} (hob : ob < W.heap.size) (o : Obj) : OutK ob W (W.alloc o) :=
  ⟨by simp, fun k cs t fr hk _ _ => Below.heap_alloc _ _ _ (Array.getElem?_eq_some_iff.1 hk).1, .inl (ptr_of_same (Below.heap_alloc _ _ _ hob))⟩
theorem ptr_boxed {W : World} {ob : Nat} {t : TypeId} {v : Value} (h : Boxed W ob t v) : ptrOf W ob = v.ownBlock := by
  unfold ptrOf; rw [show W.heap[ob]? = _ from h]; rfl
/-- An append in a box, seen from outside. -/
theorem OutK.append {ob : Nat} {t : TypeId} {W W1 W2 : World} {v v' : Value} (hb : Boxed W ob t v) (h01 : ∀ k, k < W.heap.size → W1.heap[k]? = W.heap[k]?) (hs1 : W.heap.size ≤ W1.heap.size) (hg : W1.grownBy W2 v.ownBlock) (hne : v.ownBlock ≠ some ob)
    (hat : v'.ownBlock = v.ownBlock ∨ v'.ownBlock = some W1.heap.size) : OutK ob W (W2.setCell ⟨ob, 0, none⟩ v') := by
  have hb2 : Boxed W2 ob t v := by
    have h1 := hb.lt
    exact (hg.block ob (by omega) (fun e => hne e.symm)).trans ((h01 ob h1).trans hb)
  refine ⟨by simp; exact Nat.le_trans hs1 hg.size, fun k cs t' fr hk hne' hp => ?_, ?_⟩
  · rw [ptr_boxed hb] at hp
    have hlt := (Array.getElem?_eq_some_iff.1 hk).1
    exact (Below.heap_setCell _ _ _ _ hne').trans ((hg.block k (by omega) (fun e => hp e.symm)).trans (h01 k hlt))
  · rw [ptr_boxed (hb2.set v'), ptr_boxed hb]
    rcases hat with h | h
    · exact .inl h
    · exact .inr ⟨_, h, hs1⟩
set_option maxRecDepth 100000 in
set_option maxHeartbeats 1000000 in
theorem infos_any (w : World) (p m : Nat) (T : List Inf) (c : Int) (h : Tab w p m T c) (hT : T.length ≤ 300) :
    Calls Try.prog 17 #[.pointer (some ⟨p, 0, none⟩)] w fun e w' => ∃ v, e = .returned v ∧ w'.ownsRow w.heap.size 32 3 v T.length ((sortI T).flatMap Inf.enc) ∧ Below w.heap.size w w' := by
  refine (callsIn_wide (n := 5)).1 ?_
  refine callsIn_of_wp_marks Try.func17 rfl trivial ?_ rfl
  simp only [Try.ntmps17, List.size_toArray, List.length_cons, List.length_nil, Nat.reduceAdd, Nat.reduceSub, Array.replicate_succ, Array.replicate_zero, List.push_toArray, List.append_toArray, List.nil_append, List.cons_append]
  gi_wp2_with fail
  refine ⟨trivial, ?_⟩
  refine (callsIn_wide.2 (all_any _ p)).mono ?_
  rintro e w' ⟨rfl, rfl⟩
  have hnil := eql_nil ((w.alloc (.cells #[.slice none 0 0] 29)).alloc (.cells #[.pointer (some ⟨p, 0, none⟩)] 25)) (w.heap.size + 1)
  gi_wp2
  obtain ⟨i0, hi, hz0, hz1, hz2⟩ := info_parts inf_info
  have hbW0 : Below w.heap.size w ((w.alloc (.cells #[.slice none 0 0] 29)).alloc (.cells #[.pointer (some ⟨p, 0, none⟩)] 25)) := ((Below.refl _ w).alloc (Nat.le_refl _) _).alloc (by simp) _
  have hbox : Boxed ((w.alloc (.cells #[.slice none 0 0] 29)).alloc (.cells #[.pointer (some ⟨p, 0, none⟩)] 25)) w.heap.size 29 (.slice none 0 0) := (Boxed.new w 29 _).alloc _
  have hbB := (Boxed.new (w.alloc (.cells #[.slice none 0 0] 29)) 25 (.pointer (some ⟨p, 0, none⟩))).cell
  rw [World.size_alloc] at hbB
  refine wpIn_rangeFunc_ownH rfl (by omega) (gf := 65) (lb := #[.pointer (some ⟨w.heap.size + 1, 0, none⟩)]) rfl trivial (enters_of Try.func65 (by kernel_rfl) rfl)
    (all_stops _ (by omega) (w.heap.size + 1) p m w.heap.size T c (by omega) _ (by simp) hbB (by simp; omega) (fun k e => by rw [ptr_boxed hbox] at e; cases e) ((h.alloc _).alloc _)) OutK.trans (fun W l o o' => OutK.put (by simp; omega) W l o o') (Below.refl _ _) (fun _ => rfl)
    (fun pre W => (∃ v, Boxed W w.heap.size 29 v ∧ W.ownsRow (w.heap.size + 1) 32 3 v pre.length (pre.flatMap Inf.enc) ∧ True) ∧ Below w.heap.size w W)
    (fun _ _ _ => False)
    (OwnFrom.and (Own.from (holdsRow_own _ _ _ _ _ _ _ (fun _ _ => True)) _) (ownFrom_below (Nat.le_refl _) (by simp; omega)))
    (fun _ _ _ _ _ hs _ _ => hs)
    ⟨⟨_, hbox, World.ownsRow_nil _ _ _ _, trivial⟩, hbW0⟩
    (fun x a' W => ∃ b, a' = { tmps := #[.pointer (some ⟨p, 0, none⟩), undef, .slice none 0 0, .pointer (some ⟨w.heap.size, 0, none⟩), .func (.func 65) #[] #[.pointer (some ⟨w.heap.size + 1, 0, none⟩)], .pointer (some ⟨b, 0, none⟩), .pointer (some ⟨p, 0, none⟩), .func (.func 65) #[] #[.pointer (some ⟨w.heap.size + 1, 0, none⟩)], .func (.func 65) #[] #[.pointer (some ⟨w.heap.size + 1, 0, none⟩)], .bool false, .func (.func 65) #[] #[.pointer (some ⟨w.heap.size + 1, 0, none⟩)], x.val, undef, undef, undef, undef, undef, undef, undef, undef], defers := [] } ∧ W.heap[b]? = some (.cells #[.int .i64 x.id, .int .i64 x.lev, .int .i64 x.used] 32)) ?hAx ?assign ?body ?done ?stop
  case hAx =>
    rintro x a' u X Y row ⟨b, e, hb⟩ hg hrow
    refine ⟨b, e, (hg.block b (Array.getElem?_eq_some_iff.1 hb).1 (fun e' => ?_)).trans hb⟩
    obtain ⟨_, o, ho, hc⟩ := hrow b e'.symm
    rw [hb] at ho; cases ho; cases hc
  case assign =>
    rintro l pre x W K ⟨⟨v, hbx, hown, _⟩, hB⟩ hK
    unfold Inf.val
    gi_wp2
    exact hK _ _ ((KeepsOthers.alloc _ _).from _) (OutK.alloc hbx.lt _) ⟨⟨v, hbx.alloc _, hown.alloc _, trivial⟩, hB.alloc hB.size _⟩ ⟨_, rfl, World.alloc_heap_new _ _⟩
  case body =>
    rintro l pre x a' W hl hr ⟨⟨v, hbx, hown, _⟩, hB⟩ ⟨b, rfl, hxb⟩ hpl
    have c0 : W.cell? ⟨b, 0, none⟩ = some (.int .i64 x.id) := by simp [World.cell?, hxb]
    have c1 : W.cell? ⟨b, 1, none⟩ = some (.int .i64 x.lev) := by simp [World.cell?, hxb]
    have c2 : W.cell? ⟨b, 2, none⟩ = some (.int .i64 x.used) := by simp [World.cell?, hxb]
    have hc := hbx.cell
    have hf := hbx.frozen
    have hne : v.ownBlock ≠ some w.heap.size := fun e => by have := own_lt hown _ e; omega
    have hcell : ∀ j u, [Value.int .i64 x.id, .int .i64 x.lev, .int .i64 x.used][j]? = some u → (W.alloc (.cells #[.int .i64 x.id, .int .i64 x.lev, .int .i64 x.used] 32)).cell? ((⟨W.heap.size, 0, none⟩ : Addr).add j) = some u := cell_three_new _ _ _ _ _
    have hsz := hB.size
    have hvform : ∃ A n c, v = .slice A n c := by
      rcases hown.2 with ⟨rfl, _⟩ | ⟨g, cap, cur, rfl, _⟩
      · exact ⟨_, _, _, rfl⟩
      · exact ⟨_, _, _, rfl⟩
    obtain ⟨A, nn, cc, rfl⟩ := hvform
    unfold Inf.val
    gi_wp2_with (gi_at_builtin; refine wpListIn_append_own_at _ rfl _ _ 29 rfl (w.heap.size + 1) 32 i0 (.agg #[.int .i64 0, .int .i64 0, .int .i64 0]) 3 24 Try.underlying29 hi hz0 hz1 hz2 rfl (by decide) _ _ _ rfl (hown.alloc _) ⟨W.heap.size, 0, none⟩ 1 1 [.int .i64 x.id, .int .i64 x.lev, .int .i64 x.used] rfl rfl hcell (enc1 x) (by simp only [maxLen]; omega) (by omega) (by simp; omega) ?_; intro v' w2 hown2 hg2 _ hat2; obtain ⟨g', cap', rfl⟩ := ownsRow_succ hown2; have hbx1 : Boxed w2 w.heap.size 29 (.slice A nn cc) := (hbx.alloc _).kept hg2 (fun e => hne e.symm); have hc1 := hbx1.cell; have hf1 := hbx1.frozen)
    obtain ⟨_, hv2, _, hk2, hb2⟩ := hbx.appended (by decide) (own_weaken (Nat.le_succ _) hown) hB.size (Nat.le_refl _) (own_weaken (Nat.le_succ _) hown2) hg2
    have hrow2 := own_of_block hown2 (w' := w2.setCell ⟨w.heap.size, 0, none⟩ (.slice (some ⟨g', 0, none⟩) (pre.length + 1) cap')) (fun g hg => Below.heap_setCell _ _ _ _ (fun e => by have := own_lt hown2 g hg; simp at e; omega))
    have hout := OutK.append hbx (W1 := W.alloc (.cells #[.int .i64 x.id, .int .i64 x.lev, .int .i64 x.used] 32)) (fun k hk => Below.heap_alloc _ _ _ hk) (by simp) hg2 hne hat2
    have e1 : (pre ++ [x]).flatMap Inf.enc = pre.flatMap Inf.enc ++ [.int .i64 x.id, .int .i64 x.lev, .int .i64 x.used] := by simp [Inf.enc]
    refine ⟨hk2.from _, hout, ⟨_, hv2, ?_, trivial⟩, hB.trans hb2⟩
    rw [e1, List.length_append]
    exact hrow2
  case done =>
    rintro D ys W hD rfl ⟨⟨v, hbx, hown, _⟩, hB⟩ hK
    have hc := hbx.cell
    gi_wp2
    refine ⟨by simp, .inl ⟨_, _, rfl, run_takeDeferred hK, ?_⟩⟩
    have hS0 : (sortI T).length = T.length := by simp [sortI]
    rw [hS0] at hown
    exact ⟨_, results_tmp rfl _ _ _, v, rfl, ownsRow_putObj (own_weaken (Nat.le_succ _) hown) _ hK rfl, hB.trans (belowK_b (w := w) (Nat.le_refl _) W D _ _ (by simp at hD; omega) hK rfl rfl)⟩
  case stop =>
    rintro D c pre W hD _ h _
    exact h.elim
end Go.Proofs.Ytcpcoomkapblcaa
