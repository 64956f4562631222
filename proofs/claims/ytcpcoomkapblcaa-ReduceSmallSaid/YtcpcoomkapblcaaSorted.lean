import Derived.Test.YtcpcoomkapblcaaSortI
import Derived.Test.YtcpcoomkapblcaaRowK
import Derived.Maps.RangeWalk
import Derived.Maps.AppendAt
open Go Go.RowKit Go.Maps
namespace Go.Proofs.Ytcpcoomkapblcaa
open Go.Sort Go.Lib Go.Shelf
theorem tab_hit {T : List Inf} (hap : IdsApart T) {i : Int} {d : DataW Unit} (h : ∀ zd, (tabD T).atKey (.int .i64 i) zd = d) : ∃ x ∈ T, x.id = i ∧ d = dInf x := by
  by_cases hx : ∃ x ∈ T, x.id = i
  · obtain ⟨x, hx, rfl⟩ := hx
    exact ⟨x, hx, rfl, by rw [← h .nil, at_tab hap hx]⟩
  · have hn : ∀ x ∈ T, x.id ≠ i := fun x hm e => hx ⟨x, hm, e⟩
    have h1 := h .nil
    have h2 := h (.agg [])
    rw [at_tab_none hap hn] at h1 h2
    rw [← h2] at h1
    cases h1
theorem wpList_next_tab (w : World) {ops : Array Oper} {rest : List Oper} {o : Oper} {a : Act} {Q : Exit → Act → World → Prop} (hg : o.guard = none) (it : Operand) (hop : o.op = Op.next it false)
    (b r n : Nat) (T : List Inf) (hap : IdsApart T) (left : Lit → Bool) (cnt : Nat) (hit : a.eval it = .pointer (some ⟨r, 0, none⟩)) (h : w.ranges Try.prog 3 rInf b r n (tabD T) left cnt)
    (hDone : cnt = 0 → (∀ kl, left kl = false) → wpList Try.prog ops Q rest (a.put o.dst (.tuple #[.bool false])) w)
    (hMore : ∀ (x : Inf) (w' : World) (cnt' : Nat), x ∈ T → left (kInf x) = true → w'.ranges Try.prog 3 rInf b r n (tabD T) (fun z => left z && !z.sameKey (kInf x)) cnt' → cnt' < cnt →
      w.grownBy w' (some r) → w'.heap.size = w.heap.size → (Instr.entry (.pointer (some ⟨r, 0, none⟩))).run Try.prog w' = .ok (.tuple #[.int .i64 x.id, .agg #[.int .i64 x.id, .int .i64 x.lev, .int .i64 x.used]]) w' →
      wpList Try.prog ops Q rest (a.put o.dst (.tuple #[.bool true, .int .i64 x.id, .agg #[.int .i64 x.id, .int .i64 x.lev, .int .i64 x.used]])) w') :
    wpList Try.prog ops Q (o :: rest) a w :=
  wpList_next_ranges w hg it hop 3 law3 rInf (Value.int .i64) Inf.val (fun key kl hkey => by obtain ⟨x, rfl, _⟩ := Maps.keyOf_int_inv Try.underlying3 hkey; exact ⟨x, rfl⟩) (fun v y hv => by obtain ⟨c, rfl, _⟩ := rInf_inv hv; exact ⟨c, rfl⟩)
    b r n (tabD T) left cnt hit h hDone (fun k c kl y w' cnt' hkey hlk hv hat hrg hlt hgr hsz hen => by
      obtain ⟨k', ek, rfl, hwx⟩ := Maps.keyOf_int_inv Try.underlying3 hkey
      cases ek
      obtain ⟨c', ec, rfl⟩ := rInf_inv hv
      obtain ⟨x, hx, rfl, hd⟩ := tab_hit hap hat
      have hc : c = c' := by cases c; cases c'; simp [Inf.val] at ec; simp [ec]
      have : c' = x := dInf_inj hd
      subst hc; subst this
      exact hMore c w' cnt' hx hlk hrg hlt hgr hsz hen)
/-- What the loop has gathered. -/
structure Coll (T zs : List Inf) (left : Lit → Bool) : Prop where
  sub : ∀ x ∈ zs, x ∈ T
  apart : IdsApart zs
  mem : ∀ x ∈ T, left (kInf x) = !zs.any (fun y => y.id == x.id)
theorem Coll.start (T : List Inf) : Coll T [] (Maps.has (tabD T)) := ⟨by simp, by simp [IdsApart], fun x hx => by
  show Maps.has (tabD T) (.int .i64 x.id) = _
  rw [has_tab]; simp only [List.any_nil, Bool.not_false, List.any_eq_true]; exact ⟨x, hx, by simp⟩⟩
theorem Coll.step {T zs : List Inf} {left : Lit → Bool} (h : Coll T zs left) {x : Inf} (hx : x ∈ T) (hl : left (kInf x) = true) : Coll T (zs ++ [x]) (fun z => left z && !z.sameKey (kInf x)) := by
  have hn := h.mem x hx
  rw [hl] at hn
  simp only [Bool.true_eq, Bool.not_eq_true', List.any_eq_false] at hn
  refine ⟨fun y hy => ?_, ?_, fun y hy => ?_⟩
  · rcases List.mem_append.1 hy with hy | hy
    · exact h.sub y hy
    · simp at hy; subst hy; exact hx
  · unfold IdsApart
    rw [List.pairwise_append]
    refine ⟨h.apart, by simp, fun y hy z hz => ?_⟩
    simp at hz; subst hz
    simpa using hn y hy
  · show (left (kInf y) && !(Lit.int .i64 y.id).sameKey (.int .i64 x.id)) = _
    rw [same_int, h.mem y hy, List.any_append]
    simp only [List.any_cons, List.any_nil, Bool.or_false, Bool.not_or]
    rw [Bool.beq_comm]
theorem id_inj : ∀ {T : List Inf}, IdsApart T → ∀ x ∈ T, ∀ y ∈ T, x.id = y.id → x = y
  | [], _, x, hx, _, _, _ => by simp at hx
  | a :: r, h, x, hx, y, hy, e => by
    obtain ⟨h1, h2⟩ := List.pairwise_cons.1 h
    rcases List.mem_cons.1 hx with hx' | hx' <;> rcases List.mem_cons.1 hy with hy' | hy'
    · rw [hx', hy']
    · exact absurd (hx' ▸ e) (h1 y hy')
    · exact absurd (hy' ▸ e.symm) (h1 x hx')
    · exact id_inj h2 x hx' y hy' e
theorem Coll.perm {T zs : List Inf} {left : Lit → Bool} (h : Coll T zs left) (hl : ∀ kl, left kl = false) (hap : IdsApart T) : zs.Perm T := by
  have nd : ∀ {l : List Inf}, IdsApart l → l.Nodup := fun {l} hh => List.Pairwise.imp (fun {a b} hab e => hab (by rw [e])) hh
  rw [List.perm_ext_iff_of_nodup (nd h.apart) (nd hap)]
  intro x
  refine ⟨h.sub x, fun hx => ?_⟩
  have := h.mem x hx
  rw [hl] at this
  simp only [Bool.false_eq, Bool.not_eq_false', List.any_eq_true] at this
  obtain ⟨y, hy, hyx⟩ := this
  have hyT := h.sub y hy
  have : y = x := id_inj hap y hyT x hx (by simpa using hyx)
  exact this ▸ hy
theorem inf_info : (Try.prog.info? 32).map (fun i => (i.zero, i.size, i.bytes)) = some (some (.agg #[.int .i64 0, .int .i64 0, .int .i64 0]), 3, 24) := by kernel_rfl
theorem sortI_perm {a b : List Inf} (h : a.Perm b) : sortI a = sortI b := by
  have tr : ∀ x y z : Inf, (!bt y x) = true → (!bt z y) = true → (!bt z x) = true := fun x y z h1 h2 => by
    have := swo_cf.ntrans z y x
    rw [lt_cf, lt_cf, lt_cf] at this
    simp at h1 h2 ⊢
    exact this h2 h1
  have to : ∀ x y : Inf, ((!bt y x) || (!bt x y)) = true := fun x y => by
    cases h1 : bt y x
    · rfl
    · cases h2 : bt x y
      · rfl
      · have h3 := swo_cf.trans x y x
        rw [lt_cf, lt_cf, lt_cf] at h3
        have h4 := swo_cf.irrefl x
        rw [lt_cf] at h4
        rw [h3 h2 h1] at h4; cases h4
  refine List.Perm.eq_of_pairwise (le := fun x y => (!bt y x) = true) (fun x y _ _ h1 h2 => ?_) (List.pairwise_mergeSort tr to a) (List.pairwise_mergeSort tr to b) ((List.mergeSort_perm _ _).trans (h.trans (List.mergeSort_perm _ _).symm))
  exact tot_cf x y (by rw [lt_cf]; simpa using h2) (by rw [lt_cf]; simpa using h1)
theorem row_ne_iter_of {w : World} {base e size : Nat} {v : Value} {n : Nat} {xs : List Value} (h : w.ownsRow (base + 1) e size v n xs) : v.ownBlock = none ∨ v.ownBlock ≠ some base := by
  rcases h.2 with ⟨rfl, _⟩ | ⟨g, cap, cur, rfl, hb, _⟩
  · exact .inl rfl
  · exact .inr (fun e => by simp [Value.ownBlock] at e; omega)
theorem own_ne {w : World} {base e size b : Nat} {v : Value} {n : Nat} {xs : List Value} (h : w.ownsRow (base + 1) e size v n xs) (hb : b ≤ base) : some b ≠ v.ownBlock := by
  rcases h.2 with ⟨rfl, _⟩ | ⟨g, cap, cur, rfl, hg, _⟩
  · simp [Value.ownBlock]
  · simp [Value.ownBlock]; omega
theorem own_lt {w : World} {base e size : Nat} {v : Value} {n : Nat} {xs : List Value} (h : w.ownsRow base e size v n xs) (k : Nat) (hk : v.ownBlock = some k) : base ≤ k := by
  rcases h.2 with ⟨rfl, _⟩ | ⟨g, cap, cur, rfl, hg, _⟩
  · simp [Value.ownBlock] at hk
  · simp [Value.ownBlock] at hk; omega
theorem cell_three_new (w : World) (x y z : Value) (t : TypeId) : ∀ j u, [x, y, z][j]? = some u → (w.alloc (.cells #[x, y, z] t)).cell? ((⟨w.heap.size, 0, none⟩ : Addr).add j) = some u := by
  intro j u hj
  match j, hj with
  | 0, hj => simp at hj; subst hj; simp [Addr.add]
  | 1, hj => simp at hj; subst hj; simp [Addr.add]
  | 2, hj => simp at hj; subst hj; simp [Addr.add]
set_option maxRecDepth 1000000 in
set_option maxHeartbeats 1000000 in
theorem sorted_any (w : World) (p m : Nat) (T : List Inf) (c : Int) (h : Tab w p m T c) (hT : T.length < 1000000) :
    Calls Try.prog 66 #[.pointer (some ⟨p, 0, none⟩)] w fun e w' => ∃ v, e = .returned v ∧ w'.ownsRow w.heap.size 32 3 v T.length ((sortI T).flatMap Inf.enc) ∧ RowKit.Below w.heap.size w w' := by
  have h0 := h.cell0
  obtain ⟨i0, hi, hz0, hz1, hz2⟩ := info_parts inf_info
  go_enter Try.func66, Try.ntmps66
  go_wp2_with (first | (at_range; refine wpList_range_own _ rfl _ 76 rfl 3 32 law3 Try.underlying76 _ m T.length (tabD T) rfl h.map ?_; intro w0 hrg0 hg0 hs0) | go_in)
  go_frame
  go_loopw [3] (fun v wr => ∃ zs left cnt, wr.ranges Try.prog 3 rInf m w.heap.size T.length (tabD T) left cnt ∧ wr.ownsRow (w.heap.size + 1) 32 3 v zs.length (zs.flatMap Inf.enc) ∧ RowKit.Below w.heap.size w wr ∧ w.heap.size + 1 ≤ wr.heap.size ∧ Coll T zs left ∧ zs.length + cnt ≤ T.length)
    (fun _ wr => wr.rangeLeft m w.heap.size)
  case atStart =>
    refine ⟨[], _, _, hrg0, World.ownsRow_nil _ _ _ _, (RowKit.Below.refl _ _).grown hg0 (Nat.le_refl _) (by simp), by omega, Coll.start T, by rw [size_tab]; simp⟩
  case round =>
    obtain ⟨zs, left, cnt, hrg, hown, hbw, hsz, hcl, hcnt⟩ := hrel
    go_wp2_with (first | (at_next; refine wpList_next_tab _ rfl _ rfl m w.heap.size T.length T h.apart left cnt rfl hrg ?_ ?_) | fail)
    · intro hc0 hl0
      have hp := hcl.perm hl0 h.apart
      have hlen : zs.length = T.length := hp.length_eq
      have hsort : sortI zs = sortI T := sortI_perm hp
      have hso := hown.2
      go_wp2_with fail
      rcases hso with ⟨rfl, hz⟩ | ⟨g, cap, cur, rfl, hg, hb, h1, h2, h3, h4⟩
      · refine (sortFunc_none none 0 wr).mono ?_
        rintro e w' ⟨rfl, rfl⟩
        go_wp2
        go_ret
        have hT0 : T = [] := List.eq_nil_of_length_eq_zero (by omega)
        subst hT0
        have hs0 : sortI ([] : List Inf) = [] := by simp [sortI]
        rw [hs0]
        exact ⟨_, rfl, World.ownsRow_nil _ _ _ _, hbw⟩
      · have hH := holdsK_block (enc := Inf.enc) (k := 3) (fun _ => rfl) (by decide) hb h4
        have hlt : g < wr.heap.size := (Array.getElem?_eq_some_iff.1 hb).1
        refine (sortFunc_any g 0 cap zs.toArray wr hH hlt (by simp; omega)).mono ?_
        rintro e w' ⟨rfl, n, os, rfl⟩
        go_wp2
        go_ret
        have hfin := ownsRow_sortK (enc := Inf.enc) (k := 3) (base := w.heap.size) (n := n) (os := os) (ts := sortI T) (m := zs.length) (fun _ => rfl) (by decide) (by rw [← hsort]; simp [sortI]) (by omega) hb h1 h2 h3
        rw [hlen] at hfin
        exact ⟨_, rfl, hfin, hbw.grown (grownBy_sortK _) (by omega) (fun k hk => by cases hk; omega)⟩
    · intro x w1 cnt1 hx hlx hrg1 hlt hg1 hs1 hen
      have hown1 := hown.kept hg1 (row_ne_iter_of hown)
      have hcell : ∀ j u, [Value.int .i64 x.id, .int .i64 x.lev, .int .i64 x.used][j]? = some u → ((w1.alloc (.cells #[.int .i64 x.id, .int .i64 x.lev, .int .i64 x.used] 32)).alloc (.cells #[.int .i64 x.id, .int .i64 x.lev, .int .i64 x.used] 32)).cell? ((⟨wr.heap.size + 1, 0, none⟩ : Addr).add j) = some u := by
        have e : (w1.alloc (.cells #[.int .i64 x.id, .int .i64 x.lev, .int .i64 x.used] 32)).heap.size = wr.heap.size + 1 := by simp [hs1]
        rw [← e]; exact cell_three_new _ _ _ _ _
      go_wp2_with (at_builtin; refine wpList_append_own _ rfl _ _ 29 rfl (w.heap.size + 1) 32 i0 (.agg #[.int .i64 0, .int .i64 0, .int .i64 0]) 3 24 Try.underlying29 hi hz0 hz1 hz2 rfl (by decide) _ _ _ rfl ((hown1.alloc _).alloc _) ⟨wr.heap.size + 1, 0, none⟩ 1 1 [.int .i64 x.id, .int .i64 x.lev, .int .i64 x.used] rfl rfl hcell (enc1 x) (by simp only [maxLen]; omega) (by omega) (by simp; omega) ?_; intro v' w2 hown2 hg2 _)
      have hlt' : m < w.heap.size := h.map.lt
      have hrg2 : w2.ranges Try.prog 3 rInf m w.heap.size T.length (tabD T) (fun z => left z && !z.sameKey (kInf x)) cnt1 := ((hrg1.alloc _).alloc _).kept hg2 (own_ne hown (by omega)) (own_ne hown (Nat.le_refl _))
      go_roundw
      case rel =>
        refine ⟨zs ++ [x], _, cnt1, hrg2, ?_, ?_, ?_, hcl.step hx hlx, by simp; omega⟩
        · have e1 : (zs ++ [x]).flatMap Inf.enc = zs.flatMap Inf.enc ++ [.int .i64 x.id, .int .i64 x.lev, .int .i64 x.used] := by simp [Inf.enc]
          rw [e1]
          simpa using hown2
        · have b1 : RowKit.Below w.heap.size w w1 := hbw.grown hg1 (by omega) (fun k hk => by cases hk; exact Nat.le_refl _)
          have b2 := (b1.alloc (by omega) (.cells #[.int .i64 x.id, .int .i64 x.lev, .int .i64 x.used] 32)).alloc (by simp; omega) (.cells #[.int .i64 x.id, .int .i64 x.lev, .int .i64 x.used] 32)
          exact b2.grown hg2 (by simp; omega) (fun k hk => by have := own_lt hown k hk; omega)
        · have := hg2.size; simp at this; omega
      case measure => rw [hrg2.left_eq, hrg.left_eq]; exact hlt
end Go.Proofs.Ytcpcoomkapblcaa
