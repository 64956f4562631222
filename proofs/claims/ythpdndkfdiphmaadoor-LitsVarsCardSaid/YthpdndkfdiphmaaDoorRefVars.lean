/- The reference's Greatest and Vars over a slice of integers. -/
import Derived.Test.YthpdndkfdiphmaaDoorAwake
import Derived.Maps.AppendAt
namespace Go.Proofs.YthpdndkfdiphmaaDoor
open Go Go.RowKit
theorem LVar_nonneg (x : Int) : 0 ≤ LVar x ∧ LVar x ≤ 1048576 := by
  unfold LVar
  cases h : LRight x
  · simp
  · obtain ⟨h0, h1, h2⟩ := LRight_t h
    simp; split <;> omega
theorem LVar_pos {x : Int} : 0 < LVar x ↔ LRight x = true := by
  unfold LVar
  cases h : LRight x
  · simp
  · obtain ⟨h0, h1, h2⟩ := LRight_t h
    simp; split <;> omega
theorem grl_vl_snoc (zs : List Int) (k : Nat) (h : k < zs.length) : grl (vl (zs.take (k + 1))) = if grl (vl (zs.take k)) < LVar (zs[k]?.getD 0) then LVar (zs[k]?.getD 0) else grl (vl (zs.take k)) := by
  rw [vl_snoc zs k h]
  cases hr : LRight (zs[k]?.getD 0)
  · have : LVar (zs[k]?.getD 0) = 0 := by unfold LVar; rw [hr]; simp
    have h0 : 0 ≤ grl (vl (zs.take k)) := by
      have : ∀ (l : List Int) (a : Int), 0 ≤ a → 0 ≤ l.foldl (fun a b => if a < b then b else a) a := by
        intro l
        induction l with
        | nil => intro a h; exact h
        | cons x t ih => intro a h; simp only [List.foldl_cons]; apply ih; split <;> omega
      exact this _ 0 (by omega)
    simp only [Bool.false_eq_true, if_false, List.append_nil]
    rw [this, if_neg (by omega)]
  · simp only [if_true]; rw [grl_snoc]
set_option maxRecDepth 10000000 in
set_option maxHeartbeats 1000000 in
theorem RGreatest_any (v : Value) (zs : List Int) (hlen : zs.length ≤ 1000000) (w : World) (hI : RdI w.heap.size w v zs) :
    Calls Tryd.prog 32 #[v] w fun e w' => e = .returned (.int .i64 (grl (vl zs))) ∧ w = w' := by
  obtain ⟨A, c, rfl, hc, hr⟩ := hI
  by_cases hz : 0 < zs.length
  · obtain ⟨b, o, rfl, hb, hcell⟩ := hr hz
    clear hr
    have Hcell := Lib.hid hcell; clear hcell
    go_enter Tryd.func32, Tryd.ntmps32
    go_wp2
    go_loop [3, 4] (fun g i => ∃ k : Nat, k ≤ zs.length ∧ i = .int .i64 k ∧ g = .int .i64 (grl (vl (zs.take k)))) (fun _ i => zs.length - (intOf i).toNat)
    case atStart => exact ⟨0, by omega, rfl, rfl⟩
    case round =>
      obtain ⟨k, hk, rfl, rfl⟩ := hrel
      by_cases hlt : k < zs.length
      · have hck := Hcell.out k hlt
        have hs := grl_vl_snoc zs k hlt
        generalize hx : zs[k]?.getD 0 = x at *
        generalize hg : grl (vl (zs.take k)) = g at *
        have Hs := Lib.hid hs; have Hx := Lib.hid hx; have Hg := Lib.hid hg
        clear hs hx hg
        by_cases hgt : g < LVar x
        all_goals
          go_wp2_with (go_at_call 43; refine (RVar_any _ _).mono ?_; rintro e w' ⟨rfl, rfl⟩)
          go_round
          case rel => exact ⟨k + 1, by omega, by go_num, by rw [Hs.out]; first | rw [if_pos (by omega)] | rw [if_neg (by omega)]⟩
          case measure => simp [intOf]; omega
      · obtain rfl : k = zs.length := by omega
        go_wp2
        go_ret
        exact ⟨ri (by simp), rfl⟩
  · have hz0 : zs = [] := List.eq_nil_of_length_eq_zero (by omega)
    subst hz0
    clear hr hz
    go_enter Tryd.func32, Tryd.ntmps32
    go_wp2
    go_loop [3, 4] (fun g i => i = .int .i64 0 ∧ g = .int .i64 0) (fun _ _ => 0)
    case atStart => exact ⟨rfl, rfl⟩
    case round =>
      obtain ⟨rfl, rfl⟩ := hrel
      go_wp2
      go_ret
      exact ⟨rfl, rfl⟩
/-- The least variable beyond L; 0 if there is none. -/
def nextV (L : Int) (zs : List Int) : Int := zs.foldl (fun b x => if L < LVar x ∧ (b = 0 ∨ LVar x < b) then LVar x else b) 0
theorem nextV_snoc (L : Int) (zs : List Int) (k : Nat) (h : k < zs.length) : nextV L (zs.take (k + 1)) = if L < LVar (zs[k]?.getD 0) ∧ (nextV L (zs.take k) = 0 ∨ LVar (zs[k]?.getD 0) < nextV L (zs.take k)) then LVar (zs[k]?.getD 0) else nextV L (zs.take k) := by
  have e : zs[k]?.getD 0 = zs[k] := by simp [h]
  rw [e]; unfold nextV
  rw [List.take_succ_eq_append_getElem h, List.foldl_append]; rfl
theorem nextV_spec (L : Int) (hL : 0 ≤ L) : ∀ (n : Nat) (zs : List Int), zs.length = n → (nextV L zs = 0 ∧ ∀ x ∈ zs, LVar x ≤ L) ∨ (L < nextV L zs ∧ (∃ x ∈ zs, LVar x = nextV L zs) ∧ ∀ x ∈ zs, L < LVar x → nextV L zs ≤ LVar x) := by
  intro n
  induction n with
  | zero =>
    intro zs h
    have : zs = [] := List.eq_nil_of_length_eq_zero h
    subst this; exact .inl ⟨rfl, by simp⟩
  | succ n ih =>
    intro zs h
    have hne : zs ≠ [] := by intro e; subst e; simp at h
    obtain ⟨t, y, rfl⟩ : ∃ t y, zs = t ++ [y] := ⟨zs.dropLast, zs.getLast hne, (List.dropLast_concat_getLast hne).symm⟩
    have e : nextV L (t ++ [y]) = if L < LVar y ∧ (nextV L t = 0 ∨ LVar y < nextV L t) then LVar y else nextV L t := by unfold nextV; rw [List.foldl_append]; rfl
    have i := ih t (by simpa using h)
    rw [e]
    by_cases hc : L < LVar y ∧ (nextV L t = 0 ∨ LVar y < nextV L t)
    · rw [if_pos hc]
      right
      refine ⟨hc.1, ⟨y, by simp, rfl⟩, fun x hx hlx => ?_⟩
      rcases List.mem_append.1 hx with hx | hx
      · rcases i with ⟨i0, i1⟩ | ⟨i0, i1, i2⟩
        · have := i1 x hx; omega
        · have := i2 x hx hlx
          rcases hc.2 with h0 | h0 <;> omega
      · simp at hx; subst hx; omega
    · rw [if_neg hc]
      rcases i with ⟨i0, i1⟩ | ⟨i0, ⟨x0, hx0, hx0'⟩, i2⟩
      · left
        refine ⟨i0, fun x hx => ?_⟩
        rcases List.mem_append.1 hx with hx | hx
        · exact i1 x hx
        · simp at hx; subst hx
          by_cases h1 : L < LVar x
          · exact absurd ⟨h1, .inl i0⟩ hc
          · omega
      · right
        refine ⟨i0, ⟨x0, by simp [hx0], hx0'⟩, fun x hx hlx => ?_⟩
        rcases List.mem_append.1 hx with hx | hx
        · exact i2 x hx hlx
        · simp at hx; subst hx
          by_cases h1 : LVar x < nextV L t
          · exact absurd ⟨hlx, .inr h1⟩ hc
          · omega
theorem mem_vl {zs : List Int} {y : Int} : y ∈ vl zs ↔ ∃ x ∈ zs, 0 < LVar x ∧ LVar x = y := by
  unfold vl
  simp only [List.mem_map, List.mem_filter]
  constructor
  · rintro ⟨x, ⟨h1, h2⟩, h3⟩; exact ⟨x, h1, LVar_pos.2 h2, h3⟩
  · rintro ⟨x, h1, h2, h3⟩; exact ⟨x, ⟨h1, LVar_pos.1 h2⟩, h3⟩
/-- What has been found once all variables up to L are there. -/
def upV (L : Int) (zs : List Int) : List Int := (vset (vl zs)).filter (· ≤ L)
theorem upV_zero (zs : List Int) : upV 0 zs = [] := by
  unfold upV
  rw [List.filter_eq_nil_iff]
  intro y hy
  have := (vset_sorted _ (vl zs) rfl).2.1 y |>.1 hy
  obtain ⟨x, _, h1, h2⟩ := mem_vl.1 this
  simp; omega
theorem upV_done {L : Int} {zs : List Int} (h : ∀ x ∈ zs, LVar x ≤ L) : upV L zs = vset (vl zs) := by
  unfold upV
  rw [List.filter_eq_self]
  intro y hy
  have := (vset_sorted _ (vl zs) rfl).2.1 y |>.1 hy
  obtain ⟨x, hx, h1, h2⟩ := mem_vl.1 this
  have := h x hx
  simp; omega
theorem filter_next : ∀ (S : List Int) (L b : Int), S.Pairwise (· < ·) → L < b → b ∈ S → (∀ y ∈ S, L < y → b ≤ y) → S.filter (· ≤ b) = S.filter (· ≤ L) ++ [b]
  | [], _, _, _, _, h, _ => by simp at h
  | a :: t, L, b, hs, hlt, hm, hall => by
    obtain ⟨h1, h2⟩ := List.pairwise_cons.1 hs
    by_cases ha : a ≤ L
    · have hbt : b ∈ t := by
        rcases List.mem_cons.1 hm with e | e
        · omega
        · exact e
      have i := filter_next t L b h2 hlt hbt (fun y hy => hall y (by simp [hy]))
      rw [List.filter_cons_of_pos (by simp; omega), List.filter_cons_of_pos (by simpa using ha), i]; rfl
    · have hab : b ≤ a := hall a (by simp) (by omega)
      have e : a = b := by
        rcases List.mem_cons.1 hm with e | e
        · exact e.symm
        · have := h1 b e; omega
      subst e
      have e1 : t.filter (· ≤ a) = [] := by
        rw [List.filter_eq_nil_iff]; intro y hy; have := h1 y hy; simp; omega
      have e2 : t.filter (· ≤ L) = [] := by
        rw [List.filter_eq_nil_iff]; intro y hy; have := h1 y hy; simp; omega
      rw [List.filter_cons_of_pos (by simp), List.filter_cons_of_neg (by simpa using ha), e1, e2]; rfl
theorem upV_next {L : Int} {zs : List Int} (hL : 0 ≤ L) (h1 : L < nextV L zs) (h2 : ∃ x ∈ zs, LVar x = nextV L zs) (h3 : ∀ x ∈ zs, L < LVar x → nextV L zs ≤ LVar x) : upV (nextV L zs) zs = upV L zs ++ [nextV L zs] := by
  obtain ⟨s1, s2, _⟩ := vset_sorted _ (vl zs) rfl
  refine filter_next _ _ _ s1 h1 ?_ ?_
  · obtain ⟨x, hx, e⟩ := h2
    exact (s2 _).2 (mem_vl.2 ⟨x, hx, by omega, e⟩)
  · intro y hy hly
    obtain ⟨x, hx, e1, e2⟩ := mem_vl.1 ((s2 y).1 hy)
    have := h3 x hx (by omega)
    omega
theorem upV_len (L : Int) (zs : List Int) : (upV L zs).length ≤ zs.length := by
  have h1 := (vset_sorted _ (vl zs) rfl).2.2
  have h2 : (upV L zs).length ≤ (vset (vl zs)).length := List.length_filter_le _ _
  have h3 : (vl zs).length ≤ zs.length := by have := vl_take_le zs zs.length; rw [List.take_length] at this; exact this
  omega
theorem meas_lt {S : List Int} {L b : Int} (h : L < b) (hb : b ∈ S) : (S.filter (fun y => decide (b < y))).length < (S.filter (fun y => decide (L < y))).length := by
  induction S with
  | nil => simp at hb
  | cons a t ih =>
    have mono : ∀ l : List Int, (l.filter (fun y => decide (b < y))).length ≤ (l.filter (fun y => decide (L < y))).length := by
      intro l
      induction l with
      | nil => simp
      | cons y l ih => simp only [List.filter_cons]; split <;> split <;> simp_all <;> omega
    rcases List.mem_cons.1 hb with e | e
    · subst e
      rw [List.filter_cons_of_neg (by simp), List.filter_cons_of_pos (by simpa using h)]
      have := mono t
      simp only [List.length_cons]; omega
    · have i := ih e
      simp only [List.filter_cons]; split <;> split <;> simp_all <;> omega
theorem int_info : (Tryd.prog.info? 3).map (fun i => (i.zero, i.size, i.bytes)) = some (some (.int .i64 0), 1, 8) := by kernel_rfl
/-- A result that is a row of the call's own. -/
def RowPost (w : World) (ys : List Int) (e : Ending) (w' : World) : Prop :=
  ∃ v, e = .returned v ∧ w'.ownsRow w.heap.size 3 1 v ys.length (ys.map (.int .i64)) ∧ Below w.heap.size w w'
set_option maxRecDepth 10000000 in
set_option maxHeartbeats 2000000 in
theorem RVars_any (v : Value) (zs : List Int) (hlen : zs.length ≤ 900000) (w : World) (hI : RdI w.heap.size w v zs) :
    Calls Tryd.prog 31 #[v] w (RowPost w (vset (vl zs))) := by
  obtain ⟨i0, hi, hz0, hz1, hz2⟩ := info_parts int_info
  have HI' := Lib.hid hI
  obtain ⟨A, c, rfl, hc, hr⟩ := hI
  clear hr
  go_enter Tryd.func31, Tryd.ntmps31
  go_wp2
  go_loopw [2, 3, 4] (fun r o l wr => r = .slice none 0 0 ∧ ∃ L : Int, 0 ≤ L ∧ L ≤ 1048576 ∧ l = .int .i64 L ∧ wr.ownsRow w.heap.size 3 1 o (upV L zs).length ((upV L zs).map (.int .i64)) ∧ Below w.heap.size w wr)
    (fun _ _ l _ => ((vset (vl zs)).filter (fun y => decide (intOf l < y))).length)
  case atStart => exact ⟨rfl, 0, by omega, by omega, rfl, by rw [upV_zero]; exact World.ownsRow_nil _ _ _ _, Below.refl _ _⟩
  case round =>
    obtain ⟨rfl, L, hL0, hL1, rfl, hown, hbw⟩ := hrel
    have hrd := HI'.out.below hbw
    obtain ⟨A', c', e', _, hcell⟩ := hrd
    injection e' with e1 e2 e3
    subst e1 e3
    have Hcell := Lib.hid hcell; clear hcell e2
    have hvf : ∃ a b c, u3 = .slice a b c := by
      rcases hown.2 with ⟨rfl, _⟩ | ⟨g, cap, cur, rfl, _⟩
      · exact ⟨_, _, _, rfl⟩
      · exact ⟨_, _, _, rfl⟩
    obtain ⟨oa, ol, oc, rfl⟩ := hvf
    have hul := upV_len L zs
    have Hown := Lib.hid hown; clear hown
    go_wp2
    go_loop [5, 6] (fun bst i => ∃ k : Nat, k ≤ zs.length ∧ i = .int .i64 k ∧ bst = .int .i64 (nextV L (zs.take k))) (fun _ i => zs.length - (intOf i).toNat)
    case atStart => exact ⟨0, by omega, rfl, rfl⟩
    case round =>
      obtain ⟨k, hk, rfl, rfl⟩ := hrel
      by_cases hlt : k < zs.length
      · obtain ⟨b, o, rfl, hb, hcl⟩ := Hcell.out (by omega)
        have hck := hcl k hlt
        clear hcl
        have hs := nextV_snoc L zs k hlt
        obtain ⟨hv0, hv1⟩ := LVar_nonneg (zs[k]?.getD 0)
        have ez : zs[k]?.getD 0 = zs[k] := by simp [hlt]
        rw [ez] at hck hs hv0 hv1
        generalize hx : zs[k] = x at *
        generalize hg : nextV L (zs.take k) = g at *
        have Hs := Lib.hid hs; have Hx := Lib.hid hx; have Hg := Lib.hid hg
        clear hs hx hg Hcell ez
        by_cases h1 : L < LVar x
        · by_cases h2 : g = 0
          · have h2' : (g == 0) = true := by simpa using h2
            have H2 := Lib.hid h2; clear h2
            go_wp2_with (go_at_call 43; refine (RVar_any _ _).mono ?_; rintro e w' ⟨rfl, rfl⟩)
            all_goals
              go_round
              case rel => exact ⟨k + 1, by omega, by go_num, by rw [Hs.out, if_pos ⟨h1, .inl H2.out⟩]⟩
              case measure => simp [intOf]; omega
          · have h2' : (g == 0) = false := by simpa using h2
            have H2 := Lib.hid h2; clear h2
            by_cases h3 : LVar x < g
            · go_wp2_with (go_at_call 43; refine (RVar_any _ _).mono ?_; rintro e w' ⟨rfl, rfl⟩)
              all_goals
                go_round
                case rel => exact ⟨k + 1, by omega, by go_num, by rw [Hs.out, if_pos ⟨h1, .inr h3⟩]⟩
                case measure => simp [intOf]; omega
            · go_wp2_with (go_at_call 43; refine (RVar_any _ _).mono ?_; rintro e w' ⟨rfl, rfl⟩)
              all_goals
                go_round
                case rel => exact ⟨k + 1, by omega, by go_num, by rw [Hs.out, if_neg (fun h => by rcases h.2 with h | h; exact H2.out h; omega)]⟩
                case measure => simp [intOf]; omega
        · go_wp2_with (go_at_call 43; refine (RVar_any _ _).mono ?_; rintro e w' ⟨rfl, rfl⟩)
          all_goals
            go_round
            case rel => exact ⟨k + 1, by omega, by go_num, by rw [Hs.out, if_neg (fun h => by omega)]⟩
            case measure => simp [intOf]; omega
      · obtain rfl : k = zs.length := by omega
        have hn := nextV_spec L hL0 _ zs rfl
        clear Hcell
        rw [List.take_length]
        by_cases hb0 : nextV L zs = 0
        · have hdone : upV L zs = vset (vl zs) := by
            rcases hn with ⟨_, h⟩ | ⟨h, _⟩
            · exact upV_done h
            · omega
          have hb0' : (nextV L zs == 0) = true := by simpa using hb0
          have Hdone := Lib.hid hdone
          clear hdone hn hb0
          go_wp2
          go_ret
          exact ⟨.slice oa ol oc, rfl, by rw [← Hdone.out]; exact Hown.out, hbw⟩
        · have hb0' : (nextV L zs == 0) = false := by simpa using hb0
          obtain ⟨n1, n2, n3⟩ : L < nextV L zs ∧ (∃ x ∈ zs, LVar x = nextV L zs) ∧ ∀ x ∈ zs, L < LVar x → nextV L zs ≤ LVar x := by
            rcases hn with ⟨h, _⟩ | h
            · exact absurd h hb0
            · exact h
          have hup := upV_next hL0 n1 n2 n3
          have hul' := upV_len (nextV L zs) zs
          have hmem : nextV L zs ∈ vset (vl zs) := by
            obtain ⟨x, hx, e⟩ := n2
            exact ((vset_sorted _ (vl zs) rfl).2.1 _).2 (mem_vl.2 ⟨x, hx, by omega, e⟩)
          have hm := meas_lt n1 hmem
          have hb1 : nextV L zs ≤ 1048576 := by obtain ⟨x, _, e⟩ := n2; have := LVar_nonneg x; omega
          have Hup := Lib.hid hup; have Hm := Lib.hid hm; have Hul' := Lib.hid hul'
          clear hup hm hn n2 n3 hmem hb0 hul'
          generalize nextV L zs = nb at *
          have hown := Hown.out
          go_wp2_with (at_builtin; refine wpList_append_own _ rfl _ _ 42 rfl w.heap.size 3 i0 (.int .i64 0) 1 8 Tryd.underlying42 hi hz0 hz1 hz2 rfl (by decide) _ _ _ rfl (hown.alloc _) ⟨wr.heap.size, 0, none⟩ 1 1 [.int .i64 nb] rfl rfl (cell_one_new _ _ _) (by simp [Value.oneCell']) (by simp only [maxLen]; omega) (by omega) (by have := hbw.size; simp; omega) ?_; intro v' w1 hown' hgrow _)
          go_roundw
          case rel =>
            refine ⟨rfl, nb, by omega, hb1, rfl, ?_, (hbw.alloc hbw.size _).grown hgrow (by have := hbw.size; simp; omega) (fun g e => (Hown.out.lt g e).1)⟩
            rw [Hup.out, List.length_append, List.map_append]
            exact hown'
          case measure => exact Hm.out
end Go.Proofs.YthpdndkfdiphmaaDoor
