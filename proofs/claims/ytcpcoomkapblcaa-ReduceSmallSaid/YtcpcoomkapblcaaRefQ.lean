import Derived.Test.YtcpcoomkapblcaaRefW
import Derived.Deep.AppendLies
import Derived.Deep.AppendSrc
import Derived.Deep.DrawnRows
import Derived.Deep.RegionLaw
import Derived.Deep.DeepCutAuto
open Go Go.RowKit Go.Maps
namespace Go.Proofs.Ytcpcoomkapblcaa
open Go.Shelf
attribute [local go_sem ↓] Go.wp_at_zero Go.wp_at_succ
theorem row_cellsE {w : World} {base g cap n : Nat} {e : TypeId} {l : List Inf} (h : w.ownsRow base e 3 (.slice (some ⟨g, 0, none⟩) n cap) n (l.flatMap Inf.enc)) (k : Nat) (hk : k < l.length) : InfAt w g (0 + k * 3) (l[k]?.getD ⟨0, 0, 0⟩) := by
  rw [Nat.zero_add]
  have hlen : (l.flatMap Inf.enc).length = l.length * 3 := flat_length (enc := Inf.enc) (k := 3) (fun _ => rfl) l
  have hn := h.1
  rw [hlen] at hn
  have e : ∀ r, r < 3 → w.cell? ⟨g, k * 3 + r, none⟩ = (Inf.enc (l[k]?.getD ⟨0, 0, 0⟩))[r]? := fun r hr => by
    rw [h.cellAt (k * 3 + r) (by omega), flat_get (enc := Inf.enc) (k := 3) (fun _ => rfl) (by decide) l (k * 3 + r) (by omega)]
    have e1 : (k * 3 + r) / 3 = k := by omega
    have e2 : (k * 3 + r) % 3 = r := by omega
    rw [e1, e2]
    rfl
  exact ⟨e 0 (by decide), e 1 (by decide), e 2 (by decide)⟩
theorem RdS.of_ownE {w : World} {base n : Nat} {e : TypeId} {v : Value} {l : List Inf} (h : w.ownsRow base e 3 v n (l.flatMap Inf.enc)) : RdS w.heap.size w v l := by
  have hl := h.1
  rw [flat_length (enc := Inf.enc) (k := 3) (fun _ => rfl) l] at hl
  have h' := h
  rcases h.2 with ⟨rfl, h0⟩ | ⟨g, cap, cur, rfl, hbg, hh, hnc, hcm, hcs', htk⟩
  · have : l.length = 0 := by omega
    exact ⟨none, 0, by rw [this], by omega, fun h => by omega⟩
  · have hn : n = l.length := by omega
    subst hn
    exact ⟨_, cap, rfl, hnc, fun _ => ⟨g, 0, rfl, (h.lt g rfl).2, fun k hk => row_cellsE h' k hk⟩⟩
theorem findX_has (T : List Inf) (i : Int) (k : Nat) : (0 ≤ findX T i k ↔ hasI T i = true) ∧ (findX T i k < 0 ↔ hasI T i = false) ∧ -1 ≤ findX T i k ∧ findX T i k ≤ k + T.length := by
  induction T generalizing k with
  | nil => simp [findX, hasI]
  | cons x l ih =>
    rw [findX]
    by_cases h : x.id = i
    · rw [if_pos h]
      have : hasI (x :: l) i = true := hasI_iff.2 ⟨x, by simp, h⟩
      rw [this]; simp; omega
    · rw [if_neg h]
      have : hasI (x :: l) i = hasI l i := by unfold hasI; simp [h]
      rw [this]
      obtain ⟨h1, h2, h3, h4⟩ := ih (k + 1)
      exact ⟨h1, h2, h3, by simp at h4 ⊢; omega⟩
theorem RdS.news {B b off cap : Nat} {W : World} {T : List Inf} (h : RdS B W (.slice (some ⟨b, off, none⟩) T.length cap) T) : ∀ j u, (T.flatMap Inf.enc)[j]? = some u → W.cell? ((⟨b, off, none⟩ : Addr).add j) = some u := by
  intro j u hu
  have hlen : (T.flatMap Inf.enc).length = T.length * 3 := flat_length (enc := Inf.enc) (k := 3) (fun _ => rfl) T
  have hj : j < T.length * 3 := by rw [← hlen]; exact (List.getElem?_eq_some_iff.1 hu).1
  obtain ⟨A, c, e, _, hr⟩ := h
  injection e with e1 e2 e3
  obtain ⟨b', off', e', _, hc⟩ := hr (by omega)
  rw [← e1] at e'
  injection e' with e'
  injection e' with e4 e5
  subst e4 e5
  obtain ⟨h1, h2, h3⟩ := hc (j / 3) (by omega)
  rw [flat_get (enc := Inf.enc) (k := 3) (fun _ => rfl) (by decide) T j hj] at hu
  generalize T[j / 3]?.getD ⟨0, 0, 0⟩ = x at *
  have ha : ((⟨b, off, none⟩ : Addr).add j) = ⟨b, off + j, none⟩ := by unfold Addr.add; split <;> simp_all
  rw [ha]
  have h3' : j % 3 = 0 ∨ j % 3 = 1 ∨ j % 3 = 2 := by omega
  rcases h3' with e0 | e0 | e0
  · rw [e0] at hu
    rw [show off + j = off + j / 3 * 3 by omega, h1]
    exact hu
  · rw [e0] at hu
    rw [show off + j = off + j / 3 * 3 + 1 by omega, h2]
    exact hu
  · rw [e0] at hu
    rw [show off + j = off + j / 3 * 3 + 2 by omega, h3]
    exact hu
theorem RdS.news' {B cap : Nat} {A : Option Addr} {W : World} {T : List Inf} (h : RdS B W (.slice A T.length cap) T) : 0 < T.length → ∃ ad, A = some ad ∧ ∀ j u, (T.flatMap Inf.enc)[j]? = some u → W.cell? (ad.add j) = some u := by
  intro h0
  obtain ⟨A', c, e, _, hr⟩ := id h
  injection e with e1 e2 e3
  subst e1
  obtain ⟨b, off, rfl, _, _⟩ := hr h0
  exact ⟨_, rfl, h.news⟩
theorem enc_one (T : List Inf) : ∀ u ∈ T.flatMap Inf.enc, u.oneCell' = true := by
  intro u hu
  obtain ⟨x, _, hx⟩ := List.mem_flatMap.1 hu
  exact enc1 x u hx
theorem own_e (W : World) {base : Nat} (hb : base ≤ W.heap.size) : (W.alloc (.cells #[] 103)).ownsRow base 103 3 (.slice (some ⟨W.heap.size, 0, none⟩) 0 0) 0 [] :=
  World.ownsRow_made W #[] 0 hb (by simp) rfl
theorem alloc_cells {W : World} {p : Addr} {v : Value} (h : W.cell? p = some v) : (∀ o, (W.alloc o).cell? p = some v) ∧ (∀ o o', ((W.alloc o).alloc o').cell? p = some v) := by
  have h1 : ∀ (W : World), W.cell? p = some v → ∀ o, (W.alloc o).cell? p = some v := fun W h o => by
    have hlt := World.block_lt_of_cell? W p h
    rw [((Below.refl W.heap.size W).alloc (Nat.le_refl _) o).cell hlt]; exact h
  exact ⟨h1 W h, fun o o' => h1 _ (h1 W h o) o'⟩
theorem own_e' (W : World) (X : Obj) {base : Nat} (hb : base ≤ W.heap.size) : ((W.alloc X).alloc (.cells #[] 103)).ownsRow base 103 3 (.slice (some ⟨W.heap.size + 1, 0, none⟩) 0 0) 0 [] := by
  have := World.ownsRow_made (e := 103) (size := 3) (base := base) (W.alloc X) #[] 0 (by simp; omega) (by simp) rfl
  rwa [show (W.alloc X).heap.size = W.heap.size + 1 by simp] at this
/-- An append of nothing, at a step of a region that draws its order. -/
theorem step_append_zero {P : Program} {w : World} {ops : Array Oper} {o : Oper} {a : Act} {K : Act → World → Prop} {Q : Exit → Act → World → Prop} {E : Prop} (hgd : o.guard = none) (s x : Operand) (t : TypeId)
    (ho : o.op = .call { callee := .builtin .append, args := #[s, x], argTypes := #[t, t] }) (e : TypeId) (i : TypeInfo) (ht : P.underlying t = some (.slice e)) (hi : P.info? e = some i)
    (b n cap : Nat) (hs : a.eval s = .slice (some ⟨b, 0, none⟩) n cap) (hn : n ≤ cap) (A : Option Addr) (c : Nat) (hx : a.eval x = .slice A 0 c)
    (h : K (a.put o.dst (.slice (some ⟨b, 0, none⟩) n cap)) w) : if Region.wanted o (yielded ops a.tmps) = true then Oper.wp P o a w K Q else E := by
  have hw : Region.wanted o (yielded ops a.tmps) = true := by simp [Region.wanted, hgd]
  rw [if_pos hw]
  have hsrc : Src P i.size t (.slice A 0 c) 0 [] w := by
    cases A with
    | none => exact Src.ofNil w ht c
    | some ad => exact Src.ofSlice w ht ad 0 c [] (by simp) (by simp) (by simp)
  have hr := run_append_room_src (P := P) w t t o.type e i ht hi b 0 n cap (.slice A 0 c) 0 [] hsrc hn (by simp) (by simp)
  have hset : w.setCells b (0 + n * i.size) [] = w := by rfl
  rw [hset] at hr
  unfold Oper.wp execOp
  simp only [ho, resolve, invoke, builtin, Sem.run_bind, Sem.run_pure, Result.andThen_ok, List.map_toArray, List.map_cons, List.map_nil, hs, hx, hr]
  exact h
/-- An append of a list, empty or not, onto a row of the call's own that is no nil, at a step of a region that draws its order. -/
theorem step_append_list {P : Program} {w : World} {ops : Array Oper} {o : Oper} {a : Act} {K : Act → World → Prop} {Q : Exit → Act → World → Prop} {E : Prop} (hgd : o.guard = none) (s x : Operand) (t : TypeId)
    (ho : o.op = .call { callee := .builtin .append, args := #[s, x], argTypes := #[t, t] })
    (base : Nat) (e : TypeId) (i : TypeInfo) (z : Value) (size bytes : Nat) (ht : P.underlying t = some (.slice e)) (hi : P.info? e = some i) (hz : i.zero = some z)
    (hsize : i.size = size) (hby : i.bytes = bytes) (hzs : z.cells.size = size) (hsz : 0 < size)
    (b n cp : Nat) (xs : List Value) (hs : a.eval s = .slice (some ⟨b, 0, none⟩) n cp) (hown : w.ownsRow base e size (.slice (some ⟨b, 0, none⟩) n cp) n xs)
    (A : Option Addr) (m c : Nat) (news : List Value) (hx : a.eval x = .slice A m c) (hl : news.length = m * size) (hnews : 0 < m → ∃ ad, A = some ad ∧ ∀ j u, news[j]? = some u → w.cell? (ad.add j) = some u) (h1 : ∀ u ∈ news, u.oneCell' = true)
    (h63 : n + m ≤ maxLen) (hbytes : (n + m) * bytes ≤ 140737488355328) (hbase : base ≤ w.heap.size)
    (h : ∀ g cap w', w'.ownsRow base e size (.slice (some ⟨g, 0, none⟩) (n + m) cap) (n + m) (xs ++ news) → w.grownBy w' (some b) → g < w'.heap.size → K (a.put o.dst (.slice (some ⟨g, 0, none⟩) (n + m) cap)) w') :
    if Region.wanted o (yielded ops a.tmps) = true then Oper.wp P o a w K Q else E := by
  by_cases hm : 0 < m
  · obtain ⟨ad, rfl, hn⟩ := hnews hm
    exact step_append_lies w hgd s x t ho base e i z size bytes ht hi hz hsize hby hzs hsz _ n xs hs hown ad m c news hx hl hn h1 hm h63 hbytes hbase _ rfl (fun g cap w' a1 a2 _ a4 => h g cap w' a1 a2 a4)
  · obtain rfl : m = 0 := by omega
    have hnil : news = [] := List.eq_nil_of_length_eq_zero (by rw [hl]; simp)
    subst hnil
    have hc : n ≤ cp := by
      rcases hown.2 with ⟨e0, _⟩ | ⟨g, cap, cur, e0, _, _, h2, _⟩
      · cases e0
      · injection e0 with _ _ e3; rw [e3]; exact h2
    refine step_append_zero hgd s x t ho e i ht hi b n cp hs hc A c hx ?_
    have := h b cp w (by rw [Nat.add_zero, List.append_nil]; exact hown) ⟨rfl, rfl, rfl, Nat.le_refl _, fun _ _ _ => rfl⟩ (hown.lt b rfl).2
    rwa [Nat.add_zero] at this
theorem news_far {W w4 : World} {row : Option Nat} {X : Nat} {a b c : Value} {t : TypeId} (hg : W.grownBy w4 row) (hX : W.heap[X]? = some (.cells #[a, b, c] t)) (hne : some X ≠ row) :
    ∀ j u, [a, b, c][j]? = some u → w4.cell? ((⟨X, 0, none⟩ : Addr).add j) = some u :=
  World.news_of_block ((hg.block X (Array.getElem?_eq_some_iff.1 hX).1 hne).trans hX)
def RefPutP (w : World) (T : List Inf) (c : Int) (r : Int) (e : Ending) (w' : World) : Prop :=
  ∃ sv, e = .returned (.tuple #[.agg #[sv, .int .i64 c], .int .i64 r]) ∧ RdS w'.heap.size w' sv T ∧ Below w.heap.size w w'
end Go.Proofs.Ytcpcoomkapblcaa
