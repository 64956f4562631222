import Derived.Test.YtepacjkacjabbaaGreatDoorKBB
import Derived.Test.YtepacjkacjabbaaGreatDoorKBA
import Derived.Test.YtepacjkacjabbaaGreatDoorKAN
import Derived.Test.YtepacjkacjabbaaGreatDoorKAX
import Derived.Test.YtepacjkacjabbaaGreatDoorKAY
namespace Go.Proofs.YtepacjkacjabbaaGreatDoor
open Go
theorem bareX_twice (e : ExprV) : bareX (bareX e) = bareX e := by
 induction e using ExprV.ind with
 | h k o v w n sp l ih => rw [bareX_mk, bareX_mk, List.map_map, map_congr_mem (f := bareX ∘ bareX) (g := bareX) ih]
theorem wtTs_map : ∀ {l : List StmtV}, (∀ s ∈ l, wtT (bareT s) = wtT s) → ∀ n, wtTs (l.map bareT) n = wtTs l n
 | [], _, _ => rfl
 | s :: l, h, n => by
   rw [List.map_cons, wtTs, wtTs, h s (List.mem_cons_self ..), wtTs_map fun t ht => h t (List.mem_cons_of_mem _ ht)]
theorem wtT_bare (s : StmtV) : wtT (bareT s) = wtT s := by
 induction s using StmtV.ind with
 | h k n es ex b ts th os el i1 i2 =>
   have hb := loopB_bare (.mk k n es ex b ts th os el)
   rw [bareT_mk] at hb ⊢
   rw [wtT, wtT, hb, heftX_bare, wtTs_map i1, wtTs_map i2]
theorem wtTs_bare (l : List StmtV) (n : Int) : wtTs (l.map bareT) n = wtTs l n := wtTs_map (fun s _ => wtT_bare s) n
theorem dpTs_map : ∀ {l : List StmtV}, (∀ s ∈ l, dpT (bareT s) = dpT s) → ∀ n, dpTs (l.map bareT) n = dpTs l n
 | [], _, _ => rfl
 | s :: l, h, n => by
   rw [List.map_cons, dpTs, dpTs, h s (List.mem_cons_self ..), dpTs_map fun t ht => h t (List.mem_cons_of_mem _ ht)]
theorem dpT_bare (s : StmtV) : dpT (bareT s) = dpT s := by
 induction s using StmtV.ind with
 | h k n es ex b ts th os el i1 i2 =>
   have hb := loopB_bare (.mk k n es ex b ts th os el)
   rw [bareT_mk] at hb ⊢
   rw [dpT, dpT, hb, dpTs_map i1, dpTs_map i2]
theorem dpTs_bare (l : List StmtV) (n : Int) : dpTs (l.map bareT) n = dpTs l n := dpTs_map (fun s _ => dpT_bare s) n
theorem iter_bare {f g : StmtV → StmtV} (h : ∀ x y, bareT x = bareT y → bareT (f x) = bareT (g y)) : ∀ (n : Nat) (x y : StmtV), bareT x = bareT y → bareT (iterN f n x) = bareT (iterN g n y)
 | 0, _, _, e => e
 | n + 1, x, y, e => iter_bare h n _ _ (h x y e)
theorem bare_whenT (ex : List ExprV) (th : List StmtV) : bareT (whenT ex th) = .mk 6 ⟨#[]⟩ Sp.none ((ex.take 1).map bareX) 0 Sp.none (th.map bareT) Sp.none [] := by
 unfold whenT
 rw [bareT_mk]
 rfl
theorem take_bare (ex : List ExprV) : ((ex.map bareX).take 1).map bareX = (ex.take 1).map bareX := by
 rw [← List.map_take, List.map_map]
 exact List.map_congr_left fun e _ => bareX_twice e
theorem unTs_map {l : List StmtV} (h : ∀ s ∈ l, bareT (unT (bareT s)) = bareT (unT s)) : (unTs (l.map bareT)).map bareT = (unTs l).map bareT := by
 rw [unTs_eq, unTs_eq, List.map_map, List.map_map, List.map_map]
 exact List.map_congr_left fun s hs => h s hs
theorem un_bare (s : StmtV) : bareT (unT (bareT s)) = bareT (unT s) := by
 induction s using StmtV.ind with
 | h k n es ex b ts th os el i1 i2 =>
   obtain ⟨s, hs⟩ : ∃ s, StmtV.mk k n es ex b ts th os el = s := ⟨_, rfl⟩
   have j1 : ∀ t ∈ s.thn, bareT (unT (bareT t)) = bareT (unT t) := by rw [← hs]; exact i1
   have j2 : ∀ t ∈ s.els, bareT (unT (bareT t)) = bareT (unT t) := by rw [← hs]; exact i2
   rw [hs]
   clear hs i1 i2
   by_cases hb : loopB s = true
   · rw [unT_loop hb, unT_loop (by rw [loopB_bare]; exact hb), bareT_bound, bareT_exprs, bareT_thn]
     refine iter_bare (fun x y e => ?_) _ _ _ ?_
     · rw [bare_whenT, bare_whenT, take_bare, List.map_append, List.map_append, unTs_map j1, List.map_cons, List.map_cons, e]
     · rw [bare_whenT, bare_whenT, take_bare]
   · rw [Bool.not_eq_true] at hb
     rw [unT_no hb, unT_no (by rw [loopB_bare]; exact hb), bareT_mk, bareT_mk, bareT_kind, bareT_name, bareT_bound, bareT_exprs, bareT_thn, bareT_els, unTs_map j1, unTs_map j2, List.map_map]
     congr 1
     exact List.map_congr_left fun e _ => bareX_twice e
theorem uns_bare (l : List StmtV) : (unTs (l.map bareT)).map bareT = (unTs l).map bareT := unTs_map fun s _ => un_bare s
theorem opsK_bare (l : List StmtV) : opsK (l.map bareT) = opsK l := by
 unfold opsK
 rw [pres_bare, List.filter_map, List.map_map]
 have h1 : ((fun s : StmtV => decide (s.kind = 3 ∨ s.kind = 4 ∨ s.kind = 5)) ∘ bareT) = fun s => decide (s.kind = 3 ∨ s.kind = 4 ∨ s.kind = 5) := by
   funext s
   show decide ((bareT s).kind = 3 ∨ (bareT s).kind = 4 ∨ (bareT s).kind = 5) = _
   rw [bareT_kind]
 rw [h1]
 exact List.map_congr_left fun s _ => bareT_kind s
theorem passesN_bare (l : List StmtV) : passesN (l.map bareT) = passesN l := by
 unfold passesN
 rw [pres_bare, List.countP_map]
 congr 1
 funext s
 exact isPass_bare s
theorem freeB_bare (l : List StmtV) : freeB (l.map bareT) = freeB l := by
 unfold freeB
 rw [pres_bare, List.all_map]
 congr 1
 funext s
 exact congrArg (fun b => !b) (loopB_bare s)
theorem opsK_same {a b : List StmtV} (h : a.map bareT = b.map bareT) : opsK a = opsK b := by rw [← opsK_bare, h, opsK_bare]
theorem passesN_same {a b : List StmtV} (h : a.map bareT = b.map bareT) : passesN a = passesN b := by rw [← passesN_bare, h, passesN_bare]
theorem freeB_same {a b : List StmtV} (h : a.map bareT = b.map bareT) : freeB a = freeB b := by rw [← freeB_bare, h, freeB_bare]
theorem wtTs_same {a b : List StmtV} (h : a.map bareT = b.map bareT) (n : Int) : wtTs a n = wtTs b n := by rw [← wtTs_bare, h, wtTs_bare]
theorem dpTs_same {a b : List StmtV} (h : a.map bareT = b.map bareT) (n : Int) : dpTs a n = dpTs b n := by rw [← dpTs_bare, h, dpTs_bare]
theorem uns_same {a b : List StmtV} (h : a.map bareT = b.map bareT) : (unTs a).map bareT = (unTs b).map bareT := by rw [← uns_bare, h, uns_bare]
end Go.Proofs.YtepacjkacjabbaaGreatDoor
namespace Go.Proofs.YtepacjkacjabbaaGreatDoor
open Go
def varS (a b : ByteArray) : ByteArray := a ++ ⟨#[46]⟩ ++ b
def Und (s : ByteArray) : Prop := (46 : UInt8) ∉ s.data.toList
def foldN (a : ByteArray) : List DeclV → ByteArray → ByteArray
 | [], n => n
 | d :: ds, n => foldN a ds (if n = d.name then varS a d.name else n)
def turnN (q : ProcV) (n : ByteArray) : ByteArray := if hasN (q.params.map DeclV.name) n = true then varS q.name n else n
def NmsX (P : ByteArray → Prop) (e : ExprV) : Prop := ∀ y ∈ e.pre, (y.kind = 2 ∨ y.kind = 3) → P y.name
def NmsT (P : ByteArray → Prop) (s : StmtV) : Prop := ∀ x ∈ s.pre, ((x.kind = 1 ∨ x.kind = 2) → P x.name) ∧ ∀ e ∈ x.exprs, NmsX P e
theorem NmsX.sub {P : ByteArray → Prop} {e : ExprV} (h : NmsX P e) : ∀ s ∈ e.subs, NmsX P s := fun s hs y hy => h y (by
 rw [ExprV.pre_eq]; exact List.mem_cons_of_mem _ (List.mem_flatMap.2 ⟨s, hs, hy⟩))
theorem NmsX.own {P : ByteArray → Prop} {e : ExprV} (h : NmsX P e) : (e.kind = 2 ∨ e.kind = 3) → P e.name := h e (by rw [ExprV.pre_eq]; exact List.mem_cons_self ..)
theorem NmsX.mk {P : ByteArray → Prop} {e : ExprV} (h1 : (e.kind = 2 ∨ e.kind = 3) → P e.name) (h2 : ∀ s ∈ e.subs, NmsX P s) : NmsX P e := fun y hy => by
 rw [ExprV.pre_eq] at hy
 rcases List.mem_cons.1 hy with rfl | hy
 · exact h1
 · obtain ⟨s, hs, hy⟩ := List.mem_flatMap.1 hy
   exact h2 s hs y hy
theorem NmsT.thn {P : ByteArray → Prop} {s : StmtV} (h : NmsT P s) : ∀ t ∈ s.thn, NmsT P t := fun t ht x hx => h x (by
 rw [StmtV.pre_eq]; exact List.mem_cons_of_mem _ (List.mem_append_left _ (List.mem_flatMap.2 ⟨t, ht, hx⟩)))
theorem NmsT.els {P : ByteArray → Prop} {s : StmtV} (h : NmsT P s) : ∀ t ∈ s.els, NmsT P t := fun t ht x hx => h x (by
 rw [StmtV.pre_eq]; exact List.mem_cons_of_mem _ (List.mem_append_right _ (List.mem_flatMap.2 ⟨t, ht, hx⟩)))
theorem NmsT.own {P : ByteArray → Prop} {s : StmtV} (h : NmsT P s) : ((s.kind = 1 ∨ s.kind = 2) → P s.name) ∧ ∀ e ∈ s.exprs, NmsX P e := h s (by rw [StmtV.pre_eq]; exact List.mem_cons_self ..)
theorem NmsT.mk {P : ByteArray → Prop} {s : StmtV} (h1 : (s.kind = 1 ∨ s.kind = 2) → P s.name) (h2 : ∀ e ∈ s.exprs, NmsX P e) (h3 : ∀ t ∈ s.thn, NmsT P t) (h4 : ∀ t ∈ s.els, NmsT P t) : NmsT P s := fun x hx => by
 rw [StmtV.pre_eq] at hx
 rcases List.mem_cons.1 hx with rfl | hx
 · exact ⟨h1, h2⟩
 · rcases List.mem_append.1 hx with hx | hx
   · obtain ⟨t, ht, hx⟩ := List.mem_flatMap.1 hx
     exact h3 t ht x hx
   · obtain ⟨t, ht, hx⟩ := List.mem_flatMap.1 hx
     exact h4 t ht x hx
theorem NmsX.turn {P Q : ByteArray → Prop} {τ : ByteArray → ByteArray} (hτ : ∀ n, P n → Q (τ n)) (e : ExprV) (h : NmsX P e) : NmsX Q (nmX (tX τ) e) := by
 induction e using ExprV.ind with
 | h k o v w n sp l ih =>
   rw [nmX_mk]
   refine .mk (fun hk => ?_) fun s hs => ?_
   · have e1 : tX τ k n = τ n := if_pos hk
     show Q (tX τ k n)
     rw [e1]
     exact hτ n (h.own hk)
   · obtain ⟨t, ht, rfl⟩ := List.mem_map.1 hs
     exact ih t ht (h.sub t ht)
theorem NmsT.turn {P Q : ByteArray → Prop} {τ : ByteArray → ByteArray} (hτ : ∀ n, P n → Q (τ n)) (s : StmtV) (h : NmsT P s) : NmsT Q (nmT (tX τ) (tT τ) s) := by
 induction s using StmtV.ind with
 | h k n es ex b ts th os el i1 i2 =>
   rw [nmT_mk]
   refine .mk (fun hk => ?_) (fun e he => ?_) (fun s hs => ?_) fun s hs => ?_
   · have e1 : tT τ k n = τ n := if_pos hk
     show Q (tT τ k n)
     rw [e1]
     exact hτ n (h.own.1 hk)
   · obtain ⟨t, ht, rfl⟩ := List.mem_map.1 he
     exact NmsX.turn hτ t (h.own.2 t ht)
   · obtain ⟨t, ht, rfl⟩ := List.mem_map.1 hs
     exact i1 t ht (h.thn t ht)
   · obtain ⟨t, ht, rfl⟩ := List.mem_map.1 hs
     exact i2 t ht (h.els t ht)
end Go.Proofs.YtepacjkacjabbaaGreatDoor
namespace Go.Proofs.YtepacjkacjabbaaGreatDoor
open Go
theorem declE_inv {p : ProgV} {before : List ByteArray} {a : Bool} {d : DeclV} (h : declE p before a d = 0) : d.name ∉ before ∧ nameB p d.name.data.toList = true ∧ wideW d.width = true ∧ (if a = true then decide (1 ≤ d.size ∧ d.size ≤ 16) else decide (d.size = 0)) = true := by
 unfold declE at h
 by_cases h1 : hasN before d.name = true ∨ nameB p d.name.data.toList = false
 · rw [if_pos h1] at h; cases h
 · rw [if_neg h1] at h
   by_cases h2 : wideW d.width = false
   · rw [if_pos h2] at h; cases h
   · rw [if_neg h2] at h
     by_cases h3 : (if a = true then decide (1 ≤ d.size ∧ d.size ≤ 16) else decide (d.size = 0)) = false
     · rw [if_pos h3] at h; cases h
     · refine ⟨fun hm => h1 (.inl (hasN_iff.2 hm)), ?_, by simpa using h2, Bool.not_eq_false _ ▸ h3⟩
       cases hn : nameB p d.name.data.toList with
       | true => rfl
       | false => exact absurd (.inr hn) h1
def DcOk (p : ProgV) (a : Bool) (d : DeclV) : Prop := nameB p d.name.data.toList = true ∧ wideW d.width = true ∧ (if a = true then decide (1 ≤ d.size ∧ d.size ≤ 16) else decide (d.size = 0)) = true
theorem decls_inv {p : ProgV} {a : Bool} : ∀ (l : List DeclV) (before : List ByteArray), (∀ c ∈ declsC p a l before, c = 0) → before.Nodup → (before ++ l.map DeclV.name).Nodup ∧ ∀ d ∈ l, DcOk p a d
 | [], before, _, hb => ⟨by simpa using hb, fun _ h => by cases h⟩
 | d :: l, before, h, hb => by
   rw [declsC] at h
   obtain ⟨h1, h2⟩ := declE_inv (h _ (List.mem_cons_self ..))
   have hb2 : (before ++ [d.name]).Nodup := List.nodup_append.2 ⟨hb, by simp, fun x hx y hy => by
     rw [List.mem_singleton.1 hy]
     rintro rfl
     exact h1 hx⟩
   obtain ⟨h3, h4⟩ := decls_inv l (before ++ [d.name]) (fun c hc => h c (List.mem_cons_of_mem _ hc)) hb2
   refine ⟨by simpa using h3, fun x hx => ?_⟩
   rcases List.mem_cons.1 hx with rfl | hx
   · exact h2
   · exact h4 x hx
section
variable {p : ProgV} (h : RightP p)
include h
theorem RightP.decls : (names4 p).Nodup ∧ (∀ d ∈ p.inputs, DcOk p false d) ∧ (∀ d ∈ p.ghosts, DcOk p false d) ∧ (∀ d ∈ p.vars, DcOk p false d) ∧ ∀ d ∈ p.arrays, DcOk p true d := by
 have h1 := h
 unfold RightP codesP at h1
 simp only [List.mem_cons, List.mem_append] at h1
 obtain ⟨n1, o1⟩ := decls_inv p.inputs [] (fun c hc => h1 c (.inr (.inl hc))) List.nodup_nil
 rw [List.nil_append] at n1
 obtain ⟨n2, o2⟩ := decls_inv p.ghosts (names1 p) (fun c hc => h1 c (.inr (.inr (.inl hc)))) n1
 obtain ⟨n3, o3⟩ := decls_inv p.vars (names2 p) (fun c hc => h1 c (.inr (.inr (.inr (.inl hc))))) n2
 obtain ⟨n4, o4⟩ := decls_inv p.arrays (names3 p) (fun c hc => h1 c (.inr (.inr (.inr (.inr (.inl hc)))))) n3
 exact ⟨n4, o1, o2, o3, o4⟩
end
theorem things_names (p : ProgV) : (thingsP p).map (·.1) = names4 p := by
 unfold thingsP names4 names3 names2 names1
 simp only [List.map_append, List.map_map]
 rfl
def parV (p : ProgV) : List DeclV := p.procs.flatMap fun q => q.params.map (varD q)
section
variable {p : ProgV} (h : RightP p)
include h
theorem RightP.params (i : Nat) (hi : i < p.procs.length) : (thingNames p ++ (p.procs[i]).params.map DeclV.name).Nodup ∧ ∀ d ∈ (p.procs[i]).params, DcOk p false d := by
 have hn : (thingNames p).Nodup := by
   unfold thingNames
   rw [things_names]
   exact h.decls.1
 exact decls_inv _ _ (h.proc i hi).1.params hn
end
section
variable {p : ProgV} (h : RightP p) (hne : p.procs ≠ [])
include h hne
end
theorem look_some {α : Type} {T : List (ByteArray × α)} {s : ByteArray} {x : α} (h : look T s = some x) : (s, x) ∈ T := by
 unfold look at h
 cases hf : T.find? fun x => decide (x.1 = s) with
 | none => rw [hf] at h; cases h
 | some y =>
   rw [hf] at h
   have h1 := List.find?_some hf
   have h2 := List.mem_of_find?_eq_some hf
   rw [decide_eq_true_eq] at h1
   obtain ⟨a, b⟩ := y
   injection h with h
   dsimp only at h h1
   rw [← h, ← h1]
   exact h2
structure Mor (p q : ProgV) (E F : Env) (τ : ByteArray → ByteArray) : Prop where
 width : q.width = p.width
 find : ∀ n, (findW p E n).kind ≠ 0 → (findW q F (τ n)).width = (findW p E n).width ∧ (findW q F (τ n)).kind = if (findW p E n).kind = 5 then 3 else (findW p E n).kind
section
variable {p q : ProgV} {E F : Env} {τ : ByteArray → ByteArray} (m : Mor p q E F τ)
include m
end
theorem exprE_name {p : ProgV} {E : Env} {wh : Int} {e : ExprV} {d : Nat} (h : exprE p E wh e d = 0) : shapeB e = true ∧ (namesB e = true → (findW p E e.name).kind ≠ 0 ∧ ((findW p E e.name).kind = 4 ↔ e.kind = 3)) ∧ widthsB p E e = false ∧ (d : Int) ≤ limitP p 32 1000 ∧ ¬ ((wh = 1 ∧ (e.kind = 4 ∨ namesB e = true ∧ (findW p E e.name).kind ≠ 1)) ∨ (wh = 2 ∧ namesB e = true ∧ ((findW p E e.name).kind = 3 ∨ (findW p E e.name).kind = 4))) := by
 unfold exprE at h
 by_cases h1 : shapeB e = false
 · rw [if_pos h1] at h; cases h
 · rw [if_neg h1] at h
   by_cases h2 : namesB e = true ∧ ((findW p E e.name).kind = 0 ∨ ¬ ((findW p E e.name).kind = 4 ↔ e.kind = 3))
   · rw [if_pos h2] at h; cases h
   · rw [if_neg h2] at h
     by_cases h3 : (wh = 1 ∧ (e.kind = 4 ∨ namesB e = true ∧ (findW p E e.name).kind ≠ 1)) ∨ (wh = 2 ∧ namesB e = true ∧ ((findW p E e.name).kind = 3 ∨ (findW p E e.name).kind = 4))
     · rw [if_pos h3] at h; cases h
     · rw [if_neg h3] at h
       by_cases h4 : widthsB p E e = true
       · rw [if_pos h4] at h; cases h
       · rw [if_neg h4] at h
         by_cases h5 : (d : Int) > limitP p 32 1000
         · rw [if_pos h5] at h; cases h
         · refine ⟨by simpa using h1, fun hn => ⟨fun e => h2 ⟨hn, .inl e⟩, ?_⟩, by simpa using h4, by omega, h3⟩
           exact Classical.byContradiction fun e => h2 ⟨hn, .inr e⟩
theorem expr_names {p : ProgV} {E : Env} {wh : Int} (e : ExprV) : ∀ d, (∀ c ∈ exprC p E wh e d, c = 0) → ∀ y ∈ e.pre, namesB y = true → (findW p E y.name).kind ≠ 0 := by
 induction e using ExprV.ind with
 | h k o v w n sp l ih =>
   intro d h y hy hn
   rw [exprC_eq] at h
   rw [ExprV.pre_eq] at hy
   rcases List.mem_cons.1 hy with rfl | hy
   · exact ((exprE_name (h _ (List.mem_cons_self ..))).2.1 hn).1
   · obtain ⟨s, hs, hy⟩ := List.mem_flatMap.1 hy
     exact ih s hs (d + 1) (fun c hc => h c (List.mem_cons_of_mem _ (by rw [exprsC_eq]; exact List.mem_flatMap.2 ⟨s, hs, hc⟩))) y hy hn
section
variable {p q : ProgV} {E F : Env} {τ : ByteArray → ByteArray} (m : Mor p q E F τ) (hlim : limitP p 32 1000 ≤ limitP q 32 1000)
include m hlim
end
theorem exprs_names {p : ProgV} {E : Env} {wh : Int} {l : List ExprV} {d : Nat} (h : ∀ c ∈ exprsC p E wh l d, c = 0) : ∀ e ∈ l, ∀ y ∈ e.pre, namesB y = true → (findW p E y.name).kind ≠ 0 := fun e he =>
 expr_names e d fun c hc => h c (by rw [exprsC_eq]; exact List.mem_flatMap.2 ⟨e, he, hc⟩)
end Go.Proofs.YtepacjkacjabbaaGreatDoor
namespace Go.Proofs.YtepacjkacjabbaaGreatDoor
open Go
def Zr (q : ProgV) (l : List StmtV) : Prop := ∀ d, d + depTs l ≤ 1001 → ∀ c ∈ stmtsC q outside l d, c = 0
theorem Zr.nil {q : ProgV} : Zr q [] := fun d _ c hc => by rw [stmtsC] at hc; cases hc
theorem stmtsC_both (q : ProgV) (E : Env) (a b : List StmtV) (d : Nat) : stmtsC q E (a ++ b) d = stmtsC q E a d ++ stmtsC q E b d := by rw [stmtsC_eq, stmtsC_eq, stmtsC_eq, List.flatMap_append]
theorem Zr.app {q : ProgV} {a b : List StmtV} (ha : Zr q a) (hb : Zr q b) : Zr q (a ++ b) := fun d hd c hc => by
 rw [depTs_both] at hd
 rw [stmtsC_both] at hc
 rcases List.mem_append.1 hc with hc | hc
 · exact ha d (by omega) c hc
 · exact hb d (by omega) c hc
theorem find_out (p : ProgV) (n : ByteArray) : findW p outside n = (look (thingsP p) n).getD ⟨0, 0⟩ := rfl
section
variable {p : ProgV} (h : RightP p) (hne : p.procs ≠ [])
include h hne
end
theorem find_mem {q : ProgV} {n : ByteArray} (h : (findW q outside n).kind ≠ 0) : n ∈ names4 q := by
 rw [find_out] at h
 cases hl : look (thingsP q) n with
 | none => rw [hl] at h; exact absurd rfl h
 | some t =>
   rw [← things_names]
   exact List.mem_map.2 ⟨_, look_some hl, rfl⟩
theorem stmt_at (p : ProgV) (E : Env) (s : StmtV) : ∀ d, (∀ c ∈ stmtC p E s d, c = 0) → ∀ x ∈ s.pre, (∃ d', stmtE p E x d' = 0) ∧ ∀ c ∈ exprsC p E 0 x.exprs 1, c = 0 := by
 induction s using StmtV.ind with
 | h k n es ex b ts th os el i1 i2 =>
   intro d h x hx
   rw [stmtC_eq] at h
   rw [StmtV.pre_eq] at hx
   rcases List.mem_cons.1 hx with rfl | hx
   · exact ⟨⟨d, h _ (List.mem_cons_self ..)⟩, fun c hc => h c (List.mem_cons_of_mem _ (List.mem_append_left _ hc))⟩
   · rcases List.mem_append.1 hx with hx | hx
     · obtain ⟨t, ht, hx⟩ := List.mem_flatMap.1 hx
       exact i1 t ht (d + 1) (fun c hc => h c (List.mem_cons_of_mem _ (List.mem_append_right _ (List.mem_append_left _ (by rw [stmtsC_eq]; exact List.mem_flatMap.2 ⟨t, ht, hc⟩))))) x hx
     · obtain ⟨t, ht, hx⟩ := List.mem_flatMap.1 hx
       exact i2 t ht (d + 1) (fun c hc => h c (List.mem_cons_of_mem _ (List.mem_append_right _ (List.mem_append_right _ (by rw [stmtsC_eq]; exact List.mem_flatMap.2 ⟨t, ht, hc⟩))))) x hx
theorem set_kind {p : ProgV} {E : Env} {s : StmtV} (hw : wrongE p E s = 0) (hk : s.kind = 1 ∨ s.kind = 2) : (findW p E s.name).kind ≠ 0 := by
 unfold wrongE at hw
 rcases hk with hk | hk
 · rw [if_pos hk] at hw
   by_cases a : (findW p E s.name).kind = 0 ∨ (findW p E s.name).kind = 1 ∨ (findW p E s.name).kind = 4
   · rw [if_pos a] at hw; cases hw
   · exact fun e => a (.inl e)
 · rw [if_neg (by omega), if_pos hk] at hw
   by_cases a : (findW p E s.name).kind ≠ 4
   · rw [if_pos a] at hw; cases hw
   · omega
theorem Zr.names {q : ProgV} {l : List StmtV} (h : Zr q l) (hd : depTs l ≤ 1000) : ∀ s ∈ l, NmsT (· ∈ names4 q) s := fun s hs x hx => by
 have h1 := h 1 (by omega)
 obtain ⟨⟨d', h2⟩, h3⟩ := stmt_at q outside s 1 (fun c hc => h1 c (by rw [stmtsC_eq]; exact List.mem_flatMap.2 ⟨s, hs, hc⟩)) x hx
 refine ⟨fun hk => find_mem (set_kind (stmtE_parts h2).2 hk), fun e he y hy hk => find_mem (exprs_names h3 e he y hy (decide_eq_true hk))⟩
section
variable {p : ProgV} {E : Env} {τ : ByteArray → ByteArray} (m : Mor p (inlP p) E outside τ)
include m
end
section
variable {p : ProgV} (h : RightP p) (hne : p.procs ≠ [])
include h hne
theorem RightP.few : p.procs.length ≤ 16 ∧ p.vars.length ≤ 16 := by
 have h0 := h _ (by unfold codesP; exact List.mem_cons_self ..)
 unfold programE at h0
 by_cases a : p.blocks < 1 ∨ p.blocks > 8 ∨ wideW p.width = false
 · rw [if_pos a] at h0; cases h0
 · rw [if_neg a] at h0
   by_cases b : p.inputs.length > 16 ∨ p.ghosts.length > 16 ∨ (p.vars.length : Int) > limitP p 16 256 ∨ p.arrays.length > 16 ∨ p.procs.length > 16 ∨ (heftP p : Int) > limitP p 2000 20000
   · rw [if_pos b] at h0; cases h0
   · have e : limitP p 16 256 = 16 := by
       unfold limitP
       rw [if_pos (List.length_pos_iff.2 hne)]
     omega
omit h in
end
end Go.Proofs.YtepacjkacjabbaaGreatDoor
namespace Go.Proofs.YtepacjkacjabbaaGreatDoor
open Go
section
variable {p : ProgV} (h : RightP p) (hne : p.procs ≠ [])
include h hne
end
end Go.Proofs.YtepacjkacjabbaaGreatDoor
namespace Go.Proofs.YtepacjkacjabbaaGreatDoor
open Go
mutual
def wiT (p : ProgV) (W : Nat → Int) : StmtV → Int
 | .mk k n _ ex _ _ th _ el => 1 + (heftX ex : Int) + (if k = 8 then (ex.length : Int) - 1 + W (procI p n) else 0) + wiTs p W th 0 + wiTs p W el 0
def wiTs (p : ProgV) (W : Nat → Int) : List StmtV → Int → Int
 | [], n => n
 | s :: l, n => wiTs p W l (min (n + wiT p W s) 20001)
end
def bodyW (p : ProgV) : Nat → Nat → Int
 | 0, _ => 0
 | n + 1, i => wiTs p (bodyW p n) (procQ p i).body 0
def Eqv (a : Int) (b : Nat) : Prop := min a 20001 = min (b : Int) 20001
def CallsFit (p : ProgV) (s : StmtV) : Prop := s.kind = 8 → s.thn = [] ∧ s.els = [] ∧ (procQ p (procI p s.name)).params.length = s.exprs.length
def bareN (p : ProgV) : Nat := heftP { p with procs := [], work := [], recover := [] }
def weightI (p : ProgV) : Int := min ((bareN p : Int) + (p.procs.map fun q => q.params.length).sum + wiTs p (bodyW p (p.procs.length + 1)) p.work 0 + wiTs p (bodyW p (p.procs.length + 1)) p.recover 0) 20001
end Go.Proofs.YtepacjkacjabbaaGreatDoor
namespace Go.Proofs.YtepacjkacjabbaaGreatDoor
open Go
structure ReadyP (p : ProgV) : Prop where
 heft : heftP p ≤ 20000
 names : NamesOk p
 chk : (checkP p).2 = 0
 none : p.procs = []
theorem checkP_codes {p : ProgV} (h : heftP p ≤ 20000) : checkP p = (probs (codesP p (heftP p)) 0).headD (0, 0) := check_of (by rw [codesP_len]) h rfl
theorem checkP_same {p q : ProgV} (h : bareP p = bareP q) (hl : heftP q ≤ 20000) : checkP p = checkP q := by
 have hh : heftP p = heftP q := by rw [← heftP_bare, h, heftP_bare]
 rw [checkP_codes (by omega), checkP_codes hl, hh, codes_same h]
theorem ReadyP.same {p q : ProgV} (h : bareP p = bareP q) (hq : ReadyP q) : ReadyP p := by
 have hh : heftP p = heftP q := by rw [← heftP_bare, h, heftP_bare]
 refine ⟨by have := hq.heft; omega, (fit_same h hq.names hq.heft).names, by rw [checkP_same h hq.heft]; exact hq.chk, ?_⟩
 have h1 : p.procs.map bareQ = q.procs.map bareQ := congrArg ProgV.procs h
 rw [hq.none] at h1
 exact List.map_eq_nil_iff.1 h1
theorem ReadyP.right {p : ProgV} (h : ReadyP p) : RightP p := right_codes h.heft h.chk
theorem ReadyP.weight {p : ProgV} (h : ReadyP p) : weightP p ≤ 1125899906842624 := by have := weight_le p; have := h.heft; omega
theorem ReadyP.len {p : ProgV} (h : ReadyP p) : p.procs.length = 0 := by rw [h.none]; rfl
def bareW (p : ProgV) : ProgV := { p with ws := Sp.none, work := [], cs := Sp.none, recover := [] }
theorem heft_bareW (p : ProgV) : heftP p = heftP (bareW p) + heftL p.work + heftL p.recover := by
 have e : heftL [] = 0 := rfl
 unfold heftP bareW
 simp only [e]
 omega
def weightU (p : ProgV) : Int := min ((heftP (bareW p) : Int) + wtTs p.work 0 + wtTs p.recover 0) 20001
def depthU (p : ProgV) : Int := max (min (dpTs p.work 0) 1001) (min (dpTs p.recover 0) 1001)
theorem bareW_same {p q : ProgV} (h : bareP p = bareP q) : bareP (bareW p) = bareP (bareW q) := by
 unfold bareP at h ⊢
 unfold bareW
 injection h
 simp only [*]
theorem work_same {p q : ProgV} (h : bareP p = bareP q) : p.work.map bareT = q.work.map bareT ∧ p.recover.map bareT = q.recover.map bareT := ⟨congrArg ProgV.work h, congrArg ProgV.recover h⟩
theorem weightU_same {p q : ProgV} (h : bareP p = bareP q) : weightU p = weightU q := by
 unfold weightU
 rw [← heftP_bare, bareW_same h, heftP_bare, wtTs_same (work_same h).1, wtTs_same (work_same h).2]
theorem depthU_same {p q : ProgV} (h : bareP p = bareP q) : depthU p = depthU q := by
 unfold depthU
 rw [dpTs_same (work_same h).1, dpTs_same (work_same h).2]
theorem bareW_heft {p : ProgV} (h : ReadyP p) : countP (bareW p) = heftP (bareW p) := countP_of (by have := heft_bareW p; have := h.heft; omega)
theorem bareW_weight {p : ProgV} (h : ReadyP p) : weightP (bareW p) ≤ 1125899906842624 := by have := weight_le (bareW p); have := heft_bareW p; have := h.heft; omega
theorem weightU_eq {p : ProgV} (h : ReadyP p) : min (sizedN (countP (bareW p)) + wtTs p.work 0 + wtTs p.recover 0) 20001 = weightU p := by
 have h1 := heft_bareW p
 have h2 := h.heft
 rw [bareW_heft h]
 unfold sizedN weightU
 rw [if_pos (by omega)]
end Go.Proofs.YtepacjkacjabbaaGreatDoor
namespace Go.Proofs.YtepacjkacjabbaaGreatDoor
open Go Go.RowKit Go.Maps
theorem act_F94 {a : Act} (h : a.tmps.size = 94) (hd : a.defers = []) : ∃ F : Nat → Value, (∀ i : Nat, F i = a.eval (.tmp i)) ∧ a = ⟨(F 0 :: F 1 :: F 2 :: F 3 :: F 4 :: F 5 :: F 6 :: F 7 :: F 8 :: F 9 :: F 10 :: F 11 :: F 12 :: F 13 :: F 14 :: F 15 :: F 16 :: F 17 :: F 18 :: F 19 :: F 20 :: F 21 :: F 22 :: F 23 :: F 24 :: F 25 :: F 26 :: F 27 :: F 28 :: F 29 :: F 30 :: F 31 :: F 32 :: F 33 :: F 34 :: F 35 :: F 36 :: F 37 :: F 38 :: F 39 :: F 40 :: F 41 :: F 42 :: F 43 :: F 44 :: F 45 :: F 46 :: F 47 :: F 48 :: F 49 :: F 50 :: F 51 :: F 52 :: F 53 :: F 54 :: F 55 :: F 56 :: F 57 :: F 58 :: F 59 :: F 60 :: F 61 :: F 62 :: F 63 :: F 64 :: F 65 :: F 66 :: F 67 :: F 68 :: F 69 :: F 70 :: F 71 :: F 72 :: F 73 :: F 74 :: F 75 :: F 76 :: F 77 :: F 78 :: F 79 :: F 80 :: F 81 :: F 82 :: F 83 :: F 84 :: F 85 :: F 86 :: F 87 :: F 88 :: F 89 :: F 90 :: F 91 :: F 92 :: F 93 :: []).toArray, []⟩ := ⟨fun i => a.eval (.tmp i), fun _ => rfl, act_eq h hd⟩
theorem heft_partsC {p : ProgV} (h : heftP p ≤ 20000) : (p.inputs.length ≤ 1000000 ∧ p.ghosts.length ≤ 1000000 ∧ p.vars.length ≤ 1000000 ∧ p.arrays.length ≤ 1000000) ∧ p.require.pre.length ≤ 1000000 ∧ p.invariant.pre.length ≤ 1000000 ∧ heftL p.work ≤ 1000000 ∧ heftL p.recover ≤ 1000000 := by
 unfold heftP at h
 refine ⟨⟨?_, ?_, ?_, ?_⟩, ?_, ?_, ?_, ?_⟩ <;> omega
theorem setRow_atC {W : World} {g : Nat} {cs : Array Value} {ty : TypeId} {fr : Nat × Nat} (h : W.heap[g]? = some (.cells cs ty fr)) (ds : Array Value) : (W.setRow g ds).heap[g]? = some (.cells ds ty fr) := setRow_heap _ _ _ _ _ _ h
theorem own_rowC {α : Type} {k lo : Nat} {enc : α → List Value} {e : TypeId} {W : World} {sp : Sp} {l : List α} (h : OwnL lo W e k enc (.slice sp.at_ l.length sp.cap) l) (h0 : l = []) {n : Nat} {W' : World} : RowOf n W' sp k enc l := by
 subst h0
 rcases h.2 with ⟨hv, _⟩ | ⟨g, cap, cur, hv, h1, h2, h3, h4, h5, h6⟩
 · cases sp
   injection hv with e1 e2 e3
   simp only at e1 e3
   rw [e1, e3]
   exact RowOf.nil
 · cases sp
   injection hv with e1 e2 e3
   simp only at e1 e3
   rw [e1, e3]
   exact ⟨Nat.zero_le _, h4, Nat.zero_le _, fun h => absurd h (by simp)⟩
theorem newTs_set {lo g : Nat} {W : World} {cs : Array Value} {sp : Sp} {l : List StmtV} (h : NewTs lo W sp l) (hg : g < lo) : NewTs lo (W.setRow g cs) sp l :=
 ⟨by rw [size_setRow]; exact h.1.cells (keeps_set hg), fun s hs => (h.2 s hs).set hg⟩
theorem RdP.cells {n : Nat} {W W' : World} {p : ProgV} (h : RdP n W p) (hc : ∀ (a : Addr) (u : Value), a.block < n → W.cell? a = some u → W'.cell? a = some u) : RdP n W' p := by
 obtain ⟨b1, b2, b3, b4, b5, b6, b7, b8, b9, b10, b11, b12, b13, b14⟩ := h
 have ts : ∀ {sp : Sp} {l : List StmtV}, RdTs n W sp l → RdTs n W' sp l := fun h => ⟨h.row.cells hc, fun t ht => (h.ok t ht).cells hc⟩
 exact ⟨b1, b2, ⟨b3.row.cells hc, b3.ok⟩, ⟨b4.row.cells hc, b4.ok⟩, ⟨b5.row.cells hc, b5.ok⟩, ⟨b6.row.cells hc, b6.ok⟩, b7.cells hc, b8.cells hc, fun x hx => ⟨(b9 x hx).block, (b9 x hx).value.cells hc⟩, b10.cells hc, fun x hx => by
   obtain ⟨c1, c2, c3⟩ := b11 x hx
   exact ⟨c1, ⟨c2.row.cells hc, c2.ok⟩, ts c3⟩, ts b12, ts b13, b14.cells hc⟩
theorem ownL_set {α : Type} {k lo g : Nat} {enc : α → List Value} {e : TypeId} {W : World} {cs : Array Value} {v : Value} {l : List α} (h : OwnL lo W e k enc v l) (hg : g < lo) : OwnL lo (W.setRow g cs) e k enc v l :=
 h.kept fun b _ _ hb _ => setRow_other _ _ _ _ (by omega)
theorem ownD_row {lo : Nat} {W : World} {sp : Sp} {l : List DeclV} (h : OwnL lo W 50 3 DeclV.cells (.slice sp.at_ l.length sp.cap) l) (hl : l.length ≤ 1000000) : RowOf W.heap.size (lowm lo W) sp 3 DeclV.cells l := by
 obtain ⟨sp', e, hr, hb⟩ := h.row (fun _ => rfl) (by omega)
 have : sp' = sp := by
   obtain ⟨a1, c1⟩ := sp
   obtain ⟨a2, c2⟩ := sp'
   unfold Sp.val at e
   injection e with e1 e2 e3
   simp only at e1 e3
   rw [e1, e3]
 subst this
 exact hr.low' fun a ha => (hb a ha).1
set_option maxRecDepth 10000000 in
set_option maxHeartbeats 64000000 in
theorem copyP_any (w : World) (p : ProgV) (hp : RdP w.heap.size w p) (hl : heftP p ≤ 20000) (hi : p.inits = []) (hq : p.procs = []) :
   Calls Tryz.prog 84 #[.agg p.arr] w fun o w' => ∃ p' : ProgV, o = .returned (.agg p'.arr) ∧ bareP p' = bareP p ∧ RdP w'.heap.size (lowm w.heap.size w') p' ∧ Below w.heap.size w w' := by
 obtain ⟨hB1, hZ1, hsz1, hb1⟩ := alloc2 w (.cells p.arr 35) (.cells zeroP.arr 35)
 have hLT : Calls Tryz.prog 112 #[.agg p.arr] ((w.alloc (.cells p.arr 35)).alloc (.cells zeroP.arr 35)) _ := lightP_any _ p (hp.on hb1) (by have := weight_le p; omega)
 rw [decide_eq_true (show countP p ≤ 20000 by rw [countP_of hl]; omega)] at hLT
 have harrs := arr_size p
 have HP := Lib.hid hp
 have HL := Lib.hid (heft_partsC hl)
 have HI := Lib.hid hi
 have HQ := Lib.hid hq
 have HLT := Lib.hid hLT
 have HB := Lib.hid hB1
 have HZ := Lib.hid hZ1
 have HB1 := Lib.hid hb1
 clear hLT hB1 hZ1 hb1 hp hl hi hq
 obtain ⟨arr, harr⟩ : ∃ arr, arr = p.arr := ⟨_, rfl⟩
 have HARR := Lib.hid harr
 rw [← harr] at HLT HB HZ HB1 harrs hsz1 ⊢
 clear harr
 go_enter Tryz.func84, Tryz.ntmps84
 go_wp2_with (first
   | (refine wpList_load_row rfl 35 _ rfl (w.heap.size) rfl 35 _ (0, 0) _ HB.out Tryz.underlying35 rfl harrs ?_)
   | (refine wpList_allocRow (t := 35) rfl rfl (run_zeroP _) ?_)
   | fail)
 refine HLT.out.mono ?_
 rintro o w2 ⟨rfl, hb2⟩
 generalize (w.alloc (.cells arr 35)).alloc (.cells zeroP.arr 35) = w1 at *
 have hx2 : Bx w.heap.size w2 p := by unfold Bx; rw [← HARR.out]; exact (hb2.block _ (Array.getElem?_eq_some_iff.1 HB.out).1).trans HB.out
 have hz2 := (hb2.block _ (Array.getElem?_eq_some_iff.1 HZ.out).1).trans HZ.out
 have hB2 := HB1.out.trans (hb2.mono HB1.out.size)
 have hs2 : w.heap.size + 2 ≤ w2.heap.size := by have := hb2.size; omega
 have HX2 := Lib.hid hx2
 have HZ2 := Lib.hid hz2
 have HB2 := Lib.hid hB2
 clear hx2 hz2 hB2 hb2 HB HZ HB1 HLT
 go_upto_region 3 with fail
 refine Code.wp_mono ?_ (wp_codeQ (C' := .region 3 opsC3 true) (by kernel_rfl) (copy3 rfl w.heap.size (w.heap.size + 2) w.heap.size p (by omega) hs2 (Nat.le_refl _) rfl (HP.out.below HB2.out) HL.out.1 HX2.out))
 rintro e a9 w3 ⟨rfl, hsz9, hd9, hsm9, hm3, i1, g1, v1, a1, hx3, y0, y1, y2, y3⟩
 obtain ⟨F, hF, rfl⟩ := act_F94 hsz9 hd9
 have g1 : F 1 = .pointer (some ⟨w.heap.size, 0, none⟩) := (hF 1).trans (eval_of ((hsm9 1 rfl).trans rfl))
 have g2 : F 2 = .pointer (some ⟨w.heap.size + 1, 0, none⟩) := (hF 2).trans (eval_of ((hsm9 2 rfl).trans rfl))
 rw [g1, g2]
 clear hF g1 g2 hsz9 hd9 hsm9
 have hs3 := hm3.size
 have HX3 := Lib.hid hx3
 have HZ3 := Lib.hid ((hm3.heap (b := w.heap.size + 1) (by omega) (by omega)).trans HZ2.out)
 have HB3 := Lib.hid (HB2.out.trans (hm3.below (Nat.le_refl _) (by omega)))
 have HY0 := Lib.hid (y0.1 rfl)
 have HY1 := Lib.hid (y1.1 rfl)
 have HY2 := Lib.hid (y2.1 rfl)
 have HY3 := Lib.hid (y3.1 rfl)
 clear hm3 hx3 y0 y1 y2 y3 HX2 HZ2 HB2
 go_upto_region 4 with fail
 refine Code.wp_mono ?_ (wp_codeQ (C' := .region 4 opsC4 true) (by kernel_rfl) (copy4 rfl w.heap.size (w.heap.size + 2) w.heap.size { p with is := i1, gs := g1, vs := v1, «as» := a1 } (by omega) (by omega) (Nat.le_refl _) rfl (HP.out.irow.below HB3.out) (HP.out.prow.below HB3.out) ⟨by show p.inits.length ≤ _; rw [HI.out]; exact Nat.zero_le _, by show p.procs.length ≤ _; rw [HQ.out]; exact Nat.zero_le _⟩ HX3.out))
 rintro e a9 w4 ⟨rfl, hsz9, hd9, hsm9, hm4, n1, r1, hx4, y0, y1⟩
 obtain ⟨G, hG, rfl⟩ := act_F94 hsz9 hd9
 have g1 : G 1 = .pointer (some ⟨w.heap.size, 0, none⟩) := (hG 1).trans (eval_of ((hsm9 1 rfl).trans rfl))
 have g2 : G 2 = .pointer (some ⟨w.heap.size + 1, 0, none⟩) := (hG 2).trans (eval_of ((hsm9 2 rfl).trans rfl))
 rw [g1, g2]
 clear hG g1 g2 hsz9 hd9 hsm9
 have hs4 := hm4.size
 have hx4' : Bx w.heap.size w4 { p with is := i1, gs := g1, vs := v1, «as» := a1, ns := n1, rs := r1 } := hx4
 have HX4 := Lib.hid hx4'
 have HN4 := Lib.hid (y0.1 rfl)
 have HR4 := Lib.hid (y1.1 rfl)
 have HZ4 := Lib.hid ((hm4.heap (b := w.heap.size + 1) (by omega) (by omega)).trans HZ3.out)
 have HB4 := Lib.hid (HB3.out.trans (hm4.below (Nat.le_refl _) (by omega)))
 have HU0 := Lib.hid (HY0.out.onM hm4 (by omega))
 have HU1 := Lib.hid (HY1.out.onM hm4 (by omega))
 have HU2 := Lib.hid (HY2.out.onM hm4 (by omega))
 have HU3 := Lib.hid (HY3.out.onM hm4 (by omega))
 have c12 : w4.cell? ⟨w.heap.size, 12, none⟩ = some (.slice n1.at_ 0 n1.cap) := by have h := hx4'.cell 12 rfl; rw [HI.out] at h; exact h
 have c13 : w4.cell? ⟨w.heap.size, 13, none⟩ = some (.slice r1.at_ 0 r1.cap) := by have h := hx4'.cell 13 rfl; rw [HQ.out] at h; exact h
 clear hm4 hx4 hx4' y0 y1 HX3 HZ3 HB3 HY0 HY1 HY2 HY3
 go_wp2_with fail
 refine wp_loop_rounds 1 ?_
 rw [rounds_succ]
 go_wp2_with fail
 refine wp_loop_rounds 1 ?_
 rw [rounds_succ]
 go_upto_region 15 with fail
 clear c12 c13
 refine Code.wp_mono ?_ (wp_codeQ (C' := .region 15 opsC15 true) (by kernel_rfl) (copy15 rfl w.heap.size (w.heap.size + 2) w.heap.size { p with is := i1, gs := g1, vs := v1, «as» := a1, ns := n1, rs := r1 } (by omega) (by omega) (Nat.le_refl _) rfl ⟨named_any (τ := id) (fun s hs => hs) (keep_ok w.heap.size w4) p.require (HP.out.require.stays HB4.out) HL.out.2.1, named_any (τ := id) (fun s hs => hs) (keep_ok w.heap.size w4) p.invariant (HP.out.invariant.stays HB4.out) HL.out.2.2.1⟩ HX4.out))
 rintro e a9 w5 ⟨rfl, hsz9, hd9, hsm9, hm5, e1, e2, hx5, y0, y1⟩
 obtain ⟨H, hH, rfl⟩ := act_F94 hsz9 hd9
 have g1 : H 1 = .pointer (some ⟨w.heap.size, 0, none⟩) := (hH 1).trans (eval_of ((hsm9 1 rfl).trans rfl))
 have g2 : H 2 = .pointer (some ⟨w.heap.size + 1, 0, none⟩) := (hH 2).trans (eval_of ((hsm9 2 rfl).trans rfl))
 rw [g1, g2]
 clear hH g1 g2 hsz9 hd9 hsm9
 have hs5 := hm5.size
 have hx5' : Bx w.heap.size w5 { p with is := i1, gs := g1, vs := v1, «as» := a1, ns := n1, rs := r1, require := e1, invariant := e2 } := hx5
 have HX5 := Lib.hid hx5'
 have HZ5 := Lib.hid ((hm5.heap (b := w.heap.size + 1) (by omega) (by omega)).trans HZ4.out)
 have HB5 := Lib.hid (HB4.out.trans (hm5.below (Nat.le_refl _) (by omega)))
 have HV0 := Lib.hid (HU0.out.onM hm5 (by omega))
 have HV1 := Lib.hid (HU1.out.onM hm5 (by omega))
 have HV2 := Lib.hid (HU2.out.onM hm5 (by omega))
 have HV3 := Lib.hid (HU3.out.onM hm5 (by omega))
 have HE1 := Lib.hid (y0.1 rfl)
 have HE2 := Lib.hid (y1.1 rfl)
 clear hm5 hx5 hx5' y0 y1 HX4 HZ4 HB4 HU0 HU1 HU2 HU3
 go_upto_region 16 with fail
 refine Code.wp_mono ?_ (wp_codeQ (C' := .region 16 opsC16 true) (by kernel_rfl) (copy16 rfl w.heap.size (w.heap.size + 2) w.heap.size { p with is := i1, gs := g1, vs := v1, «as» := a1, ns := n1, rs := r1, require := e1, invariant := e2 } (by omega) (by omega) (Nat.le_refl _) rfl ⟨namedStmts_any (τ := id) (fun s hs => hs) (keep_ok w.heap.size w5) p.ws p.work (HP.out.work.below HB5.out) HL.out.2.2.2.1, namedStmts_any (τ := id) (fun s hs => hs) (keep_ok w.heap.size w5) p.cs p.recover (HP.out.recover.below HB5.out) HL.out.2.2.2.2⟩ HX5.out))
 rintro e a9 w6 ⟨rfl, hsz9, hd9, hsm9, hm6, s1, l1, s2, l2, hx6, y0, y1⟩
 obtain ⟨I, hI, rfl⟩ := act_F94 hsz9 hd9
 have g1 : I 1 = .pointer (some ⟨w.heap.size, 0, none⟩) := (hI 1).trans (eval_of ((hsm9 1 rfl).trans rfl))
 have g2 : I 2 = .pointer (some ⟨w.heap.size + 1, 0, none⟩) := (hI 2).trans (eval_of ((hsm9 2 rfl).trans rfl))
 rw [g1, g2]
 clear hI g1 g2 hsz9 hd9 hsm9
 obtain ⟨pf, hpf⟩ : ∃ pf : ProgV, pf = { p with is := i1, gs := g1, vs := v1, «as» := a1, ns := n1, rs := r1, require := e1, invariant := e2, ws := s1, work := l1, cs := s2, recover := l2 } := ⟨_, rfl⟩
 have hx6' : Bx w.heap.size w6 pf := by rw [hpf]; exact hx6
 have HX6 := Lib.hid hx6'
 have HZ6 := Lib.hid ((hm6.heap (b := w.heap.size + 1) (by omega) (by omega)).trans HZ5.out)
 have HB6 := Lib.hid (HB5.out.trans (hm6.below (Nat.le_refl _) (by omega)))
 have HV0 := Lib.hid (HV0.out.onM hm6 (by omega))
 have HV1 := Lib.hid (HV1.out.onM hm6 (by omega))
 have HV2 := Lib.hid (HV2.out.onM hm6 (by omega))
 have HV3 := Lib.hid (HV3.out.onM hm6 (by omega))
 have HE1 := Lib.hid (And.intro HE1.out.1 (HE1.out.2.on hm6 (by omega)))
 have HE2 := Lib.hid (And.intro HE2.out.1 (HE2.out.2.on hm6 (by omega)))
 have HT1 := Lib.hid (y0.1 rfl)
 have HT2 := Lib.hid (y1.1 rfl)
 have HPF := Lib.hid hpf
 clear hm6 hx6 hx6' y0 y1 HX5 HZ5 HB5 hpf
 go_upto_region 17 with fail
 go_wp2_with (first
   | (refine wpList_load_row rfl 35 _ rfl w.heap.size rfl 35 _ (0, 0) _ HX6.out Tryz.underlying35 rfl (arr_size _) ?_)
   | (refine wpList_store_row rfl 35 _ _ rfl (w.heap.size + 1) pf.arr (by rfl) (by rfl) 35 zeroP.arr HZ6.out (arr_size _) (by kernel_rfl) (arr_one _) ?_)
   | fail)
 have hse : (w6.setRow (w.heap.size + 1) pf.arr).heap[w.heap.size + 1]? = some (.cells pf.arr 35 (0, 0)) := setRow_atC HZ6.out pf.arr
 refine bodyPost_ret (results_cell_row rfl _ _ (w.heap.size + 1) 35 _ (0, 0) _ rfl hse Tryz.underlying35 rfl (arr_size _)) rfl ⟨pf, rfl, ?_, ?_, below_setRow HB6.out (Nat.le_succ _)⟩
 · rw [HPF.out]
   unfold bareP
   simp only [HE1.out.1, HE2.out.1, HT1.out.1, HT2.out.1]
 · have hP := HP.out
   have hL := HL.out
   have q0 := ownD_row (ownL_set (g := w.heap.size + 1) (cs := pf.arr) HV0.out (by omega)) hL.1.1
   have q1 := ownD_row (ownL_set (g := w.heap.size + 1) (cs := pf.arr) HV1.out (by omega)) hL.1.2.1
   have q2 := ownD_row (ownL_set (g := w.heap.size + 1) (cs := pf.arr) HV2.out (by omega)) hL.1.2.2.1
   have q3 := ownD_row (ownL_set (g := w.heap.size + 1) (cs := pf.arr) HV3.out (by omega)) hL.1.2.2.2
   have r1 := (HE1.out.2.set (g := w.heap.size + 1) (cs := pf.arr) (by omega))
   have r2 := (HE2.out.2.set (g := w.heap.size + 1) (cs := pf.arr) (by omega))
   have t1 := (newTs_set (g := w.heap.size + 1) (cs := pf.arr) HT1.out.2 (by omega))
   have t2 := (newTs_set (g := w.heap.size + 1) (cs := pf.arr) HT2.out.2 (by omega))
   have n1' := own_rowC HN4.out HI.out (n := (w6.setRow (w.heap.size + 1) pf.arr).heap.size) (W' := lowm (w.heap.size + 2) (w6.setRow (w.heap.size + 1) pf.arr))
   have n2' := own_rowC HR4.out HQ.out (n := (w6.setRow (w.heap.size + 1) pf.arr).heap.size) (W' := lowm (w.heap.size + 2) (w6.setRow (w.heap.size + 1) pf.arr))
   have hpf := HPF.out
   refine RdP.cells (W := lowm (w.heap.size + 2) (w6.setRow (w.heap.size + 1) pf.arr)) ?_ (keeps_less (by omega))
   generalize w6.setRow (w.heap.size + 1) pf.arr = wf at *
   subst hpf
   obtain ⟨b1, b2, b3, b4, b5, b6, b7, b8, b9, b10, b11, b12, b13, b14⟩ := hP
   exact ⟨b1, b2, ⟨q0, b3.ok⟩, ⟨q1, b4.ok⟩, ⟨q2, b5.ok⟩, ⟨q3, b6.ok⟩, r1, n1', fun x hx => absurd hx (by show ¬ x ∈ p.inits; rw [HI.out]; simp), n2', fun x hx => absurd hx (by show ¬ x ∈ p.procs; rw [HQ.out]; simp), ⟨t1.1, t1.2⟩, ⟨t2.1, t2.2⟩, r2⟩
end Go.Proofs.YtepacjkacjabbaaGreatDoor
