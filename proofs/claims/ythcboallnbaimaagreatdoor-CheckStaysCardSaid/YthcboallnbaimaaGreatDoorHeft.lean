/- A light program: how many nodes it has in all; so many codes are told. -/
import Derived.Test.YthcboallnbaimaaGreatDoorTally
import Derived.Test.YthcboallnbaimaaGreatDoorLeadP
namespace Go.Proofs.YthcboallnbaimaaGreatDoor
open Go
theorem cntN_light {n : Nat} {b : Int} (hn : 0 < n) (h : cntN n b ≤ 20000) : cntN n b = b + n := by
  unfold cntN at h ⊢
  split <;> omega
theorem cntN_of {n : Nat} {b : Int} (h : b + n ≤ 20000) : cntN n b = b + n := by
  unfold cntN; rw [if_pos h]
/-- The nodes of expressions; of statements, those within them being counted by themselves. -/
def heftX (l : List ExprV) : Nat := (l.map fun e => e.pre.length).sum
def heftT (l : List StmtV) : Nat := (l.map fun s => 1 + heftX s.exprs).sum
theorem foldX_light : ∀ (l : List ExprV) (b : Int), 0 ≤ b → b ≤ 20000 → l.foldl (fun b e => cntN e.pre.length b) b ≤ 20000 → l.foldl (fun b e => cntN e.pre.length b) b = b + heftX l
  | [], b, _, _, _ => by simp [heftX]
  | e :: l, b, h0, hb, h => by
    rw [List.foldl_cons] at h ⊢
    have h1 := cntN_le e.pre.length (pre_pos e) b h0
    have h2 := fold_le l (cntN e.pre.length b) (by omega)
    have h3 := cntN_light (pre_pos e) (b := b) (by omega)
    have ih := foldX_light l (cntN e.pre.length b) (by omega) (by omega) h
    rw [ih, h3]
    simp [heftX]; omega
theorem foldX_of : ∀ (l : List ExprV) (b : Int), b + heftX l ≤ 20000 → l.foldl (fun b e => cntN e.pre.length b) b = b + heftX l
  | [], b, _ => by simp [heftX]
  | e :: l, b, h => by
    have e1 : heftX (e :: l) = e.pre.length + heftX l := by simp [heftX]
    rw [e1] at h ⊢
    rw [List.foldl_cons, cntN_of (by omega), foldX_of l _ (by omega)]
    omega
theorem stepT_light {s : StmtV} {b : Int} (h0 : 0 ≤ b) (h : stepT s b ≤ 20000) : stepT s b = b + (1 + heftX s.exprs : Nat) := by
  unfold stepT at h ⊢
  have := fold_le s.exprs (b + 1) (by omega)
  rw [foldX_light s.exprs (b + 1) (by omega) (by omega) h]
  omega
theorem stepT_of {s : StmtV} {b : Int} (h : b + (1 + heftX s.exprs : Nat) ≤ 20000) : stepT s b = b + (1 + heftX s.exprs : Nat) := by
  unfold stepT
  rw [foldX_of _ _ (by omega)]
  omega
theorem cntT_light : ∀ (l : List StmtV) (b : Int), 0 ≤ b → cntT l b ≤ 20000 → cntT l b = b + heftT l
  | [], b, _, _ => by simp [cntT, heftT]
  | s :: l, b, h0, h => by
    have e1 : heftT (s :: l) = 1 + heftX s.exprs + heftT l := by simp [heftT]
    have h1 := stepT_pos s b h0
    rw [cntT] at h ⊢
    by_cases hs : stepT s b > 20000
    · rw [if_pos hs] at h; omega
    · rw [if_neg hs] at h ⊢
      have h3 := stepT_light (s := s) (b := b) h0 (by omega)
      rw [cntT_light l _ (by omega) h, e1]
      omega
theorem cntT_of : ∀ (l : List StmtV) (b : Int), b + heftT l ≤ 20000 → cntT l b = b + heftT l
  | [], b, _ => by simp [cntT, heftT]
  | s :: l, b, h => by
    have e1 : heftT (s :: l) = 1 + heftX s.exprs + heftT l := by simp [heftT]
    rw [e1] at h ⊢
    have h3 := stepT_of (s := s) (b := b) (by omega)
    have h4 : ¬ stepT s b > 20000 := by omega
    rw [cntT, if_neg h4, cntT_of l _ (by omega)]
    omega
/-- Statements, with all in them. -/
def heftL (l : List StmtV) : Nat := heftT (l.flatMap StmtV.pre)
def heftQ (q : ProcV) : Nat := 1 + q.params.length + heftL q.body
def heftP (p : ProgV) : Nat :=
  (p.inputs.length + p.ghosts.length + p.vars.length + p.arrays.length + 1) + p.require.pre.length + (p.inits.map fun i => 1 + i.value.pre.length).sum + (p.procs.map heftQ).sum + heftL p.work + heftL p.recover + p.invariant.pre.length
theorem initsN_light : ∀ (l : List InitV) (b : Int), 0 ≤ b → initsN l b ≤ 20000 → initsN l b = b + ((l.map fun i => 1 + i.value.pre.length).sum : Nat)
  | [], b, _, _ => by simp [initsN]
  | i :: l, b, h0, h => by
    have e : initsN (i :: l) b = initsN l (cntN i.value.pre.length (b + 1)) := rfl
    rw [e] at h ⊢
    have h1 := cntN_le i.value.pre.length (pre_pos i.value) (b + 1) (by omega)
    have h2 := initsN_le l (cntN i.value.pre.length (b + 1)) (by omega)
    have h3 := cntN_light (pre_pos i.value) (b := b + 1) (by omega)
    rw [initsN_light l _ (by omega) h, h3]
    simp; omega
theorem procsN_light : ∀ (l : List ProcV) (b : Int), 0 ≤ b → procsN l b ≤ 20000 → procsN l b = b + ((l.map heftQ).sum : Nat)
  | [], b, _, _ => by simp [procsN]
  | q :: l, b, h0, h => by
    have e : procsN (q :: l) b = procsN l (cntT (q.body.flatMap StmtV.pre) (b + 1 + q.params.length)) := rfl
    rw [e] at h ⊢
    have h1 := cntT_le (q.body.flatMap StmtV.pre) (b + 1 + q.params.length) (by omega)
    have h2 := procsN_le l (cntT (q.body.flatMap StmtV.pre) (b + 1 + q.params.length)) (by omega)
    have h3 := cntT_light (q.body.flatMap StmtV.pre) (b + 1 + q.params.length) (by omega) (by omega)
    rw [procsN_light l _ (by omega) h, h3]
    simp only [List.map_cons, List.sum_cons, heftQ, heftL]
    omega
theorem countP_light {p : ProgV} (h : countP p ≤ 20000) : countP p = heftP p := by
  unfold countP at h ⊢
  have d0 : (0 : Int) ≤ declsN p := by unfold declsN; omega
  have a1 := cntN_le p.require.pre.length (pre_pos _) (declsN p) d0
  generalize hA : cntN p.require.pre.length (declsN p) = A at *
  have a2 := initsN_le p.inits A (by omega)
  generalize hB : initsN p.inits A = B at *
  have a3 := procsN_le p.procs B (by omega)
  generalize hC : procsN p.procs B = C at *
  have a4 := cntT_le (p.work.flatMap StmtV.pre) C (by omega)
  generalize hD : cntT (p.work.flatMap StmtV.pre) C = D at *
  have a5 := cntT_le (p.recover.flatMap StmtV.pre) D (by omega)
  generalize hE : cntT (p.recover.flatMap StmtV.pre) D = E at *
  have a6 := cntN_le p.invariant.pre.length (pre_pos _) E (by omega)
  have b1 := cntN_light (pre_pos p.require) (b := declsN p) (by omega)
  have b2 := initsN_light p.inits A (by omega) (by omega)
  have b3 := procsN_light p.procs B (by omega) (by omega)
  have b4 := cntT_light (p.work.flatMap StmtV.pre) C (by omega) (by omega)
  have b5 := cntT_light (p.recover.flatMap StmtV.pre) D (by omega) (by omega)
  have b6 := cntN_light (pre_pos p.invariant) (b := E) h
  rw [b6]
  unfold heftP heftL
  have e : declsN p = (p.inputs.length + p.ghosts.length + p.vars.length + p.arrays.length + 1 : Nat) := by unfold declsN; omega
  omega
theorem pre_lenX (e : ExprV) : e.pre.length = 1 + heftX e.subs := by
  rw [ExprV.pre_eq, List.length_cons, List.length_flatMap]
  unfold heftX
  omega
theorem heftL_cons (s : StmtV) (l : List StmtV) : heftL (s :: l) = (1 + heftX s.exprs) + heftL s.thn + heftL s.els + heftL l := by
  unfold heftL heftT
  rw [List.flatMap_cons, StmtV.pre_eq]
  simp [List.map_append, List.sum_append]
  omega
mutual
theorem exprC_len (p : ProgV) (E : Env) (wh : Int) : ∀ (e : ExprV) (d : Nat), (exprC p E wh e d).length = e.pre.length
  | .mk k op v wd nm sp subs, d => by
    rw [exprC, List.length_cons, exprsC_len p E wh subs (d + 1), pre_lenX]
    exact Nat.add_comm _ _
theorem exprsC_len (p : ProgV) (E : Env) (wh : Int) : ∀ (l : List ExprV) (d : Nat), (exprsC p E wh l d).length = heftX l
  | [], _ => by rw [exprsC]; rfl
  | e :: l, d => by
    rw [exprsC, List.length_append, exprC_len p E wh e d, exprsC_len p E wh l d]
    simp [heftX]
end
mutual
theorem stmtC_len (p : ProgV) (E : Env) : ∀ (s : StmtV) (d : Nat), (stmtC p E s d).length = 1 + heftX s.exprs + heftL s.thn + heftL s.els
  | .mk k nm es ex b ts th os el, d => by
    rw [stmtC, List.length_cons, List.length_append, List.length_append, exprsC_len, stmtsC_len p E th (d + 1), stmtsC_len p E el (d + 1)]
    show _ = 1 + heftX ex + heftL th + heftL el
    omega
theorem stmtsC_len (p : ProgV) (E : Env) : ∀ (l : List StmtV) (d : Nat), (stmtsC p E l d).length = heftL l
  | [], _ => by rw [stmtsC]; rfl
  | s :: l, d => by
    rw [stmtsC, List.length_append, stmtC_len p E s d, stmtsC_len p E l d, heftL_cons]
end
theorem declsC_len (p : ProgV) (a : Bool) : ∀ (l : List DeclV) (b : List ByteArray), (declsC p a l b).length = l.length
  | [], _ => by rw [declsC]; rfl
  | d :: l, b => by rw [declsC, List.length_cons, declsC_len p a l _]; rfl
theorem procsC_len (p : ProgV) : ∀ (l : List ProcV) (i : Nat) (b : List ByteArray), (procsC p l i b).length = (l.map heftQ).sum
  | [], _, _ => by rw [procsC]; rfl
  | q :: l, i, b => by
    rw [procsC, List.length_append, procsC_len p l _ _, procC, List.length_cons, List.length_append, declsC_len, stmtsC_len]
    simp [heftQ]; omega
theorem initsC_len (p : ProgV) : ∀ (l : List InitV) (b : List Int), (initsC p l b).length = (l.map fun i => 1 + i.value.pre.length).sum
  | [], _ => by rw [initsC]; rfl
  | x :: l, b => by
    rw [initsC, List.length_append, List.length_cons, initsC_len p l _, exprC_len]
    simp; omega
theorem codesP_len (p : ProgV) (n : Int) : (codesP p n).length = heftP p := by
  unfold codesP
  simp only [List.length_cons, List.length_append, declsC_len, exprC_len, initsC_len, procsC_len, stmtsC_len]
  unfold heftP
  omega
theorem sum_mem {α : Type} (f : α → Nat) (l : List α) (x : α) (h : x ∈ l) : f x ≤ (l.map f).sum := by
  induction l with
  | nil => cases h
  | cons y l ih =>
    simp only [List.map_cons, List.sum_cons]
    rcases List.mem_cons.1 h with e | h
    · rw [e]; omega
    · have := ih h; omega
/-- What a light program is: few procedures, light bodies. -/
theorem heft_body {p : ProgV} (h : heftP p ≤ 20000) {q : ProcV} (hq : q ∈ p.procs) : cntT (q.body.flatMap StmtV.pre) 0 ≤ 20000 := by
  have h1 := sum_mem heftQ p.procs q hq
  have h2 : heftT (q.body.flatMap StmtV.pre) ≤ heftQ q := by unfold heftQ heftL; omega
  unfold heftP at h
  rw [cntT_of _ _ (by omega)]
  omega
theorem len_le_sum {α : Type} (f : α → Nat) (hf : ∀ x, 1 ≤ f x) (l : List α) : l.length ≤ (l.map f).sum := by
  induction l with
  | nil => simp
  | cons y l ih => simp only [List.map_cons, List.sum_cons, List.length_cons]; have := hf y; omega
theorem heft_procs {p : ProgV} (h : heftP p ≤ 20000) : p.procs.length ≤ 20000 := by
  have := len_le_sum heftQ (fun q => by unfold heftQ; omega) p.procs
  unfold heftP at h
  omega
theorem heftT_len (l : List StmtV) : l.length ≤ heftT l := len_le_sum _ (fun s => by omega) l
theorem sum_range_get {α : Type} (f : α → Nat) : ∀ l : List α, ((List.range l.length).map fun i => (l[i]?.map f).getD 0).sum = (l.map f).sum
  | [] => rfl
  | x :: l => by
    rw [List.length_cons, List.range_succ_eq_map, List.map_cons, List.map_map, List.sum_cons, List.map_cons, List.sum_cons, ← sum_range_get f l]
    rfl
theorem sum_le_sum {α : Type} (f g : α → Nat) (l : List α) (h : ∀ x ∈ l, f x ≤ g x) : (l.map f).sum ≤ (l.map g).sum := by
  induction l with
  | nil => simp
  | cons y l ih =>
    simp only [List.map_cons, List.sum_cons]
    have := h y (List.mem_cons_self ..)
    have := ih fun x hx => h x (List.mem_cons_of_mem _ hx)
    omega
theorem fuel_light {p : ProgV} (h : heftP p ≤ 20000) : fuelP p ≤ 20002 := by
  have h1 : ((List.range p.procs.length).map fun i => (nextP p i).length).sum ≤ ((List.range p.procs.length).map fun i => (p.procs[i]?.map heftQ).getD 0).sum := by
    refine sum_le_sum _ _ _ fun i hi => ?_
    have hi := List.mem_range.1 hi
    rw [List.getElem?_eq_getElem hi]
    refine Nat.le_trans (nextP_len p i hi) ?_
    have := heftT_len (p.procs[i].body.flatMap StmtV.pre)
    simp only [Option.map_some, Option.getD_some, heftQ, heftL]
    omega
  rw [sum_range_get] at h1
  unfold fuelP
  unfold heftP at h
  omega
end Go.Proofs.YthcboallnbaimaaGreatDoor
