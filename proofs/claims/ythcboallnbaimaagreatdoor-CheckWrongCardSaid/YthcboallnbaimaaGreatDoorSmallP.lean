/- The small programs of chapter 32, as Lean data; what Check tells of a program, reckoned. -/
import Derived.Test.YthcboallnbaimaaGreatDoorFirst
namespace Go.Proofs.YthcboallnbaimaaGreatDoor
open Go Go.RowKit
def numE (x w : Int) : ExprV := .mk 1 0 x w ⟨#[]⟩ Sp.none []
def nameE (s : ByteArray) : ExprV := .mk 2 0 0 0 s Sp.none []
def setT (sp : Sp) (s : ByteArray) (e : ExprV) : StmtV := .mk 1 s sp [e] 0 Sp.none [] Sp.none []
def writeT (sp : Sp) (b e : ExprV) : StmtV := .mk 3 ⟨#[]⟩ sp [b, e] 0 Sp.none [] Sp.none []
def callT (sp : Sp) (s : ByteArray) (l : List ExprV) : StmtV := .mk 8 s sp l 0 Sp.none [] Sp.none []
def xB : ByteArray := ⟨#[120]⟩
def smallP (v ws : Sp) (l : List StmtV) : ProgV := ⟨1, 2, Sp.none, [], Sp.none, [], v, [⟨xB, 3, 0⟩], Sp.none, [], numE 1 1, Sp.none, [], Sp.none, [], ws, l, Sp.none, [], numE 1 1⟩
theorem initsN_of : ∀ (l : List InitV) (b : Int), b + ((l.map fun i => 1 + i.value.pre.length).sum : Nat) ≤ 20000 → initsN l b = b + ((l.map fun i => 1 + i.value.pre.length).sum : Nat)
  | [], b, _ => by simp [initsN]
  | i :: l, b, h => by
    have e : initsN (i :: l) b = initsN l (cntN i.value.pre.length (b + 1)) := rfl
    simp only [List.map_cons, List.sum_cons] at h ⊢
    rw [e, cntN_of (by omega), initsN_of l _ (by omega)]
    omega
theorem procsN_of : ∀ (l : List ProcV) (b : Int), b + ((l.map heftQ).sum : Nat) ≤ 20000 → procsN l b = b + ((l.map heftQ).sum : Nat)
  | [], b, _ => by simp [procsN]
  | q :: l, b, h => by
    have e : procsN (q :: l) b = procsN l (cntT (q.body.flatMap StmtV.pre) (b + 1 + q.params.length)) := rfl
    have e2 : heftQ q = 1 + q.params.length + heftT (q.body.flatMap StmtV.pre) := rfl
    simp only [List.map_cons, List.sum_cons] at h ⊢
    rw [e, cntT_of _ _ (by omega), procsN_of l _ (by omega)]
    omega
theorem countP_of {p : ProgV} (h : heftP p ≤ 20000) : countP p = heftP p := by
  have e : declsN p = (p.inputs.length + p.ghosts.length + p.vars.length + p.arrays.length + 1 : Nat) := by unfold declsN; omega
  unfold heftP heftL at *
  unfold countP
  have h1 : cntN p.require.pre.length (declsN p) = declsN p + p.require.pre.length := cntN_of (by omega)
  rw [h1]
  have h2 := initsN_of p.inits (declsN p + p.require.pre.length) (by omega)
  rw [h2]
  have h3 := procsN_of p.procs (declsN p + p.require.pre.length + ((p.inits.map fun i => 1 + i.value.pre.length).sum : Nat)) (by omega)
  rw [h3]
  have h4 := cntT_of (p.work.flatMap StmtV.pre) (declsN p + p.require.pre.length + ((p.inits.map fun i => 1 + i.value.pre.length).sum : Nat) + ((p.procs.map heftQ).sum : Nat)) (by omega)
  rw [h4]
  have h5 := cntT_of (p.recover.flatMap StmtV.pre) (declsN p + p.require.pre.length + ((p.inits.map fun i => 1 + i.value.pre.length).sum : Nat) + ((p.procs.map heftQ).sum : Nat) + heftT (p.work.flatMap StmtV.pre)) (by omega)
  rw [h5, cntN_of (by omega)]
  omega
theorem nodes_le (l : List StmtV) : nodesT l ≤ heftT l := by
  unfold nodesT heftT
  refine sum_le_sum _ _ _ fun s _ => ?_
  have : s.exprs.length ≤ heftX s.exprs := len_le_sum _ (fun e => pre_pos e) _
  omega
theorem weight_le (p : ProgV) : weightP p ≤ heftP p := by
  have h1 : (p.procs.map fun q => 1 + q.params.length + nodesT (q.body.flatMap StmtV.pre)).sum ≤ (p.procs.map heftQ).sum := by
    refine sum_le_sum _ _ _ fun q _ => ?_
    have := nodes_le (q.body.flatMap StmtV.pre)
    unfold heftQ heftL; omega
  have h2 := nodes_le (p.work.flatMap StmtV.pre)
  have h3 := nodes_le (p.recover.flatMap StmtV.pre)
  unfold weightP heftP heftL
  omega
theorem fit_of {p : ProgV} {k : Nat} (hk : (codesP p 0).length = k) (h : k ≤ 20000) (hN : NamesOk p) : Fit p := by
  have hh : heftP p = k := by rw [← codesP_len p 0, hk]
  exact ⟨by rw [countP_of (by omega)]; omega, hN, by have := weight_le p; omega⟩
theorem res_of {p : ProgV} {k : Nat} (hk : (codesP p 0).length = k) (h : k ≤ 20000) : resP p = probs (codesP p k) 0 := by
  have hh : heftP p = k := by rw [← codesP_len p 0, hk]
  unfold resP
  rw [countP_of (by omega), hh]
  unfold sizedN
  rw [if_pos (by omega)]
theorem check_of {p : ProgV} {k : Nat} (hk : (codesP p 0).length = k) (h : k ≤ 20000) {r : Int × Int} (hr : (probs (codesP p k) 0).headD (0, 0) = r) : checkP p = r := by
  have hh : heftP p = k := by rw [← codesP_len p 0, hk]
  unfold checkP
  rw [if_pos (by rw [countP_of (by omega)]; omega), res_of hk h, hr]
section
variable (v ws a b c d : Sp)
theorem chk0 : checkP (smallP v ws []) = (0, 0) := check_of (k := 4) (by kernel_rfl) (by decide) (by kernel_rfl)
theorem chk1 : checkP (smallP v ws [setT a xB (numE 1 3), writeT b (numE 0 1) (nameE xB)]) = (5, 322) := check_of (k := 9) (by kernel_rfl) (by decide) (by kernel_rfl)
theorem chk2 : checkP (smallP v ws [setT a xB (numE 1 2)]) = (3, 322) := check_of (k := 6) (by kernel_rfl) (by decide) (by kernel_rfl)
theorem chk3 : checkP (smallP v ws [setT a ⟨#[121]⟩ (numE 1 2)]) = (3, 321) := check_of (k := 6) (by kernel_rfl) (by decide) (by kernel_rfl)
/-- A procedure that calls itself. -/
def loopP (rs : Sp) : ProgV := { smallP v ws [] with rs := rs, procs := [⟨⟨#[112]⟩, Sp.none, [], a, [callT b ⟨#[112]⟩ []]⟩] }
theorem chk4 (rs : Sp) : checkP (loopP v ws a b rs) = (4, 328) := by
  refine check_of (k := 6) (by kernel_rfl) (by decide) ?_
  have hl : leadsB (loopP v ws a b rs) 0 0 = true := by
    unfold leadsB
    rw [fuelP_eq, Nat.add_comm]
    exact leadsF_hit _ _ _ _ _
  have hw : wrongE (loopP v ws a b rs) (inside (loopP v ws a b rs) 0) (callT b ⟨#[112]⟩ []) = if leadsB (loopP v ws a b rs) 0 0 = true then 328 else 0 := by
    have e : wrongE (loopP v ws a b rs) (inside (loopP v ws a b rs) 0) (callT b ⟨#[112]⟩ []) = if (0 : Int) ≥ 0 ∧ leadsB (loopP v ws a b rs) 0 0 = true then 328 else 0 := by kernel_rfl
    rw [e]; simp
  rw [hl, if_pos rfl] at hw
  have hs : stmtE (loopP v ws a b rs) (inside (loopP v ws a b rs) 0) (callT b ⟨#[112]⟩ []) 1 = 328 := by
    unfold stmtE
    rw [hw]
    kernel_rfl
  have hc : codesP (loopP v ws a b rs) 6 = [0, 0, 0, 0] ++ (stmtE (loopP v ws a b rs) (inside (loopP v ws a b rs) 0) (callT b ⟨#[112]⟩ []) 1 :: [0]) := by kernel_rfl
  show (probs (codesP (loopP v ws a b rs) 6) 0).headD (0, 0) = (4, 328)
  rw [hc, hs]
  kernel_rfl
def whileT : StmtV := .mk 7 ⟨#[]⟩ a [nameE xB] 0 Sp.none [] Sp.none []
theorem chk5 : checkP (smallP v ws [whileT a]) = (3, 329) := check_of (k := 6) (by kernel_rfl) (by decide) (by kernel_rfl)
def requireP : ProgV := { smallP v ws [] with require := nameE xB }
theorem chk6 : checkP (requireP v ws) = (2, 326) := check_of (k := 4) (by kernel_rfl) (by decide) (by kernel_rfl)
def castE (e : ExprV) : ExprV := .mk 8 0 0 3 ⟨#[]⟩ a [e]
theorem chk7 : checkP (smallP v ws [setT b xB (castE a (numE 5 2))]) = (5, 322) := check_of (k := 7) (by kernel_rfl) (by decide) (by kernel_rfl)
def twiceP : ProgV := { smallP v ws [] with vars := [⟨xB, 3, 0⟩, ⟨xB, 1, 0⟩] }
theorem chk8 : checkP (twiceP v ws) = (2, 321) := check_of (k := 5) (by kernel_rfl) (by decide) (by kernel_rfl)
end
end Go.Proofs.YthcboallnbaimaaGreatDoor
