/- check: program. -/
import Derived.Test.YthcboallnbaimaaGreatDoorPart
import Derived.Test.YthcboallnbaimaaGreatDoorTell
import Derived.Test.YthcboallnbaimaaGreatDoorLight
import Derived.Deep.DeepCutAuto
import Derived.Deep.CutBlock
import Derived.Deep.CutRange
namespace Go.Proofs.YthcboallnbaimaaGreatDoor
open Go Go.RowKit Go.Maps
def zeroE : ExprV := .mk 0 0 0 0 ⟨#[]⟩ Sp.none []
def zeroP : ProgV := ⟨0, 0, Sp.none, [], Sp.none, [], Sp.none, [], Sp.none, [], zeroE, Sp.none, [], Sp.none, [], Sp.none, [], Sp.none, [], zeroE⟩
theorem run_zeroP (w : World) : (zeroValue 39).run Tryz.prog w = .ok (.agg zeroP.arr) w := (zero_of_info (n := 22) (by kernel_rfl)).1 w
theorem arr_one (p : ProgV) : p.arr.all (·.oneCell') = true := by kernel_rfl
theorem arr_under : Tryz.prog.underlying 39 = Tryz.prog.underlying 39 := rfl
theorem wpList_load_row_g {P : Program} {ops : Array Oper} {rest : List Oper} {o : Oper} {a : Act} {w : World} {Q : Exit → Act → World → Prop} (hw : Region.wanted o (yielded ops a.tmps) = true) (ty : TypeId) (x : Operand) (ho : o.op = .load ty x)
    (g : Nat) (hx : a.eval x = .pointer (some ⟨g, 0, none⟩)) (t : TypeId) (cs : Array Value) (fr : Nat × Nat) (d : TypeDesc) (hg : w.heap[g]? = some (.cells cs t fr))
    (hu : P.underlying ty = some d) (hd : (match d with | .struct _ | .array _ _ => true | _ => false) = true) (hi : (P.info? ty).map (·.size) = some cs.size)
    (h : wpList P ops Q rest (a.put o.dst (.agg cs)) w) : wpList P ops Q (o :: rest) a w :=
  wpList_step fun _ hK => by rw [if_pos hw]; exact wp_load_row ty x ho g hx t cs fr d hg hu hd hi (hK _ _ h)
set_option maxRecDepth 100000 in
set_option maxHeartbeats 4000000 in
theorem program_any {K : CkE} {J Jx : List (Int × Int) → World → Prop} (hJ : OwnC 129 K.B J) (hJx : OwnC 129 K.B Jx) (hT : TellOk K J Jx) {pm : Option Nat} {E : Env} {cs : List Int} (w : World) (hst : CkSt K J Jx pm E cs w) (hcs : cs.length < 1000000) (hwt : weightP K.p ≤ 1125899906842624) :
    Calls Tryz.prog 117 #[.pointer (some ⟨K.q, 0, none⟩)] w fun o w' => o = .returned (.tuple #[]) ∧ Told K J Jx pm E (cs ++ [programE K.p (sizedN (countP K.p))]) w w' := by
  obtain ⟨over, hk, hs⟩ := hst.ex
  have hpart := fun (W : World) (hW : Below w.heap.size w W) => (hk.new hW).prog_part
  have HPART := Lib.hid hpart
  have hb1 : Below w.heap.size w (w.alloc (.cells K.p.arr 39)) := (Below.refl _ _).alloc (Nat.le_refl _) _
  have hbz : Below w.heap.size w (w.alloc (.cells zeroP.arr 39)) := (Below.refl _ _).alloc (Nat.le_refl _) _
  have hB := World.alloc_heap_new w (.cells K.p.arr 39)
  have HB1 := Lib.hid hb1
  have HBZ := Lib.hid hbz
  have HBX := Lib.hid hB
  have HK := Lib.hid hk
  have HST := Lib.hid hst
  clear hpart hb1 hbz hB hk hst hs
  obtain ⟨sz, hsz⟩ : ∃ sz, sizedN (countP K.p) = sz := ⟨_, rfl⟩
  obtain ⟨l1, hl1⟩ : ∃ x, limitP K.p 16 256 = x := ⟨_, rfl⟩
  obtain ⟨l2, hl2⟩ : ∃ x, limitP K.p 2000 20000 = x := ⟨_, rfl⟩
  have hpe : programE K.p sz = if (decide (K.p.blocks < 1) || decide (8 < K.p.blocks) || !wideW K.p.width) = true then 320 else if (decide (16 < K.p.inputs.length) || decide (16 < K.p.ghosts.length) || decide (l1 < (K.p.vars.length : Int)) || decide (16 < K.p.arrays.length) || decide (16 < K.p.procs.length) || decide (l2 < sz)) = true then 5 else 0 := by
    unfold programE
    rw [hl1, hl2]
    have e1 : (K.p.blocks < 1 ∨ K.p.blocks > 8 ∨ wideW K.p.width = false) ↔ ((decide (K.p.blocks < 1) || decide (8 < K.p.blocks) || !wideW K.p.width) = true) := by simp [or_assoc]
    have e2 : (K.p.inputs.length > 16 ∨ K.p.ghosts.length > 16 ∨ (K.p.vars.length : Int) > l1 ∨ K.p.arrays.length > 16 ∨ K.p.procs.length > 16 ∨ sz > l2) ↔ ((decide (16 < K.p.inputs.length) || decide (16 < K.p.ghosts.length) || decide (l1 < (K.p.vars.length : Int)) || decide (16 < K.p.arrays.length) || decide (16 < K.p.procs.length) || decide (l2 < sz)) = true) := by simp [or_assoc]
    simp only [e1, e2]
  rw [hsz]
  obtain ⟨pe, hpe0⟩ : ∃ pe, programE K.p sz = pe := ⟨_, rfl⟩
  rw [hpe0] at hpe ⊢
  have HPE := Lib.hid hpe
  have HSZ0 := Lib.hid hsz
  have HL10 := Lib.hid hl1
  have HL20 := Lib.hid hl2
  clear hpe hpe0 hsz hl1 hl2
  go_enter Tryz.func117, Tryz.ntmps117
  go_upto_region 1 with (first
    | (refine wpList_load_part rfl 39 _ rfl K.q 0 rfl K.p.arr _ (HPART.out _ (by first | exact Below.refl _ _ | exact HBZ.out)) Tryz.underlying39 rfl (arr_size K.p) ?_)
    | (refine wpList_allocRow (t := 39) rfl rfl (run_zeroP _) ?_)
    | (refine wpList_storeNew (t := 39) rfl _ _ rfl rfl rfl (arr_size K.p) rfl (arr_one K.p) ?_)
    | fail)
  generalize hW1 : w.alloc (.cells K.p.arr 39) = W1 at *
  generalize hv8 : Value.agg K.p.arr = v8
  have c0 : W1.cell? ⟨w.heap.size, 0, none⟩ = some (.int .i64 K.p.blocks) := by simp [World.cell?, HBX.out, ProgV.arr, ProgV.cells]
  have c1 : W1.cell? ⟨w.heap.size, 1, none⟩ = some (.int .i64 K.p.width) := by simp [World.cell?, HBX.out, ProgV.arr, ProgV.cells]
  have c2 : W1.cell? ⟨w.heap.size, 2, none⟩ = some (.slice K.p.is.at_ K.p.inputs.length K.p.is.cap) := by simp [World.cell?, HBX.out, ProgV.arr, ProgV.cells, Sp.val]
  have c3 : W1.cell? ⟨w.heap.size, 3, none⟩ = some (.slice K.p.gs.at_ K.p.ghosts.length K.p.gs.cap) := by simp [World.cell?, HBX.out, ProgV.arr, ProgV.cells, Sp.val]
  have c4 : W1.cell? ⟨w.heap.size, 4, none⟩ = some (.slice K.p.vs.at_ K.p.vars.length K.p.vs.cap) := by simp [World.cell?, HBX.out, ProgV.arr, ProgV.cells, Sp.val]
  have c5 : W1.cell? ⟨w.heap.size, 5, none⟩ = some (.slice K.p.as.at_ K.p.arrays.length K.p.as.cap) := by simp [World.cell?, HBX.out, ProgV.arr, ProgV.cells, Sp.val]
  have c13 : W1.cell? ⟨w.heap.size, 13, none⟩ = some (.slice K.p.rs.at_ K.p.procs.length K.p.rs.cap) := by simp [World.cell?, HBX.out, ProgV.arr, ProgV.cells, Sp.val]
  have HLIM := Lib.hid (fun (a b : Int) => limit_any W1 (HK.out.new HB1.out) a b)
  have hnw : K.n₀ ≤ w.heap.size := by have := HK.out.lt; have := HK.out.q; have := HK.out.n0; omega
  have HTELL : Hid (∀ (W : World) (c : Int), Below w.heap.size w W → Calls Tryz.prog 110 #[.pointer (some ⟨K.q, 0, none⟩), .int .i64 c] W fun o W' => o = .returned (.tuple #[]) ∧ Told K J Jx pm E (cs ++ [c]) w W') := Lib.hid fun W c hW =>
    (hT pm E cs W c (HST.out.new hJ hJx hW) hcs).mono fun o W' ⟨h1, h2⟩ => ⟨h1, ⟨h2.st, (KeepsQ.of_below hW hnw).trans h2.keeps⟩⟩
  have HSZ := Lib.hid (sizeP_any W1 K.p ((HK.out.prog.below (HB1.out.mono hnw)).more (by have := HB1.out.size; omega)) hwt)
  rw [arr_val, hv8] at HSZ
  rw [HSZ0.out] at HSZ
  have hli := HK.out.prog.inputs.row.few
  have hlg := HK.out.prog.ghosts.row.few
  have hlv := HK.out.prog.vars.row.few
  have hla := HK.out.prog.arrays.row.few
  have hlp := HK.out.prog.prow.few
  have HL1 := Lib.hid (HLIM.out 16 256)
  have HL2 := Lib.hid (HLIM.out 2000 20000)
  rw [HL10.out] at HL1
  rw [HL20.out] at HL2
  clear HLIM hwt hW1 HSZ0 HL10 HL20
  go_upto_region 3 with (first | (go_at_call 111; refine HL1.out.mono ?_; clear HL1; rintro o7 w7 ⟨rfl, rfl⟩) | (go_at_call 111; refine HL2.out.mono ?_; rintro o7 w7 ⟨rfl, rfl⟩) | fail)
  generalize K.p.blocks = bk at *
  generalize K.p.width = wd at *
  have HWI := Lib.hid (wide_any wd W1)
  generalize wideW wd = wi at *
  go_cut [15] (fun s15 wx => s15 = .bool (decide (bk < 1) || decide (8 < bk) || !wi) ∧ W1 = wx)
  case first =>
    clear HTELL HSZ HPART HPE
    by_cases a1 : bk < 1
    · go_wp2_with fail
      go_meet
      case rel => exact ⟨congrArg Value.bool (by simp [a1]), rfl⟩
    · by_cases a2 : 8 < bk
      · go_wp2_with fail
        go_meet
        case rel => exact ⟨congrArg Value.bool (by simp [a2]), rfl⟩
      · have d1 : decide (bk < 1) = false := decide_eq_false a1
        have d2 : decide (8 < bk) = false := decide_eq_false a2
        have D1 := Lib.hid d1
        have D2 := Lib.hid d2
        go_wp2_with (first | (go_at_call 106; refine HWI.out.mono ?_; rintro o7 w7 ⟨rfl, rfl⟩) | fail)
        go_meet
        case rel => exact ⟨congrArg Value.bool (by rw [D1.out, D2.out]; rfl), rfl⟩
  case rest =>
    obtain ⟨rfl, rfl⟩ := hcut
    obtain ⟨b3, hb3⟩ : ∃ b, (decide (bk < 1) || decide (8 < bk) || !wi) = b := ⟨_, rfl⟩
    rw [hb3] at HPE ⊢
    clear hb3 HWI
    cases b3 with
    | true =>
      have hres : pe = 320 := by rw [HPE.out]; rfl
      have HRES := Lib.hid hres
      clear hres HSZ
      go_wp2_with (first | (go_at_call 110; refine (HTELL.out _ _ HB1.out).mono ?_; rintro o9 w9 ⟨rfl, ht9⟩) | fail)
      go_returns
      exact ⟨rfl, by rw [HRES.out]; exact ht9⟩
    | false =>
      go_upto_region 5 with fail
      go_cut [32] (fun s32 wx => s32 = .bool (decide (16 < K.p.inputs.length) || decide (16 < K.p.ghosts.length) || decide (l1 < (K.p.vars.length : Int)) || decide (16 < K.p.arrays.length) || decide (16 < K.p.procs.length) || decide (l2 < sz)) ∧ Below W1.heap.size W1 wx)
      case first =>
        clear HTELL HPART HPE
        by_cases a0 : 16 < K.p.inputs.length
        · have d0 : decide (16 < K.p.inputs.length) = true := decide_eq_true a0
          have e0 : decide ((16 : Int) < (K.p.inputs.length : Int)) = true := decide_eq_true (by omega)
          have D0 := Lib.hid d0
          clear a0
          clear HSZ
          go_wp2_with fail
          go_meet
          case rel => exact ⟨congrArg Value.bool (by rw [D0.out]; rfl), Below.refl _ _⟩
        · have d0 : decide (16 < K.p.inputs.length) = false := decide_eq_false a0
          have e0 : decide ((16 : Int) < (K.p.inputs.length : Int)) = false := decide_eq_false (by omega)
          have D0 := Lib.hid d0
          clear a0
          by_cases a1 : 16 < K.p.ghosts.length
          · have d1 : decide (16 < K.p.ghosts.length) = true := decide_eq_true a1
            have e1 : decide ((16 : Int) < (K.p.ghosts.length : Int)) = true := decide_eq_true (by omega)
            have D1 := Lib.hid d1
            clear a1
            clear HSZ
            go_wp2_with fail
            go_meet
            case rel => exact ⟨congrArg Value.bool (by rw [D0.out, D1.out]; rfl), Below.refl _ _⟩
          · have d1 : decide (16 < K.p.ghosts.length) = false := decide_eq_false a1
            have e1 : decide ((16 : Int) < (K.p.ghosts.length : Int)) = false := decide_eq_false (by omega)
            have D1 := Lib.hid d1
            clear a1
            by_cases a2 : l1 < (K.p.vars.length : Int)
            · have d2 : decide (l1 < (K.p.vars.length : Int)) = true := decide_eq_true a2
              have D2 := Lib.hid d2
              clear a2
              clear HSZ
              go_wp2_with fail
              go_meet
              case rel => exact ⟨congrArg Value.bool (by rw [D0.out, D1.out, D2.out]; rfl), Below.refl _ _⟩
            · have d2 : decide (l1 < (K.p.vars.length : Int)) = false := decide_eq_false a2
              have D2 := Lib.hid d2
              clear a2
              by_cases a3 : 16 < K.p.arrays.length
              · have d3 : decide (16 < K.p.arrays.length) = true := decide_eq_true a3
                have e3 : decide ((16 : Int) < (K.p.arrays.length : Int)) = true := decide_eq_true (by omega)
                have D3 := Lib.hid d3
                clear a3
                clear HSZ
                go_wp2_with fail
                go_meet
                case rel => exact ⟨congrArg Value.bool (by rw [D0.out, D1.out, D2.out, D3.out]; rfl), Below.refl _ _⟩
              · have d3 : decide (16 < K.p.arrays.length) = false := decide_eq_false a3
                have e3 : decide ((16 : Int) < (K.p.arrays.length : Int)) = false := decide_eq_false (by omega)
                have D3 := Lib.hid d3
                clear a3
                by_cases a4 : 16 < K.p.procs.length
                · have d4 : decide (16 < K.p.procs.length) = true := decide_eq_true a4
                  have e4 : decide ((16 : Int) < (K.p.procs.length : Int)) = true := decide_eq_true (by omega)
                  have D4 := Lib.hid d4
                  clear a4
                  clear HSZ
                  go_wp2_with fail
                  go_meet
                  case rel => exact ⟨congrArg Value.bool (by rw [D0.out, D1.out, D2.out, D3.out, D4.out]; rfl), Below.refl _ _⟩
                · have d4 : decide (16 < K.p.procs.length) = false := decide_eq_false a4
                  have e4 : decide ((16 : Int) < (K.p.procs.length : Int)) = false := decide_eq_false (by omega)
                  have D4 := Lib.hid d4
                  clear a4
                  go_wp2_with (first | (refine wpList_load_row_g (by rfl) 39 _ rfl w.heap.size rfl 39 _ (0, 0) _ HBX.out Tryz.underlying39 rfl (arr_size K.p) ?_) | (go_at_call 27; refine HSZ.out.mono ?_; rintro o7 w7 ⟨rfl, hb7⟩; have HB7 := Lib.hid hb7; clear hb7) | fail)
                  go_meet
                  case rel => exact ⟨congrArg Value.bool (by rw [D0.out, D1.out, D2.out, D3.out, D4.out]; rfl), HB7.out⟩
      case rest =>
        obtain ⟨rfl, hb8⟩ := hcut
        obtain ⟨b5, hb5⟩ : ∃ b, (decide (16 < K.p.inputs.length) || decide (16 < K.p.ghosts.length) || decide (l1 < (K.p.vars.length : Int)) || decide (16 < K.p.arrays.length) || decide (16 < K.p.procs.length) || decide (l2 < sz)) = b := ⟨_, rfl⟩
        rw [hb5] at HPE ⊢
        have HB8 := Lib.hid (HB1.out.trans (hb8.mono HB1.out.size))
        clear hb5 hb8 HSZ c0 c1 c2 c3 c4 c5 c13
        cases b5
        all_goals
          have hres := HPE.out
          simp only [Bool.false_eq_true, if_false, if_true] at hres
          have HRES := Lib.hid hres
          clear hres
          go_wp2_with (first | (go_at_call 110; refine (HTELL.out _ _ HB8.out).mono ?_; rintro o9 w9 ⟨rfl, ht9⟩) | fail)
          go_returns
          exact ⟨rfl, by rw [HRES.out]; exact ht9⟩
end Go.Proofs.YthcboallnbaimaaGreatDoor
