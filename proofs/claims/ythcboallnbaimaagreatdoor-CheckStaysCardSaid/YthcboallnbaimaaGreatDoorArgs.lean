/- check: args. -/
import Derived.Test.YthcboallnbaimaaGreatDoorWidth
import Derived.Test.YthcboallnbaimaaGreatDoorEnter
namespace Go.Proofs.YthcboallnbaimaaGreatDoor
open Go Go.RowKit Go.Maps
set_option maxRecDepth 100000 in
set_option maxHeartbeats 4000000 in
theorem args_any {K : CkE} {pm : Option Nat} {E : Env} {n : Int} {over : Bool} (w : World) (hk : Ckr K pm E n over w) (i : Nat) (hi : i < K.p.procs.length) {m : Nat} {s : Sp} {l : List ExprV} (hl : RdXs m w s l) (hm : m ≤ w.heap.size) :
    Calls Tryz.prog 175 #[.pointer (some ⟨K.q, 0, none⟩), .int .i64 i, s.val l.length] w fun o w' => o = .returned (.bool (argsB K.p E i l)) ∧ Below w.heap.size w w' := by
  have hq := hk.prog.procs _ (List.getElem_mem hi)
  have hpf := hk.prog.prow.few
  obtain ⟨b, off, eA, hbn, hcell⟩ := hk.prog.prow.row (by omega)
  have hpc : w.cell? ⟨b, off + i * 3 + 1, none⟩ = some (.slice K.p.procs[i].ps.at_ K.p.procs[i].params.length K.p.procs[i].ps.cap) := hcell i hi 1 _ rfl
  have hab : argsB K.p E i l = if K.p.procs[i].params.length ≠ l.length then true else argsL K.p E K.p.procs[i].params l := by
    unfold argsB; rw [List.getElem?_eq_getElem hi]
  have c13 := hk.c13
  rw [eA] at c13
  have hn0 : K.n₀ ≤ w.heap.size := by have := hk.lt; have := hk.q; have := hk.n0; omega
  have HAB := Lib.hid hab
  have HQ := Lib.hid hq.params
  generalize K.p.procs[i] = pq at *
  have hpl := HQ.out.row.few
  have hll := hl.row.few
  have hi0 : (0 : Int) ≤ (i : Int) := by omega
  have hi1 : (i : Int) < (K.p.procs.length : Int) := by omega
  have HK := Lib.hid hk
  have HL := Lib.hid hl
  clear hk hq hcell hab hl eA
  simp only [Sp.val]
  by_cases hne : pq.params.length = l.length
  · have g1 : ((pq.params.length : Int) == (l.length : Int)) = true := by simp [hne]
    have g2 : ((pq.params.length : Int) != (l.length : Int)) = false := by simp [hne]
    have HNE := Lib.hid hne
    clear hne
    go_enter Tryz.func175, Tryz.ntmps175
    go_wp2_with fail
    go_loopw [26] (fun v wr => ∃ k : Nat, k ≤ l.length ∧ v = .int .i64 k ∧ argsL K.p E pq.params l = argsL K.p E (pq.params.drop k) (l.drop k) ∧ Below w.heap.size w wr) (fun v _ => l.length - (intOf v).toNat)
    case atStart => exact ⟨0, Nat.zero_le _, rfl, rfl, Below.refl _ _⟩
    case round =>
      obtain ⟨k, hk, rfl, har, hb⟩ := hrel
      have HAR := Lib.hid har
      have HBR := Lib.hid hb
      clear har hb c13 hpc
      by_cases hlt2 : k < l.length
      · obtain ⟨b2, off2, eA, hbn2, hcell⟩ := (HQ.out.row.below (HBR.out.mono hn0)).row (by have := HNE.out; omega)
        obtain ⟨be, oe, eE, hbe, hce⟩ := (HL.out.row.below (HBR.out.mono hm)).row (by omega)
        have hx : k < pq.params.length := by have := HNE.out; omega
        have k0 : wr.cell? ⟨b2, off2 + k * 3, none⟩ = some (.string pq.params[k].name) := hcell k hx 0 _ rfl
        have k1 : wr.cell? ⟨b2, off2 + k * 3 + 1, none⟩ = some (.int .i64 pq.params[k].width) := hcell k hx 1 _ rfl
        have k2 : wr.cell? ⟨b2, off2 + k * 3 + 2, none⟩ = some (.int .i64 pq.params[k].size) := hcell k hx 2 _ rfl
        have hce2 := hce k hlt2
        have hrx := HL.out.ok _ (List.getElem_mem hlt2)
        have hst : argsL K.p E (pq.params.drop k) (l.drop k) = (differW (widthE K.p E l[k]) pq.params[k].width || argsL K.p E (pq.params.drop (k + 1)) (l.drop (k + 1))) := by
          rw [List.drop_eq_getElem_cons hx, List.drop_eq_getElem_cons hlt2]; rfl
        have HST := Lib.hid hst
        generalize pq.params[k] = x at *
        generalize l[k] = y at *
        have hba : Below wr.heap.size wr (wr.alloc (.cells #[.string x.name, .int .i64 x.width, .int .i64 x.size] 44)) := (Below.refl _ wr).alloc (Nat.le_refl _) _
        have hB5 := World.alloc_heap_new wr (.cells #[.string x.name, .int .i64 x.width, .int .i64 x.size] 44)
        have hszr := HBR.out.size
        have hs5 : (wr.alloc (.cells #[.string x.name, .int .i64 x.width, .int .i64 x.size] 44)).heap.size = wr.heap.size + 1 := by simp
        have hk0 : (0 : Int) ≤ (k : Int) := by omega
        have hk1 : (k : Int) < (l.length : Int) := by omega
        have hk2 : (k : Int) < (pq.params.length : Int) := by omega
        have hk3 : decide (k < pq.params.length) = true := decide_eq_true hx
        clear hcell hce hst hx
        rw [eA, eE]
        clear eA eE
        go_upto_region 7 with fail
        generalize wr.alloc (.cells #[.string x.name, .int .i64 x.width, .int .i64 x.size] 44) = W5 at *
        have HC : Hid (∀ W, Below W5.heap.size W5 W → W.cell? ⟨be, oe + k * 6, none⟩ = some (.int .u8 y.kind) ∧ W.cell? ⟨be, oe + k * 6 + 1, none⟩ = some (.int .u8 y.op) ∧ W.cell? ⟨be, oe + k * 6 + 2, none⟩ = some (.int .u32 y.value) ∧ W.cell? ⟨be, oe + k * 6 + 3, none⟩ = some (.int .i64 y.width) ∧ W.cell? ⟨be, oe + k * 6 + 4, none⟩ = some (.string y.name) ∧ W.cell? ⟨be, oe + k * 6 + 5, none⟩ = some (.slice y.sp.at_ y.subs.length y.sp.cap) ∧ W.cell? ⟨wr.heap.size, 1, none⟩ = some (.int .i64 x.width)) := Lib.hid fun W hW => by
          have e := hba.trans (hW.mono hba.size)
          exact ⟨(e.cell (p := ⟨be, _, none⟩) (by dsimp only; omega)).trans (hce2 0 _ rfl), (e.cell (p := ⟨be, _, none⟩) (by dsimp only; omega)).trans (hce2 1 _ rfl), (e.cell (p := ⟨be, _, none⟩) (by dsimp only; omega)).trans (hce2 2 _ rfl), (e.cell (p := ⟨be, _, none⟩) (by dsimp only; omega)).trans (hce2 3 _ rfl), (e.cell (p := ⟨be, _, none⟩) (by dsimp only; omega)).trans (hce2 4 _ rfl), (e.cell (p := ⟨be, _, none⟩) (by dsimp only; omega)).trans (hce2 5 _ rfl), (three_cells ((hW.block _ (by omega)).trans hB5)).2.1⟩
        have HW : Hid (∀ W, Below W5.heap.size W5 W → Calls Tryz.prog 68 #[.pointer (some ⟨K.q, 0, none⟩), y.val] W fun o w' => o = .returned (.int .i64 (widthE K.p E y)) ∧ Below W.heap.size W w') := Lib.hid fun W hW => by
          have e : Below w.heap.size w W := HBR.out.trans ((hba.trans (hW.mono hba.size)).mono hszr)
          exact width_any hrx W (e.mono hm) (by have := e.size; omega) (HK.out.new e)
        simp only [ExprV.val, Sp.val] at HW
        have hb5 : Below w.heap.size w W5 := HBR.out.trans (hba.mono hszr)
        have HB5 := Lib.hid hb5
        obtain ⟨v0, v1, v2, v3, v4, v5, v6⟩ := HC.out W5.drew (Below.refl _ _).drew
        have hbd : Below W5.heap.size W5 W5.drew := (Below.refl _ _).drew
        have hsw : w.heap.size ≤ W5.heap.size := hb5.size
        clear hce2 hrx hba hB5 k0 k1 k2 hb5 hs5
        generalize widthE K.p E y = wy at *
        cases hdf : differW wy x.width
        all_goals
          rw [hdf] at HST
          have HDF := Lib.hid (fun W => (hdf ▸ differ_any wy x.width W : Calls Tryz.prog 108 #[.int .i64 wy, .int .i64 x.width] W fun o w' => o = .returned (.bool _) ∧ W = w'))
          clear hdf
          go_region_held3 (fun W => W.cell? ⟨be, oe + k * 6, none⟩ = some (.int .u8 y.kind) ∧ W.cell? ⟨be, oe + k * 6 + 1, none⟩ = some (.int .u8 y.op) ∧ W.cell? ⟨be, oe + k * 6 + 2, none⟩ = some (.int .u32 y.value) ∧ W.cell? ⟨be, oe + k * 6 + 3, none⟩ = some (.int .i64 y.width) ∧ W.cell? ⟨be, oe + k * 6 + 4, none⟩ = some (.string y.name) ∧ W.cell? ⟨be, oe + k * 6 + 5, none⟩ = some (.slice y.sp.at_ y.subs.length y.sp.cap) ∧ W.cell? ⟨wr.heap.size, 1, none⟩ = some (.int .i64 x.width) ∧ Below W5.heap.size W5 W) (simp [*])
            (first
              | (go_at_call 68; refine (HW.out _ (by assumption)).mono ?_; rintro o8 w8 ⟨rfl, hb8⟩; have hb9 := Below.trans (by assumption : Below W5.heap.size W5 _) (hb8.mono (Below.size (by assumption))); obtain ⟨z0, z1, z2, z3, z4, z5, z6⟩ := HC.out _ hb9)
              | (go_at_call 108; refine (HDF.out _).mono ?_; rintro o6 w6 ⟨rfl, rfl⟩)
              | fail)
        · go_wp2_with fail
          go_roundw
          case rel => first | exact ⟨k + 1, by omega, by go_num, HAR.out.trans (HST.out.trans (Bool.false_or _)), HB5.out.trans ((by assumption : Below W5.heap.size W5 _).mono hsw)⟩ | ((repeat apply Exists.intro); exact ⟨⟨k + 1, by omega, by go_num, HAR.out.trans (HST.out.trans (Bool.false_or _)), HB5.out.trans ((by assumption : Below W5.heap.size W5 _).mono hsw)⟩, rfl⟩)
          case measure => simp [intOf]; omega
        · go_wp2_with fail
          go_ret
          exact ⟨by rw [HAB.out, if_neg (by have := HNE.out; omega), HAR.out, HST.out]; simp, HB5.out.trans ((by assumption : Below W5.heap.size W5 _).mono hsw)⟩
      · obtain rfl : k = l.length := by omega
        have hfin : argsB K.p E i l = false := by
          rw [HAB.out, if_neg (by have := HNE.out; omega), HAR.out, List.drop_length, List.drop_eq_nil_of_le (by have := HNE.out; omega)]; rfl
        have hk3 : decide (l.length < pq.params.length) = false := decide_eq_false (by have := HNE.out; omega)
        have HFN := Lib.hid hfin
        clear hfin
        go_wp2_with fail
        go_ret
        exact ⟨by rw [HFN.out]; rfl, HBR.out⟩
  · have g1 : ((pq.params.length : Int) == (l.length : Int)) = false := by simp; omega
    have g2 : ((pq.params.length : Int) != (l.length : Int)) = true := by simp; omega
    have hfin : argsB K.p E i l = true := by rw [HAB.out, if_pos hne]
    rw [hfin]
    clear hne hfin
    go_enter Tryz.func175, Tryz.ntmps175
    go_wp2_with fail
    go_ret
    exact ⟨rfl, Below.refl _ _⟩
end Go.Proofs.YthcboallnbaimaaGreatDoor
