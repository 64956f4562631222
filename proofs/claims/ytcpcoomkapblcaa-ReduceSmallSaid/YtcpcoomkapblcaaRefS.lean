import Derived.Test.YtcpcoomkapblcaaRefQ
import Derived.Test.YtcpcoomkapblcaaRefB
import Derived.Test.YtcpcoomkapblcaaSortP
import Derived.Deep.RegionHeld3
import Derived.Deep.QuietTactic
import Derived.BigQuiet
import Derived.IntWalk
import Derived.Deep.CutBlock
open Go Go.RowKit Go.Maps
namespace Go.Proofs.Ytcpcoomkapblcaa
open Go.Shelf
/-- step_append_list onto an empty row: nothing is added to 0 in what it leaves. -/
theorem step_append_first {P : Program} {w : World} {ops : Array Oper} {o : Oper} {a : Act} {K : Act → World → Prop} {Q : Exit → Act → World → Prop} {E : Prop} (hgd : o.guard = none) (s x : Operand) (t : TypeId)
    (ho : o.op = .call { callee := .builtin .append, args := #[s, x], argTypes := #[t, t] })
    (base : Nat) (e : TypeId) (i : TypeInfo) (z : Value) (size bytes : Nat) (ht : P.underlying t = some (.slice e)) (hi : P.info? e = some i) (hz : i.zero = some z)
    (hsize : i.size = size) (hby : i.bytes = bytes) (hzs : z.cells.size = size) (hsz : 0 < size)
    (b cp : Nat) (hs : a.eval s = .slice (some ⟨b, 0, none⟩) 0 cp) (hown : w.ownsRow base e size (.slice (some ⟨b, 0, none⟩) 0 cp) 0 [])
    (A : Option Addr) (m c : Nat) (news : List Value) (hx : a.eval x = .slice A m c) (hl : news.length = m * size) (hnews : 0 < m → ∃ ad, A = some ad ∧ ∀ j u, news[j]? = some u → w.cell? (ad.add j) = some u) (h1 : ∀ u ∈ news, u.oneCell' = true)
    (h63 : m ≤ maxLen) (hbytes : m * bytes ≤ 140737488355328) (hbase : base ≤ w.heap.size)
    (h : ∀ g cap w', w'.ownsRow base e size (.slice (some ⟨g, 0, none⟩) m cap) m news → w.grownBy w' (some b) → g < w'.heap.size → K (a.put o.dst (.slice (some ⟨g, 0, none⟩) m cap)) w') :
    if Region.wanted o (yielded ops a.tmps) = true then Oper.wp P o a w K Q else E :=
  step_append_list hgd s x t ho base e i z size bytes ht hi hz hsize hby hzs hsz b 0 cp [] hs hown A m c news hx hl hnews h1 (by omega) (by rw [Nat.zero_add]; exact hbytes) hbase
    (fun g cap w' a1 a2 a3 => by rw [Nat.zero_add] at a1 ⊢; exact h g cap w' a1 a2 a3)
set_option maxRecDepth 1000000 in
set_option maxHeartbeats 4000000 in
theorem refSorted_any (w : World) (B : Nat) (sv : Value) (T : List Inf) (hB : B ≤ w.heap.size) (hs : RdS B w sv T) (hT : T.length ≤ 1000) :
    Calls Try.prog 59 #[sv] w fun e w' => ∃ v, e = .returned v ∧ w'.ownsRow w.heap.size 103 3 v T.length ((sortI T).flatMap Inf.enc) ∧ Below w.heap.size w w' := by
  obtain ⟨A, cap, rfl, hcp, hr⟩ := hs
  obtain ⟨i0, hi, hz0, hz1, hz2⟩ := info_parts rinf_info
  go_enter Try.func59, Try.ntmps59
  go_wp2_with fail
  go_loopw [3, 4] (fun v ix wr => ∃ (k : Nat) (out : List Inf), k ≤ T.length ∧ ix = .int .i64 k ∧ out.Perm (T.take k) ∧ SortedI out ∧ wr.ownsRow w.heap.size 103 3 v k (out.flatMap Inf.enc) ∧ Below w.heap.size w wr) (fun _ ix _ => T.length - (intOf ix).toNat)
  case atStart => exact ⟨0, [], Nat.zero_le _, rfl, by simp, by simp [SortedI], World.ownsRow_nil _ _ _ _, Below.refl _ _⟩
  case round =>
    obtain ⟨k, out, hk, rfl, hperm, hsrt, hown, hbk⟩ := hrel
    have hlen : out.length = k := by rw [hperm.length_eq, List.length_take]; omega
    by_cases hlt : k < T.length
    · obtain ⟨b, off, rfl, hb, hcell⟩ := hr (by omega)
      obtain ⟨q1, q2, q3⟩ := hcell k hlt
      replace q1 := (hbk.cell (p := ⟨b, off + k * 3, none⟩) (by show b < _; omega)).trans q1
      replace q2 := (hbk.cell (p := ⟨b, off + k * 3 + 1, none⟩) (by show b < _; omega)).trans q2
      replace q3 := (hbk.cell (p := ⟨b, off + k * 3 + 2, none⟩) (by show b < _; omega)).trans q3
      have htk : T.take (k + 1) = T.take k ++ [T[k]?.getD ⟨0, 0, 0⟩] := by
        rw [List.take_succ_eq_append_getElem hlt]; simp [hlt]
      generalize T[k]?.getD ⟨0, 0, 0⟩ = x at *
      have hrd := RdS.of_ownE hown
      obtain ⟨A2, c2, rfl⟩ := own_shape hown
      obtain ⟨wo, rfl⟩ : ∃ wo : World, wo = wr := ⟨_, rfl⟩
      have hszk := hbk.size
      have hltd : decide ((k : Int) < (T.length : Int)) = true := by simpa using hlt
      have HTK := Lib.hid htk
      have HLEN := Lib.hid hlen
      have HPERM := Lib.hid hperm
      have HSRT := Lib.hid hsrt
      have HOWN := Lib.hid hown
      clear htk hlen hperm hsrt hown hcell hr
      go_upto_block 2 with (fail)
      go_cut [5] (fun s5 wx => ∃ j : Nat, j ≤ k ∧ s5 = .int .i64 j ∧ (∀ y ∈ out.drop j, bt x y = true) ∧ (∀ m, m < out.length → m + 1 = j → bt x (out[m]?.getD ⟨0, 0, 0⟩) = false) ∧ Below wo.heap.size wo wx)
      case first =>
        go_wp2_with fail
        go_loopw [5] (fun v wr => ∃ j : Nat, j ≤ k ∧ v = .int .i64 j ∧ (∀ y ∈ out.drop j, bt x y = true) ∧ Below wo.heap.size wo wr) (fun v _ => (intOf v).toNat)
        case atStart => exact ⟨k, Nat.le_refl _, rfl, by rw [List.drop_eq_nil_of_le (by have := HLEN.out; omega)]; simp, Below.refl _ _⟩
        case round =>
          obtain ⟨j, hj, rfl, hdr, hbj⟩ := hrel
          by_cases hj0 : 0 < j
          · have hj1 : (0 : Int) < (j : Int) := by omega
            have hjd : decide ((0 : Int) < (j : Int)) = true := by simpa using hj0
            obtain ⟨A3, c3, e3, -, hr2⟩ := hrd
            injection e3 with e4 e5 e6
            subst e4 e6
            obtain ⟨b2, off2, rfl, hb2, hcell2⟩ := hr2 (by have := HLEN.out; omega)
            obtain ⟨p1, p2, p3⟩ := hcell2 (j - 1) (by have := HLEN.out; omega)
            replace p1 := (hbj.cell (p := ⟨b2, off2 + (j - 1) * 3, none⟩) hb2).trans p1
            replace p2 := (hbj.cell (p := ⟨b2, off2 + (j - 1) * 3 + 1, none⟩) hb2).trans p2
            replace p3 := (hbj.cell (p := ⟨b2, off2 + (j - 1) * 3 + 2, none⟩) hb2).trans p3
            have u1 := (hbj.cell (p := ⟨b, off + k * 3, none⟩) (by show b < _; omega)).trans q1
            have u2 := (hbj.cell (p := ⟨b, off + k * 3 + 1, none⟩) (by show b < _; omega)).trans q2
            have u3 := (hbj.cell (p := ⟨b, off + k * 3 + 2, none⟩) (by show b < _; omega)).trans q3
            have hdj : out.drop (j - 1) = out[j - 1]?.getD ⟨0, 0, 0⟩ :: out.drop j := by
              have hl := HLEN.out
              rw [List.drop_eq_getElem_cons (by omega), show j - 1 + 1 = j by omega]; simp [show j - 1 < out.length by omega]
            generalize hy : out[j - 1]?.getD ⟨0, 0, 0⟩ = y at *
            have HY := Lib.hid hy
            have HDJ := Lib.hid hdj
            have n1 : IntKind.i64.wrap ((j : Int) - 1) = (j : Int) - 1 := IntWalk.i64_in _ (by omega)
            have n2 : (0 : Int) ≤ (j : Int) - 1 := by omega
            have n3 : (j : Int) - 1 < (k : Int) := by omega
            have n4 : ((j : Int) - 1).toNat = j - 1 := by omega
            have n5 : (1 : Int) ≤ (j : Int) := by omega
            have n6 : (0 : Int) ≤ (k : Int) := by omega
            have n7 : (k : Int) < (T.length : Int) := by omega
            have hq := refBetter_any x y
            have HQ := Lib.hid hq
            have hbd : Below wr.heap.size wr wr.drew := (Below.refl _ _).drew
            have hbw : b < wr.heap.size := by have := hbj.size; omega
            have hb2w : b2 < wr.heap.size := by have := hbj.size; omega
            have HC : Hid (InfAt wr b (off + k * 3) x ∧ InfAt wr b2 (off2 + (j - 1) * 3) y) := Lib.hid ⟨⟨u1, u2, u3⟩, p1, p2, p3⟩
            have HN4 := Lib.hid n4
            clear hy hdj hq hcell2 hr2 q1 q2 q3 e5
            cases hbt : bt x y with
            | true =>
              rw [hbt] at HQ
              go_wp2_with fail
              go_region_held3 (fun w' => w'.cell? ⟨b, off + k * 3, none⟩ = some (.int .i64 x.id) ∧ w'.cell? ⟨b, off + k * 3 + 1, none⟩ = some (.int .i64 x.lev) ∧ w'.cell? ⟨b, off + k * 3 + 2, none⟩ = some (.int .i64 x.used) ∧ w'.cell? ⟨b2, off2 + (j - 1) * 3, none⟩ = some (.int .i64 y.id) ∧ w'.cell? ⟨b2, off2 + (j - 1) * 3 + 1, none⟩ = some (.int .i64 y.lev) ∧ w'.cell? ⟨b2, off2 + (j - 1) * 3 + 2, none⟩ = some (.int .i64 y.used) ∧ Below wr.heap.size wr w')
                (simp [*])
                (first
                  | (go_at_call 62; refine (HQ.out _).mono ?_; rintro e w9 ⟨rfl, hb9⟩; have hb10 := Below.trans (by assumption : Below wr.heap.size wr _) (hb9.mono (Below.size (by assumption))); have z1 := (hb10.cell (p := ⟨b, off + k * 3, none⟩) hbw).trans u1; have z2 := (hb10.cell (p := ⟨b, off + k * 3 + 1, none⟩) hbw).trans u2; have z3 := (hb10.cell (p := ⟨b, off + k * 3 + 2, none⟩) hbw).trans u3; have z4 := (hb10.cell (p := ⟨b2, off2 + (j - 1) * 3, none⟩) hb2w).trans p1; have z5 := (hb10.cell (p := ⟨b2, off2 + (j - 1) * 3 + 1, none⟩) hb2w).trans p2; have z6 := (hb10.cell (p := ⟨b2, off2 + (j - 1) * 3 + 2, none⟩) hb2w).trans p3)
                  | fail)
              clear n1 n2 n3 n4 n5 n6 n7
              go_wp2_with fail
              exact ⟨⟨j - 1, by omega, by rw [show ((j - 1 : Nat) : Int) = (j : Int) - 1 by omega], by rw [HDJ.out]; intro z hz; rcases List.mem_cons.1 hz with rfl | hz; exact hbt; exact hdr z hz, hbj.trans (hb10.mono hbj.size)⟩, by simp [intOf]; omega⟩
            | false =>
              rw [hbt] at HQ
              go_wp2_with fail
              go_region_held3 (fun w' => w'.cell? ⟨b, off + k * 3, none⟩ = some (.int .i64 x.id) ∧ w'.cell? ⟨b, off + k * 3 + 1, none⟩ = some (.int .i64 x.lev) ∧ w'.cell? ⟨b, off + k * 3 + 2, none⟩ = some (.int .i64 x.used) ∧ w'.cell? ⟨b2, off2 + (j - 1) * 3, none⟩ = some (.int .i64 y.id) ∧ w'.cell? ⟨b2, off2 + (j - 1) * 3 + 1, none⟩ = some (.int .i64 y.lev) ∧ w'.cell? ⟨b2, off2 + (j - 1) * 3 + 2, none⟩ = some (.int .i64 y.used) ∧ Below wr.heap.size wr w')
                (simp [*])
                (first
                  | (go_at_call 62; refine (HQ.out _).mono ?_; rintro e w9 ⟨rfl, hb9⟩; have hb10 := Below.trans (by assumption : Below wr.heap.size wr _) (hb9.mono (Below.size (by assumption))); have z1 := (hb10.cell (p := ⟨b, off + k * 3, none⟩) hbw).trans u1; have z2 := (hb10.cell (p := ⟨b, off + k * 3 + 1, none⟩) hbw).trans u2; have z3 := (hb10.cell (p := ⟨b, off + k * 3 + 2, none⟩) hbw).trans u3; have z4 := (hb10.cell (p := ⟨b2, off2 + (j - 1) * 3, none⟩) hb2w).trans p1; have z5 := (hb10.cell (p := ⟨b2, off2 + (j - 1) * 3 + 1, none⟩) hb2w).trans p2; have z6 := (hb10.cell (p := ⟨b2, off2 + (j - 1) * 3 + 2, none⟩) hb2w).trans p3)
                  | fail)
              clear n1 n2 n3 n4 n5 n6 n7
              go_wp2_with fail
              go_meet
              exact ⟨j, hj, rfl, hdr, fun m hm hmj => by rw [show m = j - 1 by omega, HY.out]; exact hbt, hbj.trans (hb10.mono hbj.size)⟩
          · have hj1 : ¬ (0 : Int) < (j : Int) := by omega
            have hjd : decide ((0 : Int) < (j : Int)) = false := by simp; omega
            go_wp2_with fail
            go_quiet (fail)
            go_wp2_with fail
            go_meet
            exact ⟨j, hj, rfl, hdr, fun m hm hmj => by omega, below_drewN' hbj _⟩
      case rest =>
        obtain ⟨j, hj, rfl, hdr, hlast, hbj⟩ := hcut
        go_wp2_with fail
        have hkl := HLEN.out
        have hjk : (j : Int) ≤ (k : Int) := by omega
        have hj0' : (0 : Int) ≤ (j : Int) := by omega
        have hbw : b < wc.heap.size := by have := hbj.size; omega
        have u1 := (hbj.cell (p := ⟨b, off + k * 3, none⟩) (by show b < _; omega)).trans q1
        have u2 := (hbj.cell (p := ⟨b, off + k * 3 + 1, none⟩) (by show b < _; omega)).trans q2
        have u3 := (hbj.cell (p := ⟨b, off + k * 3 + 2, none⟩) (by show b < _; omega)).trans q3
        have hxn : ∀ W : World, ∀ q u, [Value.int .i64 x.id, .int .i64 x.lev, .int .i64 x.used][q]? = some u → (W.alloc (.cells #[.int .i64 x.id, .int .i64 x.lev, .int .i64 x.used] 103)).cell? ((⟨W.heap.size, 0, none⟩ : Addr).add q) = some u := fun W => cell_three_new W _ _ _ _
        have HXN := Lib.hid hxn
        have hl1 : ((out.take j).flatMap Inf.enc).length = j * 3 := by rw [flat_length (enc := Inf.enc) (k := 3) (fun _ => rfl), List.length_take]; omega
        have hl2 : ((out.drop j).flatMap Inf.enc).length = (k - j) * 3 := by rw [flat_length (enc := Inf.enc) (k := 3) (fun _ => rfl), List.length_drop]; omega
        have HL1 := Lib.hid hl1
        have HL2 := Lib.hid hl2
        have hbd : Below wc.heap.size wc wc.drew := (Below.refl _ _).drew
        have hk1 : (k : Int) < (T.length : Int) := by omega
        have hk0 : (0 : Int) ≤ (k : Int) := by omega
        have hrc := RdS.more (RdS.below hrd hbj) hbj.size
        have tok : True := trivial
        have tok2 : True := trivial
        clear hl1 hl2 hxn q1 q2 q3 hrd
        rcases HOWN.out.2 with ⟨e0, hk00⟩ | ⟨g, cap0, cur, e0, hg1, hg2, hg3, -⟩
        · injection e0 with e1 e2 e3
          subst e1 e3
          obtain rfl : k = 0 := by omega
          obtain rfl : j = 0 := by omega
          have hn1 : ∀ W, Below wc.heap.size wc W → 0 < 0 → ∃ ad, (none : Option Addr) = some ad ∧ ∀ q u, ((out.take 0).flatMap Inf.enc)[q]? = some u → W.cell? (ad.add q) = some u := fun _ _ h => absurd h (by omega)
          have hn2 : ∀ W, Below wc.heap.size wc W → 0 < 0 → ∃ ad, (none : Option Addr) = some ad ∧ ∀ q u, ((out.drop 0).flatMap Inf.enc)[q]? = some u → W.cell? (ad.add q) = some u := fun _ _ h => absurd h (by omega)
          have HN1 := Lib.hid hn1
          have HN2 := Lib.hid hn2
          simp only [Nat.zero_mul, Nat.add_zero] at u1 u2 u3
          clear hn1 hn2 hrc hkl e2
          go_region_held3 (fun w' => w'.cell? ⟨b, off, none⟩ = some (.int .i64 x.id) ∧ w'.cell? ⟨b, off + 1, none⟩ = some (.int .i64 x.lev) ∧ w'.cell? ⟨b, off + 2, none⟩ = some (.int .i64 x.used) ∧ Below wc.heap.size wc w')
            (first | (simp [*]; done) | (refine ⟨?_, ?_, ?_, ?_⟩ <;> first | assumption | (simp [*, World.cell?_alloc_some]; done) | exact (by repeat' (first | assumption | exact Below.refl _ _ | refine Below.drew ?_ | refine Below.alloc ?_ (by first | omega | (simp; done) | (simp; omega)) _))))
            (first
              | (have tk := tok; clear tok; refine step_append_first (by rfl) (.tmp 30) (.tmp 33) 92 (by rfl) wc.heap.size 103 i0 (.agg #[.int .i64 0, .int .i64 0, .int .i64 0]) 3 24 Try.underlying92 hi hz0 hz1 hz2 rfl (by decide) (wc.heap.size) 0 (by rfl) (by first | exact own_e wc (by first | omega | (simp; done) | (simp; omega)) | exact (own_e wc (by first | omega | (simp; done) | (simp; omega))).alloc _) none 0 0 ((out.take 0).flatMap Inf.enc) (by rfl) HL1.out (HN1.out _ (by repeat' (first | assumption | exact Below.refl _ _ | refine Below.drew ?_ | refine Below.alloc ?_ (by first | omega | (simp; done) | (simp; omega)) _))) (enc_one _) (by simp only [maxLen]; omega) (by omega) (by first | omega | (simp; done) | (simp; omega)) ?_; intro g4 cap4 w4 hown4 hgr4 hlt4; have hB4 : Below wc.heap.size wc w4 := Below.grown (by repeat' (first | assumption | exact Below.refl _ _ | refine Below.drew ?_ | refine Below.alloc ?_ (by first | omega | (simp; done) | (simp; omega)) _)) hgr4 (by first | omega | (simp; done) | (simp; omega)) (fun q hq => by injection hq with hq; omega); have a4 := (hB4.cell (p := ⟨b, off, none⟩) hbw).trans u1; have b4 := (hB4.cell (p := ⟨b, off + 1, none⟩) hbw).trans u2; have c4 := (hB4.cell (p := ⟨b, off + 2, none⟩) hbw).trans u3; have hsz4 := hB4.size)
              | (have tk := tok; clear tok; refine step_append_first (by rfl) (.tmp 30) (.tmp 33) 92 (by rfl) wc.heap.size 103 i0 (.agg #[.int .i64 0, .int .i64 0, .int .i64 0]) 3 24 Try.underlying92 hi hz0 hz1 hz2 rfl (by decide) (wc.heap.size + 1) 0 (by rfl) (own_e' wc _ (by first | omega | (simp; done) | (simp; omega))) none 0 0 ((out.take 0).flatMap Inf.enc) (by rfl) HL1.out (HN1.out _ (by repeat' (first | assumption | exact Below.refl _ _ | refine Below.drew ?_ | refine Below.alloc ?_ (by first | omega | (simp; done) | (simp; omega)) _))) (enc_one _) (by simp only [maxLen]; omega) (by omega) (by first | omega | (simp; done) | (simp; omega)) ?_; intro g4 cap4 w4 hown4 hgr4 hlt4; have hB4 : Below wc.heap.size wc w4 := Below.grown (by repeat' (first | assumption | exact Below.refl _ _ | refine Below.drew ?_ | refine Below.alloc ?_ (by first | omega | (simp; done) | (simp; omega)) _)) hgr4 (by first | omega | (simp; done) | (simp; omega)) (fun q hq => by injection hq with hq; omega); have a4 := (hB4.cell (p := ⟨b, off, none⟩) hbw).trans u1; have b4 := (hB4.cell (p := ⟨b, off + 1, none⟩) hbw).trans u2; have c4 := (hB4.cell (p := ⟨b, off + 2, none⟩) hbw).trans u3; have hsz4 := hB4.size)
              | (have tk := tok2; clear tok2; refine step_append_list (by rfl) (.tmp 34) (.tmp 39) 92 (by rfl) wc.heap.size 103 i0 (.agg #[.int .i64 0, .int .i64 0, .int .i64 0]) 3 24 Try.underlying92 hi hz0 hz1 hz2 rfl (by decide) g4 0 cap4 ((out.take 0).flatMap Inf.enc) (by rfl) (hown4.alloc _) (some ⟨w4.heap.size, 0, none⟩) 1 1 [.int .i64 x.id, .int .i64 x.lev, .int .i64 x.used] (by rfl) rfl (fun _ => ⟨_, rfl, HXN.out w4⟩) (by simp [Value.oneCell']) (by simp only [maxLen]; omega) (by omega) (by first | omega | (simp; done) | (simp; omega)) ?_; intro g5 cap5 w5 hown5 hgr5 hlt5; have hB5 : Below wc.heap.size wc w5 := Below.grown (by repeat' (first | assumption | exact Below.refl _ _ | refine Below.drew ?_ | refine Below.alloc ?_ (by first | omega | (simp; done) | (simp; omega)) _)) hgr5 (by first | omega | (simp; done) | (simp; omega)) (fun q hq => by injection hq with hq; have := own_lt hown4 g4 rfl; omega); have a5 := (hB5.cell (p := ⟨b, off, none⟩) hbw).trans u1; have b5 := (hB5.cell (p := ⟨b, off + 1, none⟩) hbw).trans u2; have c5 := (hB5.cell (p := ⟨b, off + 2, none⟩) hbw).trans u3; have hsz5 := hB5.size)
              | (have tk := tok2; clear tok2; refine step_append_list (by rfl) (.tmp 34) (.tmp 39) 92 (by rfl) wc.heap.size 103 i0 (.agg #[.int .i64 0, .int .i64 0, .int .i64 0]) 3 24 Try.underlying92 hi hz0 hz1 hz2 rfl (by decide) g4 0 cap4 ((out.take 0).flatMap Inf.enc) (by rfl) (hown4) (some ⟨wc.heap.size, 0, none⟩) 1 1 [.int .i64 x.id, .int .i64 x.lev, .int .i64 x.used] (by rfl) rfl (fun _ => ⟨_, rfl, (by first | exact news_far hgr4 (heap_two wc _ _).1 (fun e => by injection e with e; omega) | exact news_far hgr4 (heap_two wc.drew _ _).1 (fun e => by injection e with e; omega))⟩) (by simp [Value.oneCell']) (by simp only [maxLen]; omega) (by omega) (by first | omega | (simp; done) | (simp; omega)) ?_; intro g5 cap5 w5 hown5 hgr5 hlt5; have hB5 : Below wc.heap.size wc w5 := Below.grown (by repeat' (first | assumption | exact Below.refl _ _ | refine Below.drew ?_ | refine Below.alloc ?_ (by first | omega | (simp; done) | (simp; omega)) _)) hgr5 (by first | omega | (simp; done) | (simp; omega)) (fun q hq => by injection hq with hq; have := own_lt hown4 g4 rfl; omega); have a5 := (hB5.cell (p := ⟨b, off, none⟩) hbw).trans u1; have b5 := (hB5.cell (p := ⟨b, off + 1, none⟩) hbw).trans u2; have c5 := (hB5.cell (p := ⟨b, off + 2, none⟩) hbw).trans u3; have hsz5 := hB5.size)
              | (have tk := tok2; clear tok2; refine step_append_list (by rfl) (.tmp 34) (.tmp 39) 92 (by rfl) wc.heap.size 103 i0 (.agg #[.int .i64 0, .int .i64 0, .int .i64 0]) 3 24 Try.underlying92 hi hz0 hz1 hz2 rfl (by decide) g4 0 cap4 ((out.take 0).flatMap Inf.enc) (by rfl) (hown4) (some ⟨wc.heap.size + 1, 0, none⟩) 1 1 [.int .i64 x.id, .int .i64 x.lev, .int .i64 x.used] (by rfl) rfl (fun _ => ⟨_, rfl, (by first | exact news_far hgr4 (heap_two wc _ _).2 (fun e => by injection e with e; omega) | exact news_far hgr4 (heap_two wc.drew _ _).2 (fun e => by injection e with e; omega))⟩) (by simp [Value.oneCell']) (by simp only [maxLen]; omega) (by omega) (by first | omega | (simp; done) | (simp; omega)) ?_; intro g5 cap5 w5 hown5 hgr5 hlt5; have hB5 : Below wc.heap.size wc w5 := Below.grown (by repeat' (first | assumption | exact Below.refl _ _ | refine Below.drew ?_ | refine Below.alloc ?_ (by first | omega | (simp; done) | (simp; omega)) _)) hgr5 (by first | omega | (simp; done) | (simp; omega)) (fun q hq => by injection hq with hq; have := own_lt hown4 g4 rfl; omega); have a5 := (hB5.cell (p := ⟨b, off, none⟩) hbw).trans u1; have b5 := (hB5.cell (p := ⟨b, off + 1, none⟩) hbw).trans u2; have c5 := (hB5.cell (p := ⟨b, off + 2, none⟩) hbw).trans u3; have hsz5 := hB5.size)
              | (refine step_append_list (by rfl) (.tmp 40) (.tmp 43) 92 (by rfl) wc.heap.size 103 i0 (.agg #[.int .i64 0, .int .i64 0, .int .i64 0]) 3 24 Try.underlying92 hi hz0 hz1 hz2 rfl (by decide) g5 (0 + 1) cap5 ((out.take 0).flatMap Inf.enc ++ [.int .i64 x.id, .int .i64 x.lev, .int .i64 x.used]) (by rfl) hown5 none 0 0 ((out.drop 0).flatMap Inf.enc) (by rfl) HL2.out (HN2.out _ (by repeat' (first | assumption | exact Below.refl _ _ | refine Below.drew ?_ | refine Below.alloc ?_ (by first | omega | (simp; done) | (simp; omega)) _))) (enc_one _) (by simp only [maxLen]; omega) (by omega) (by first | omega | (simp; done) | (simp; omega)) ?_; intro g6 cap6 w6 hown6 hgr6 hlt6; have hB6 : Below wc.heap.size wc w6 := Below.grown (by repeat' (first | assumption | exact Below.refl _ _ | refine Below.drew ?_ | refine Below.alloc ?_ (by first | omega | (simp; done) | (simp; omega)) _)) hgr6 (by first | omega | (simp; done) | (simp; omega)) (fun q hq => by injection hq with hq; have := own_lt hown5 g5 rfl; omega); have a6 := (hB6.cell (p := ⟨b, off, none⟩) hbw).trans u1; have b6 := (hB6.cell (p := ⟨b, off + 1, none⟩) hbw).trans u2; have c6 := (hB6.cell (p := ⟨b, off + 2, none⟩) hbw).trans u3; have hsz6 := hB6.size)
              | fail)
          all_goals
            have HOWN6 := Lib.hid hown6
            have HB6 := Lib.hid hB6
            have HSZ6 := Lib.hid hsz6
            clear hown6 hB6 hsz6 hgr6 a6 b6 c6 a5 b5 c5 a4 b4 c4 hB4 hB5 hsz4 hsz5 hgr4 hgr5 hown4 hown5
            go_wp2_with fail
            refine ⟨⟨1, out.take 0 ++ [x] ++ out.drop 0, by omega, by go_num, ?_, ?_, ?_, ?_⟩, by simp [intOf]; omega⟩
            · rw [HTK.out]; exact (ins_perm x out 0).trans (HPERM.out.append_right _)
            · exact ins_sorted (by have := HLEN.out; omega) HSRT.out hdr hlast
            · have h6 := own_weaken (base' := w.heap.size) (Nat.le_trans hszk hbj.size) HOWN6.out
              have e6 : (out.take 0 ++ [x] ++ out.drop 0).flatMap Inf.enc = (out.take 0).flatMap Inf.enc ++ [.int .i64 x.id, .int .i64 x.lev, .int .i64 x.used] ++ (out.drop 0).flatMap Inf.enc := by simp [Inf.enc]
              have n6 : 0 + 1 + 0 = 1 := by omega
              rw [e6]
              first | exact h6 | (simpa using h6)
            · exact hbk.trans (hbj.trans (HB6.out.mono hbj.size) |>.mono hszk)
        · injection e0 with e1 e2 e3
          subst e1 e3
          clear e2
          have hcut1 : ∀ q u, ((out.take j).flatMap Inf.enc)[q]? = some u → (out.flatMap Inf.enc)[q]? = some u := fun q u hq => by
            conv => lhs; rw [← List.take_append_drop j out, List.flatMap_append]
            rw [List.getElem?_append_left (List.getElem?_eq_some_iff.1 hq).1]; exact hq
          have hcut2 : ∀ q u, ((out.drop j).flatMap Inf.enc)[q]? = some u → (out.flatMap Inf.enc)[j * 3 + q]? = some u := fun q u hq => by
            conv => lhs; rw [← List.take_append_drop j out, List.flatMap_append]
            rw [List.getElem?_append_right (by rw [HL1.out]; omega), HL1.out, Nat.add_sub_cancel_left]; exact hq
          have hrc' : RdS wc.heap.size wc (.slice (some ⟨g, 0, none⟩) out.length c2) out := by rw [hkl]; exact hrc
          have hn1 : ∀ W, Below wc.heap.size wc W → 0 < j → ∃ ad, some (⟨g, 0, none⟩ : Addr) = some ad ∧ ∀ q u, ((out.take j).flatMap Inf.enc)[q]? = some u → W.cell? (ad.add q) = some u :=
            fun W hW _ => ⟨_, rfl, fun q u hq => (hrc'.below hW).news q u (hcut1 q u hq)⟩
          by_cases hcj : c2 = j
          · obtain rfl : j = k := by omega
            subst hcj
            have hn2 : ∀ W, Below wc.heap.size wc W → 0 < 0 → ∃ ad, some (⟨g, 0, none⟩ : Addr) = some ad ∧ ∀ q u, ((out.drop c2).flatMap Inf.enc)[q]? = some u → W.cell? (ad.add q) = some u := fun _ _ h => absurd h (by omega)
            have HN1 := Lib.hid hn1
            have HN2 := Lib.hid hn2
            have hl20 : ((out.drop c2).flatMap Inf.enc).length = 0 * 3 := by have := HL2.out; omega
            have HL2 := Lib.hid hl20
            clear hn1 hn2 hrc hkl hcut1 hcut2 hrc' hl20
            go_region_held3 (fun w' => w'.cell? ⟨b, off + c2 * 3, none⟩ = some (.int .i64 x.id) ∧ w'.cell? ⟨b, off + c2 * 3 + 1, none⟩ = some (.int .i64 x.lev) ∧ w'.cell? ⟨b, off + c2 * 3 + 2, none⟩ = some (.int .i64 x.used) ∧ Below wc.heap.size wc w')
              (first | (simp [*]; done) | (refine ⟨?_, ?_, ?_, ?_⟩ <;> first | assumption | (simp [*, World.cell?_alloc_some]; done) | exact (by repeat' (first | assumption | exact Below.refl _ _ | refine Below.drew ?_ | refine Below.alloc ?_ (by first | omega | (simp; done) | (simp; omega)) _))))
              (first
                | (have tk := tok; clear tok; refine step_append_first (by rfl) (.tmp 30) (.tmp 33) 92 (by rfl) wc.heap.size 103 i0 (.agg #[.int .i64 0, .int .i64 0, .int .i64 0]) 3 24 Try.underlying92 hi hz0 hz1 hz2 rfl (by decide) (wc.heap.size) 0 (by rfl) (by first | exact own_e wc (by first | omega | (simp; done) | (simp; omega)) | exact (own_e wc (by first | omega | (simp; done) | (simp; omega))).alloc _) (some ⟨g, 0, none⟩) c2 c2 ((out.take c2).flatMap Inf.enc) (by rfl) HL1.out (HN1.out _ (by repeat' (first | assumption | exact Below.refl _ _ | refine Below.drew ?_ | refine Below.alloc ?_ (by first | omega | (simp; done) | (simp; omega)) _))) (enc_one _) (by simp only [maxLen]; omega) (by omega) (by first | omega | (simp; done) | (simp; omega)) ?_; intro g4 cap4 w4 hown4 hgr4 hlt4; have hB4 : Below wc.heap.size wc w4 := Below.grown (by repeat' (first | assumption | exact Below.refl _ _ | refine Below.drew ?_ | refine Below.alloc ?_ (by first | omega | (simp; done) | (simp; omega)) _)) hgr4 (by first | omega | (simp; done) | (simp; omega)) (fun q hq => by injection hq with hq; omega); have a4 := (hB4.cell (p := ⟨b, off + c2 * 3, none⟩) hbw).trans u1; have b4 := (hB4.cell (p := ⟨b, off + c2 * 3 + 1, none⟩) hbw).trans u2; have c4 := (hB4.cell (p := ⟨b, off + c2 * 3 + 2, none⟩) hbw).trans u3; have hsz4 := hB4.size)
                | (have tk := tok; clear tok; refine step_append_first (by rfl) (.tmp 30) (.tmp 33) 92 (by rfl) wc.heap.size 103 i0 (.agg #[.int .i64 0, .int .i64 0, .int .i64 0]) 3 24 Try.underlying92 hi hz0 hz1 hz2 rfl (by decide) (wc.heap.size + 1) 0 (by rfl) (own_e' wc _ (by first | omega | (simp; done) | (simp; omega))) (some ⟨g, 0, none⟩) c2 c2 ((out.take c2).flatMap Inf.enc) (by rfl) HL1.out (HN1.out _ (by repeat' (first | assumption | exact Below.refl _ _ | refine Below.drew ?_ | refine Below.alloc ?_ (by first | omega | (simp; done) | (simp; omega)) _))) (enc_one _) (by simp only [maxLen]; omega) (by omega) (by first | omega | (simp; done) | (simp; omega)) ?_; intro g4 cap4 w4 hown4 hgr4 hlt4; have hB4 : Below wc.heap.size wc w4 := Below.grown (by repeat' (first | assumption | exact Below.refl _ _ | refine Below.drew ?_ | refine Below.alloc ?_ (by first | omega | (simp; done) | (simp; omega)) _)) hgr4 (by first | omega | (simp; done) | (simp; omega)) (fun q hq => by injection hq with hq; omega); have a4 := (hB4.cell (p := ⟨b, off + c2 * 3, none⟩) hbw).trans u1; have b4 := (hB4.cell (p := ⟨b, off + c2 * 3 + 1, none⟩) hbw).trans u2; have c4 := (hB4.cell (p := ⟨b, off + c2 * 3 + 2, none⟩) hbw).trans u3; have hsz4 := hB4.size)
                | (have tk := tok2; clear tok2; refine step_append_list (by rfl) (.tmp 34) (.tmp 39) 92 (by rfl) wc.heap.size 103 i0 (.agg #[.int .i64 0, .int .i64 0, .int .i64 0]) 3 24 Try.underlying92 hi hz0 hz1 hz2 rfl (by decide) g4 c2 cap4 ((out.take c2).flatMap Inf.enc) (by rfl) (hown4.alloc _) (some ⟨w4.heap.size, 0, none⟩) 1 1 [.int .i64 x.id, .int .i64 x.lev, .int .i64 x.used] (by rfl) rfl (fun _ => ⟨_, rfl, HXN.out w4⟩) (by simp [Value.oneCell']) (by simp only [maxLen]; omega) (by omega) (by first | omega | (simp; done) | (simp; omega)) ?_; intro g5 cap5 w5 hown5 hgr5 hlt5; have hB5 : Below wc.heap.size wc w5 := Below.grown (by repeat' (first | assumption | exact Below.refl _ _ | refine Below.drew ?_ | refine Below.alloc ?_ (by first | omega | (simp; done) | (simp; omega)) _)) hgr5 (by first | omega | (simp; done) | (simp; omega)) (fun q hq => by injection hq with hq; have := own_lt hown4 g4 rfl; omega); have a5 := (hB5.cell (p := ⟨b, off + c2 * 3, none⟩) hbw).trans u1; have b5 := (hB5.cell (p := ⟨b, off + c2 * 3 + 1, none⟩) hbw).trans u2; have c5 := (hB5.cell (p := ⟨b, off + c2 * 3 + 2, none⟩) hbw).trans u3; have hsz5 := hB5.size)
                | (have tk := tok2; clear tok2; refine step_append_list (by rfl) (.tmp 34) (.tmp 39) 92 (by rfl) wc.heap.size 103 i0 (.agg #[.int .i64 0, .int .i64 0, .int .i64 0]) 3 24 Try.underlying92 hi hz0 hz1 hz2 rfl (by decide) g4 c2 cap4 ((out.take c2).flatMap Inf.enc) (by rfl) (hown4) (some ⟨wc.heap.size, 0, none⟩) 1 1 [.int .i64 x.id, .int .i64 x.lev, .int .i64 x.used] (by rfl) rfl (fun _ => ⟨_, rfl, (by first | exact news_far hgr4 (heap_two wc _ _).1 (fun e => by injection e with e; omega) | exact news_far hgr4 (heap_two wc.drew _ _).1 (fun e => by injection e with e; omega))⟩) (by simp [Value.oneCell']) (by simp only [maxLen]; omega) (by omega) (by first | omega | (simp; done) | (simp; omega)) ?_; intro g5 cap5 w5 hown5 hgr5 hlt5; have hB5 : Below wc.heap.size wc w5 := Below.grown (by repeat' (first | assumption | exact Below.refl _ _ | refine Below.drew ?_ | refine Below.alloc ?_ (by first | omega | (simp; done) | (simp; omega)) _)) hgr5 (by first | omega | (simp; done) | (simp; omega)) (fun q hq => by injection hq with hq; have := own_lt hown4 g4 rfl; omega); have a5 := (hB5.cell (p := ⟨b, off + c2 * 3, none⟩) hbw).trans u1; have b5 := (hB5.cell (p := ⟨b, off + c2 * 3 + 1, none⟩) hbw).trans u2; have c5 := (hB5.cell (p := ⟨b, off + c2 * 3 + 2, none⟩) hbw).trans u3; have hsz5 := hB5.size)
                | (have tk := tok2; clear tok2; refine step_append_list (by rfl) (.tmp 34) (.tmp 39) 92 (by rfl) wc.heap.size 103 i0 (.agg #[.int .i64 0, .int .i64 0, .int .i64 0]) 3 24 Try.underlying92 hi hz0 hz1 hz2 rfl (by decide) g4 c2 cap4 ((out.take c2).flatMap Inf.enc) (by rfl) (hown4) (some ⟨wc.heap.size + 1, 0, none⟩) 1 1 [.int .i64 x.id, .int .i64 x.lev, .int .i64 x.used] (by rfl) rfl (fun _ => ⟨_, rfl, (by first | exact news_far hgr4 (heap_two wc _ _).2 (fun e => by injection e with e; omega) | exact news_far hgr4 (heap_two wc.drew _ _).2 (fun e => by injection e with e; omega))⟩) (by simp [Value.oneCell']) (by simp only [maxLen]; omega) (by omega) (by first | omega | (simp; done) | (simp; omega)) ?_; intro g5 cap5 w5 hown5 hgr5 hlt5; have hB5 : Below wc.heap.size wc w5 := Below.grown (by repeat' (first | assumption | exact Below.refl _ _ | refine Below.drew ?_ | refine Below.alloc ?_ (by first | omega | (simp; done) | (simp; omega)) _)) hgr5 (by first | omega | (simp; done) | (simp; omega)) (fun q hq => by injection hq with hq; have := own_lt hown4 g4 rfl; omega); have a5 := (hB5.cell (p := ⟨b, off + c2 * 3, none⟩) hbw).trans u1; have b5 := (hB5.cell (p := ⟨b, off + c2 * 3 + 1, none⟩) hbw).trans u2; have c5 := (hB5.cell (p := ⟨b, off + c2 * 3 + 2, none⟩) hbw).trans u3; have hsz5 := hB5.size)
                | (refine step_append_list (by rfl) (.tmp 40) (.tmp 43) 92 (by rfl) wc.heap.size 103 i0 (.agg #[.int .i64 0, .int .i64 0, .int .i64 0]) 3 24 Try.underlying92 hi hz0 hz1 hz2 rfl (by decide) g5 (c2 + 1) cap5 ((out.take c2).flatMap Inf.enc ++ [.int .i64 x.id, .int .i64 x.lev, .int .i64 x.used]) (by rfl) hown5 (some ⟨g, 0, none⟩) 0 0 ((out.drop c2).flatMap Inf.enc) (by rfl) HL2.out (HN2.out _ (by repeat' (first | assumption | exact Below.refl _ _ | refine Below.drew ?_ | refine Below.alloc ?_ (by first | omega | (simp; done) | (simp; omega)) _))) (enc_one _) (by simp only [maxLen]; omega) (by omega) (by first | omega | (simp; done) | (simp; omega)) ?_; intro g6 cap6 w6 hown6 hgr6 hlt6; have hB6 : Below wc.heap.size wc w6 := Below.grown (by repeat' (first | assumption | exact Below.refl _ _ | refine Below.drew ?_ | refine Below.alloc ?_ (by first | omega | (simp; done) | (simp; omega)) _)) hgr6 (by first | omega | (simp; done) | (simp; omega)) (fun q hq => by injection hq with hq; have := own_lt hown5 g5 rfl; omega); have a6 := (hB6.cell (p := ⟨b, off + c2 * 3, none⟩) hbw).trans u1; have b6 := (hB6.cell (p := ⟨b, off + c2 * 3 + 1, none⟩) hbw).trans u2; have c6 := (hB6.cell (p := ⟨b, off + c2 * 3 + 2, none⟩) hbw).trans u3; have hsz6 := hB6.size)
                | fail)
            all_goals
              have HOWN6 := Lib.hid hown6
              have HB6 := Lib.hid hB6
              have HSZ6 := Lib.hid hsz6
              clear hown6 hB6 hsz6 hgr6 a6 b6 c6 a5 b5 c5 a4 b4 c4 hB4 hB5 hsz4 hsz5 hgr4 hgr5 hown4 hown5
              go_wp2_with fail
              refine ⟨⟨c2 + 1, out.take c2 ++ [x] ++ out.drop c2, by omega, by go_num, ?_, ?_, ?_, ?_⟩, by simp [intOf]; omega⟩
              · rw [HTK.out]; exact (ins_perm x out c2).trans (HPERM.out.append_right _)
              · exact ins_sorted (by have := HLEN.out; omega) HSRT.out hdr hlast
              · have h6 := own_weaken (base' := w.heap.size) (Nat.le_trans hszk hbj.size) HOWN6.out
                have e6 : (out.take c2 ++ [x] ++ out.drop c2).flatMap Inf.enc = (out.take c2).flatMap Inf.enc ++ [.int .i64 x.id, .int .i64 x.lev, .int .i64 x.used] ++ (out.drop c2).flatMap Inf.enc := by simp [Inf.enc]
                have n6 : c2 + 1 + 0 = c2 + 1 := by omega
                rw [e6]
                first | exact h6 | (simpa using h6)
              · exact hbk.trans (hbj.trans (HB6.out.mono hbj.size) |>.mono hszk)
          · have hn2 : ∀ W, Below wc.heap.size wc W → 0 < k - j → ∃ ad, some (⟨g, j * 3, none⟩ : Addr) = some ad ∧ ∀ q u, ((out.drop j).flatMap Inf.enc)[q]? = some u → W.cell? (ad.add q) = some u :=
              fun W hW _ => ⟨_, rfl, fun q u hq => by
                have h1 := (hrc'.below hW).news (j * 3 + q) u (hcut2 q u hq)
                have e1 : ((⟨g, 0, none⟩ : Addr).add (j * 3 + q)) = ⟨g, j * 3 + q, none⟩ := by unfold Addr.add; split <;> simp_all
                have e2 : ((⟨g, j * 3, none⟩ : Addr).add q) = ⟨g, j * 3 + q, none⟩ := by unfold Addr.add; split <;> simp_all
                rw [e1] at h1; rw [e2]; exact h1⟩
            have HN1 := Lib.hid hn1
            have HN2 := Lib.hid hn2
            have hjc : (j : Int) ≤ (c2 : Int) := by omega
            have hkc : (k : Int) ≤ (c2 : Int) := by omega
            have hne' : ¬ j = c2 := by omega
            clear hn1 hn2 hrc hkl hcut1 hcut2 hrc'
            go_region_held3 (fun w' => w'.cell? ⟨b, off + k * 3, none⟩ = some (.int .i64 x.id) ∧ w'.cell? ⟨b, off + k * 3 + 1, none⟩ = some (.int .i64 x.lev) ∧ w'.cell? ⟨b, off + k * 3 + 2, none⟩ = some (.int .i64 x.used) ∧ Below wc.heap.size wc w')
              (first | (simp [*]; done) | (refine ⟨?_, ?_, ?_, ?_⟩ <;> first | assumption | (simp [*, World.cell?_alloc_some]; done) | exact (by repeat' (first | assumption | exact Below.refl _ _ | refine Below.drew ?_ | refine Below.alloc ?_ (by first | omega | (simp; done) | (simp; omega)) _))))
              (first
                | (have tk := tok; clear tok; refine step_append_first (by rfl) (.tmp 30) (.tmp 33) 92 (by rfl) wc.heap.size 103 i0 (.agg #[.int .i64 0, .int .i64 0, .int .i64 0]) 3 24 Try.underlying92 hi hz0 hz1 hz2 rfl (by decide) (wc.heap.size) 0 (by rfl) (by first | exact own_e wc (by first | omega | (simp; done) | (simp; omega)) | exact (own_e wc (by first | omega | (simp; done) | (simp; omega))).alloc _) (some ⟨g, 0, none⟩) j c2 ((out.take j).flatMap Inf.enc) (by rfl) HL1.out (HN1.out _ (by repeat' (first | assumption | exact Below.refl _ _ | refine Below.drew ?_ | refine Below.alloc ?_ (by first | omega | (simp; done) | (simp; omega)) _))) (enc_one _) (by simp only [maxLen]; omega) (by omega) (by first | omega | (simp; done) | (simp; omega)) ?_; intro g4 cap4 w4 hown4 hgr4 hlt4; have hB4 : Below wc.heap.size wc w4 := Below.grown (by repeat' (first | assumption | exact Below.refl _ _ | refine Below.drew ?_ | refine Below.alloc ?_ (by first | omega | (simp; done) | (simp; omega)) _)) hgr4 (by first | omega | (simp; done) | (simp; omega)) (fun q hq => by injection hq with hq; omega); have a4 := (hB4.cell (p := ⟨b, off + k * 3, none⟩) hbw).trans u1; have b4 := (hB4.cell (p := ⟨b, off + k * 3 + 1, none⟩) hbw).trans u2; have c4 := (hB4.cell (p := ⟨b, off + k * 3 + 2, none⟩) hbw).trans u3; have hsz4 := hB4.size)
                | (have tk := tok; clear tok; refine step_append_first (by rfl) (.tmp 30) (.tmp 33) 92 (by rfl) wc.heap.size 103 i0 (.agg #[.int .i64 0, .int .i64 0, .int .i64 0]) 3 24 Try.underlying92 hi hz0 hz1 hz2 rfl (by decide) (wc.heap.size + 1) 0 (by rfl) (own_e' wc _ (by first | omega | (simp; done) | (simp; omega))) (some ⟨g, 0, none⟩) j c2 ((out.take j).flatMap Inf.enc) (by rfl) HL1.out (HN1.out _ (by repeat' (first | assumption | exact Below.refl _ _ | refine Below.drew ?_ | refine Below.alloc ?_ (by first | omega | (simp; done) | (simp; omega)) _))) (enc_one _) (by simp only [maxLen]; omega) (by omega) (by first | omega | (simp; done) | (simp; omega)) ?_; intro g4 cap4 w4 hown4 hgr4 hlt4; have hB4 : Below wc.heap.size wc w4 := Below.grown (by repeat' (first | assumption | exact Below.refl _ _ | refine Below.drew ?_ | refine Below.alloc ?_ (by first | omega | (simp; done) | (simp; omega)) _)) hgr4 (by first | omega | (simp; done) | (simp; omega)) (fun q hq => by injection hq with hq; omega); have a4 := (hB4.cell (p := ⟨b, off + k * 3, none⟩) hbw).trans u1; have b4 := (hB4.cell (p := ⟨b, off + k * 3 + 1, none⟩) hbw).trans u2; have c4 := (hB4.cell (p := ⟨b, off + k * 3 + 2, none⟩) hbw).trans u3; have hsz4 := hB4.size)
                | (have tk := tok2; clear tok2; refine step_append_list (by rfl) (.tmp 34) (.tmp 39) 92 (by rfl) wc.heap.size 103 i0 (.agg #[.int .i64 0, .int .i64 0, .int .i64 0]) 3 24 Try.underlying92 hi hz0 hz1 hz2 rfl (by decide) g4 j cap4 ((out.take j).flatMap Inf.enc) (by rfl) (hown4.alloc _) (some ⟨w4.heap.size, 0, none⟩) 1 1 [.int .i64 x.id, .int .i64 x.lev, .int .i64 x.used] (by rfl) rfl (fun _ => ⟨_, rfl, HXN.out w4⟩) (by simp [Value.oneCell']) (by simp only [maxLen]; omega) (by omega) (by first | omega | (simp; done) | (simp; omega)) ?_; intro g5 cap5 w5 hown5 hgr5 hlt5; have hB5 : Below wc.heap.size wc w5 := Below.grown (by repeat' (first | assumption | exact Below.refl _ _ | refine Below.drew ?_ | refine Below.alloc ?_ (by first | omega | (simp; done) | (simp; omega)) _)) hgr5 (by first | omega | (simp; done) | (simp; omega)) (fun q hq => by injection hq with hq; have := own_lt hown4 g4 rfl; omega); have a5 := (hB5.cell (p := ⟨b, off + k * 3, none⟩) hbw).trans u1; have b5 := (hB5.cell (p := ⟨b, off + k * 3 + 1, none⟩) hbw).trans u2; have c5 := (hB5.cell (p := ⟨b, off + k * 3 + 2, none⟩) hbw).trans u3; have hsz5 := hB5.size)
                | (have tk := tok2; clear tok2; refine step_append_list (by rfl) (.tmp 34) (.tmp 39) 92 (by rfl) wc.heap.size 103 i0 (.agg #[.int .i64 0, .int .i64 0, .int .i64 0]) 3 24 Try.underlying92 hi hz0 hz1 hz2 rfl (by decide) g4 j cap4 ((out.take j).flatMap Inf.enc) (by rfl) (hown4) (some ⟨wc.heap.size, 0, none⟩) 1 1 [.int .i64 x.id, .int .i64 x.lev, .int .i64 x.used] (by rfl) rfl (fun _ => ⟨_, rfl, (by first | exact news_far hgr4 (heap_two wc _ _).1 (fun e => by injection e with e; omega) | exact news_far hgr4 (heap_two wc.drew _ _).1 (fun e => by injection e with e; omega))⟩) (by simp [Value.oneCell']) (by simp only [maxLen]; omega) (by omega) (by first | omega | (simp; done) | (simp; omega)) ?_; intro g5 cap5 w5 hown5 hgr5 hlt5; have hB5 : Below wc.heap.size wc w5 := Below.grown (by repeat' (first | assumption | exact Below.refl _ _ | refine Below.drew ?_ | refine Below.alloc ?_ (by first | omega | (simp; done) | (simp; omega)) _)) hgr5 (by first | omega | (simp; done) | (simp; omega)) (fun q hq => by injection hq with hq; have := own_lt hown4 g4 rfl; omega); have a5 := (hB5.cell (p := ⟨b, off + k * 3, none⟩) hbw).trans u1; have b5 := (hB5.cell (p := ⟨b, off + k * 3 + 1, none⟩) hbw).trans u2; have c5 := (hB5.cell (p := ⟨b, off + k * 3 + 2, none⟩) hbw).trans u3; have hsz5 := hB5.size)
                | (have tk := tok2; clear tok2; refine step_append_list (by rfl) (.tmp 34) (.tmp 39) 92 (by rfl) wc.heap.size 103 i0 (.agg #[.int .i64 0, .int .i64 0, .int .i64 0]) 3 24 Try.underlying92 hi hz0 hz1 hz2 rfl (by decide) g4 j cap4 ((out.take j).flatMap Inf.enc) (by rfl) (hown4) (some ⟨wc.heap.size + 1, 0, none⟩) 1 1 [.int .i64 x.id, .int .i64 x.lev, .int .i64 x.used] (by rfl) rfl (fun _ => ⟨_, rfl, (by first | exact news_far hgr4 (heap_two wc _ _).2 (fun e => by injection e with e; omega) | exact news_far hgr4 (heap_two wc.drew _ _).2 (fun e => by injection e with e; omega))⟩) (by simp [Value.oneCell']) (by simp only [maxLen]; omega) (by omega) (by first | omega | (simp; done) | (simp; omega)) ?_; intro g5 cap5 w5 hown5 hgr5 hlt5; have hB5 : Below wc.heap.size wc w5 := Below.grown (by repeat' (first | assumption | exact Below.refl _ _ | refine Below.drew ?_ | refine Below.alloc ?_ (by first | omega | (simp; done) | (simp; omega)) _)) hgr5 (by first | omega | (simp; done) | (simp; omega)) (fun q hq => by injection hq with hq; have := own_lt hown4 g4 rfl; omega); have a5 := (hB5.cell (p := ⟨b, off + k * 3, none⟩) hbw).trans u1; have b5 := (hB5.cell (p := ⟨b, off + k * 3 + 1, none⟩) hbw).trans u2; have c5 := (hB5.cell (p := ⟨b, off + k * 3 + 2, none⟩) hbw).trans u3; have hsz5 := hB5.size)
                | (refine step_append_list (by rfl) (.tmp 40) (.tmp 43) 92 (by rfl) wc.heap.size 103 i0 (.agg #[.int .i64 0, .int .i64 0, .int .i64 0]) 3 24 Try.underlying92 hi hz0 hz1 hz2 rfl (by decide) g5 (j + 1) cap5 ((out.take j).flatMap Inf.enc ++ [.int .i64 x.id, .int .i64 x.lev, .int .i64 x.used]) (by rfl) hown5 (some ⟨g, j * 3, none⟩) (k - j) (c2 - j) ((out.drop j).flatMap Inf.enc) (by rfl) HL2.out (HN2.out _ (by repeat' (first | assumption | exact Below.refl _ _ | refine Below.drew ?_ | refine Below.alloc ?_ (by first | omega | (simp; done) | (simp; omega)) _))) (enc_one _) (by simp only [maxLen]; omega) (by omega) (by first | omega | (simp; done) | (simp; omega)) ?_; intro g6 cap6 w6 hown6 hgr6 hlt6; have hB6 : Below wc.heap.size wc w6 := Below.grown (by repeat' (first | assumption | exact Below.refl _ _ | refine Below.drew ?_ | refine Below.alloc ?_ (by first | omega | (simp; done) | (simp; omega)) _)) hgr6 (by first | omega | (simp; done) | (simp; omega)) (fun q hq => by injection hq with hq; have := own_lt hown5 g5 rfl; omega); have a6 := (hB6.cell (p := ⟨b, off + k * 3, none⟩) hbw).trans u1; have b6 := (hB6.cell (p := ⟨b, off + k * 3 + 1, none⟩) hbw).trans u2; have c6 := (hB6.cell (p := ⟨b, off + k * 3 + 2, none⟩) hbw).trans u3; have hsz6 := hB6.size)
                | fail)
            all_goals
              have HOWN6 := Lib.hid hown6
              have HB6 := Lib.hid hB6
              have HSZ6 := Lib.hid hsz6
              clear hown6 hB6 hsz6 hgr6 a6 b6 c6 a5 b5 c5 a4 b4 c4 hB4 hB5 hsz4 hsz5 hgr4 hgr5 hown4 hown5
              go_wp2_with fail
              refine ⟨⟨k + 1, out.take j ++ [x] ++ out.drop j, by omega, by go_num, ?_, ?_, ?_, ?_⟩, by simp [intOf]; omega⟩
              · rw [HTK.out]; exact (ins_perm x out j).trans (HPERM.out.append_right _)
              · exact ins_sorted (by have := HLEN.out; omega) HSRT.out hdr hlast
              · have h6 := own_weaken (base' := w.heap.size) (Nat.le_trans hszk hbj.size) HOWN6.out
                have e6 : (out.take j ++ [x] ++ out.drop j).flatMap Inf.enc = (out.take j).flatMap Inf.enc ++ [.int .i64 x.id, .int .i64 x.lev, .int .i64 x.used] ++ (out.drop j).flatMap Inf.enc := by simp [Inf.enc]
                have n6 : j + 1 + (k - j) = k + 1 := by omega
                rw [e6]
                first | (rw [← n6]; exact h6) | (simpa using h6)
              · exact hbk.trans (hbj.trans (HB6.out.mono hbj.size) |>.mono hszk)
    · obtain rfl : k = T.length := by omega
      rw [List.take_length] at hperm
      have hsI := sortI_eq hperm hsrt
      have HS := Lib.hid hsI
      clear hr hperm hsrt hlen hsI
      go_wp2_with fail
      go_ret
      exact ⟨_, rfl, by rw [HS.out]; exact hown, hbk⟩
end Go.Proofs.Ytcpcoomkapblcaa
