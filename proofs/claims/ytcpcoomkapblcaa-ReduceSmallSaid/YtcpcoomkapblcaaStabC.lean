/- slices.symMergeCmpFunc at []reduce.Info: where the second part has one element; over any program that bears the body. -/
import Derived.Test.YtcpcoomkapblcaaStabA
import Derived.Shelf.SlSortCmp.QuietGrown
namespace Go.Proofs.Ytcpcoomkapblcaa
open Go Go.Shelf Go.RowKit Go.Lib Go.Sort
variable {P : Program} {α : Type} [Inhabited α]
set_option maxHeartbeats 4000000 in
set_option maxRecDepth 1000000 in
theorem symMerge_right {k : Nat} (L : HostK P k) (FG : P.funcs[90]? = some Try.f90) (enc : α → List Value) (cf : α → α → Int) (hS : SWO (ltOf cf)) (g : Nat) (cb : Array Value) (blk off cap a m : Nat) (d0 d : Array α) (w0 w : World)
    (eg : ∀ args w, (callFunc g args).run P w = .ok (.enter g args) w) (hcmp : CmpLays P g cb enc k cf blk off d0.size w0)
    (R : RowK enc k w0 blk off d0) (hs : d0.size = d.size) (S : SWK enc k w0 blk off d w) (hab : a + 1 < m) (hb : m < d.size) (hsz : d.size < 4611686018427387904) (hs1 : SortedIn (ltOf cf) a m d) :
    Calls P 90 #[.slice (some ⟨blk, off, none⟩) d.size cap, .int .i64 a, .int .i64 m, .int .i64 ((m : Int) + 1), .func (.func g) #[] cb] w fun e w' => e = .returned (.tuple #[]) ∧ ∃ d', PermIn a (m + 1) d d' ∧ SortedIn (ltOf cf) a (m + 1) d' ∧ SWK enc k w0 blk off d' w' := by
  have mixed := L.mixed; have t3 := L.t3; have a3 := L.a3; have z3 := L.z3; have v3 := L.v3; have t4 := L.t4; have a4 := L.a4; have z4 := L.z4; have v4 := L.v4; have t22 := L.t29; have a22 := L.a29; have z22 := L.z29; have v22 := L.v29; have aE := L.a32; have zE := L.z32; have t25 := L.t89; have a25 := L.a89; have z25 := L.z89; have v25 := L.v89
  have t112 := L.t112; have a112 := L.a112; have z112 := L.z112; have v112 := L.v112
  have S0 : Aside (SWK enc k w0 blk off d w) := S
  have HC : Aside _ := hcmp
  have HS1 : Aside (SortedIn (ltOf cf) a m d) := hs1
  clear S hcmp hs1
  have e0 : ((m : Int) - (a : Int) == 1) = false := by rw [beq_eq_false_iff_ne]; omega
  have e1 : ((m : Int) + 1 - (m : Int) == 1) = true := by rw [beq_iff_eq]; omega
  go_enter FG, Try.ntmps90
  go_wp2_with fail
  go_loopg [14, 15] (m - a) (fun kx s10 s11 wr => ∃ (i j : Nat), s10 = .int .i64 i ∧ s11 = .int .i64 j ∧ a ≤ i ∧ i ≤ j ∧ j ≤ m ∧ j - i ≤ kx ∧ Aside (SWK enc k w0 blk off d wr) ∧
    Aside ((∀ h, a ≤ h → h < i → ltOf cf d[m]! d[h]! = false) ∧ (∀ h, j ≤ h → h < m → ltOf cf d[m]! d[h]! = true)))
  case atStart => exact ⟨a, m, rfl, rfl, Nat.le_refl _, by omega, Nat.le_refl _, Nat.le_refl _, S0, ⟨fun h h1 h2 => by omega, fun h h1 h2 => by omega⟩⟩
  case round =>
    clear S0
    obtain ⟨i, j, rfl, rfl, hai, hij, hjb, hkx, S1, HQ⟩ := hrel
    by_cases hlt : i < j
    · have hltz : (i : Int) < (j : Int) := by omega
      go_wp2_with fail
      have eh : ((i : Int) + (j : Int)) / 2 = (((i + j) / 2 : Nat) : Int) := by omega
      rw [eh]
      have hh1 : i ≤ (i + j) / 2 := by omega
      have hh2 : (i + j) / 2 < j := by omega
      clear eh
      generalize (i + j) / 2 = h at *
      have ea24 : ((m : Int)).toNat = m := by omega
      have pa24 : (0 : Int) ≤ (m : Int) := by omega
      have ba24 : (m : Int) < (d.size : Int) := by omega
      have ra24 : IntKind.i64.wrap ((m : Int)) = (m : Int) := by rw [IntKind.wrap_i64]; omega
      have ec24 : ((h : Int)).toNat = h := by omega
      have pc24 : (0 : Int) ≤ (h : Int) := by omega
      have bc24 : (h : Int) < (d.size : Int) := by omega
      have rc24 : IntKind.i64.wrap ((h : Int)) = (h : Int) := by rw [IntKind.wrap_i64]; omega
      obtain ⟨x24, hx24⟩ : ∃ x, x = d[m]! := ⟨_, rfl⟩
      obtain ⟨y24, hy24⟩ : ∃ x, x = d[h]! := ⟨_, rfl⟩
      have l24a := S1.out.ld R (by omega) P m (by omega)
      have l24b := S1.out.ld R (by omega) P h (by omega)
      rw [← hx24] at l24a
      rw [← hy24] at l24b
      have hc24 := S1.out.cmp HC.out (by omega) x24 y24
      cases hL : ltOf cf x24 y24 with
      | false =>
        have hd24 : decide (cf x24 y24 < 0) = false := hL
        have hv24 : ¬ cf x24 y24 < 0 := of_decide_eq_false hL
        have HQ2 : Aside ((∀ h', a ≤ h' → h' < h + 1 → ltOf cf d[m]! d[h']! = false) ∧ (∀ h, j ≤ h → h < m → ltOf cf d[m]! d[h]! = true)) := ⟨fun h' h1 h2 => srch_le hS HS1.out h1 (show h' ≤ h by omega) (by omega) (by rw [← hx24, ← hy24]; exact hL), HQ.out.2⟩
        clear hx24 hy24 HQ hL
        go_quiet_grown (first | (go_at_fn g; refine Calls.grown_of (hc24 _ _)))
        have S2 : Aside (SWK enc k w0 blk off d (grow (wr.drewN nq) osq)) := S1.out.grown nq osq
        clear l24a l24b hc24 S1
        generalize grow (wr.drewN nq) osq = w2 at S2 ⊢
        clear nq osq
        go_wp2_with fail
        go_roundg (j - (h + 1))
        case measure => omega
        case rel => exact ⟨h + 1, j, by go_num, rfl, by omega, by omega, hjb, Nat.le_refl _, S2, HQ2⟩
      | true =>
        have hd24 : decide (cf x24 y24 < 0) = true := hL
        have hv24 : cf x24 y24 < 0 := of_decide_eq_true hL
        have HQ2 : Aside ((∀ h', a ≤ h' → h' < i → ltOf cf d[m]! d[h']! = false) ∧ (∀ h', h ≤ h' → h' < m → ltOf cf d[m]! d[h']! = true)) := ⟨HQ.out.1, fun h' h1 h2 => srch_gt hS HS1.out (by omega) h1 h2 (by rw [← hx24, ← hy24]; exact hL)⟩
        clear hx24 hy24 HQ hL
        go_quiet_grown (first | (go_at_fn g; refine Calls.grown_of (hc24 _ _)))
        have S2 : Aside (SWK enc k w0 blk off d (grow (wr.drewN nq) osq)) := S1.out.grown nq osq
        clear l24a l24b hc24 S1
        generalize grow (wr.drewN nq) osq = w2 at S2 ⊢
        clear nq osq
        go_wp2_with fail
        go_roundg (h - i)
        case measure => omega
        case rel => exact ⟨i, h, rfl, rfl, hai, hh1, by omega, Nat.le_refl _, S2, HQ2⟩
    · have hltz : ¬ (i : Int) < (j : Int) := by omega
      obtain rfl : i = j := by omega
      go_wp2_with fail
      go_loopg [17] (m - i) (fun kx s13 wq => ∃ (q : Nat) (dk : Array α), s13 = .int .i64 q ∧ i ≤ q ∧ q ≤ m ∧ q - i ≤ kx ∧ dk.size = d.size ∧ Aside (SWK enc k w0 blk off dk wq) ∧ Aside (Rot q m (m + 1) d dk))
      case atStart => exact ⟨m, d, rfl, hjb, Nat.le_refl _, Nat.le_refl _, rfl, S1, Rot.none_left m (m + 1) d⟩
      case round =>
        clear S1
        obtain ⟨q, dk, rfl, haq, hqi, hkx2, hds, S1, HR⟩ := hrel
        by_cases hq : i < q
        · have hqz : (i : Int) < (q : Int) := by omega
          go_wp2_with fail
          have ea44 : ((q : Int)).toNat = q := by omega
          have pa44 : (0 : Int) ≤ (q : Int) := by omega
          have ba44 : (q : Int) < (d.size : Int) := by omega
          have ra44 : IntKind.i64.wrap ((q : Int)) = (q : Int) := by rw [IntKind.wrap_i64]; omega
          have ec44 : ((q : Int) - 1).toNat = q - 1 := by omega
          have pc44 : (0 : Int) ≤ (q : Int) - 1 := by omega
          have bc44 : (q : Int) - 1 < (d.size : Int) := by omega
          have rc44 : IntKind.i64.wrap ((q : Int) - 1) = (q : Int) - 1 := by rw [IntKind.wrap_i64]; omega
          have S2 : Aside (SWK enc k w0 blk off (swp dk q (q - 1)) ((wr.drew.setCells blk (off + q * k) (enc dk[q - 1]!)).setCells blk (off + (q - 1) * k) (enc dk[q]!))) := S1.out.swapped R q (q - 1) (by omega) (by omega)
          have l44a := S1.out.ld1 R (by omega) P q (by omega)
          have l44b := S1.out.ld1 R (by omega) P (q - 1) (by omega)
          have s44a := S1.out.st1 R (by omega) P q (by omega) dk[q - 1]!
          have s44b := S1.out.st2 R (by omega) P q (q - 1) (by omega) (by omega) dk[q - 1]! dk[q]!
          have n44a : (enc dk[q]!).length = k := R.hk _
          have n44b : (enc dk[q - 1]!).length = k := R.hk _
          generalize enc dk[q]! = cI44 at S2 l44a s44b n44a
          generalize enc dk[q - 1]! = cJ44 at S2 l44b s44a s44b n44b
          have HR2 : Aside (Rot (q - 1) m (m + 1) d (swp dk q (q - 1))) := HR.out.down (by omega) hqi hb
          clear S1 HR
          go_big_region_o
          clear l44a l44b s44a s44b
          generalize (wr.drew.setCells blk (off + q * k) cJ44).setCells blk (off + (q - 1) * k) cI44 = w2 at S2 ⊢
          go_wp2_with fail
          go_roundg (q - 1 - i)
          case measure => omega
          case rel => exact ⟨q - 1, swp dk q (q - 1), by rw [show ((q - 1 : Nat) : Int) = (q : Int) - 1 by omega], by omega, by omega, Nat.le_refl _, by rw [size_swp]; exact hds, S2, HR2⟩
        · have hqz : ¬ (i : Int) < (q : Int) := by omega
          obtain rfl : q = i := by omega
          go_wp2_with fail
          (try simp only [Exit.inBlock, Exit.then]); refine bodyPost_ret (results_none rfl _ _ _) rfl ?_
          have hr := HR.out
          exact ⟨rfl, dk, permIn_mono _ _ _ _ _ _ hai (Nat.le_refl _) (by omega) hr.perm, ins_left hS hai hjb HS1.out HQ.out.1 HQ.out.2 hr, S1.out⟩
end Go.Proofs.Ytcpcoomkapblcaa
