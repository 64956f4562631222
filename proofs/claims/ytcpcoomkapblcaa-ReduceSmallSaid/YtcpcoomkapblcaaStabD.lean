/- slices.symMergeCmpFunc at []reduce.Info: two sorted parts side by side are merged, given that of smaller ones; over any program that bears the body. -/
import Derived.Test.YtcpcoomkapblcaaStabA
import Derived.Shelf.SlSortCmp.QuietGrown
import Derived.Deep.CutBlock
import Derived.Deep.DeepCutAuto
import Derived.Deep.CutRange
namespace Go.Proofs.Ytcpcoomkapblcaa
open Go Go.Shelf Go.RowKit Go.Lib Go.Sort
variable {P : Program} {α : Type} [Inhabited α]
set_option maxHeartbeats 4000000 in
set_option maxRecDepth 1000000 in
theorem symMerge_mid {k : Nat} (L : HostK P k) (F97 : P.funcs[97]? = some Try.f97) (F106 : P.funcs[106]? = some Try.f106) (FG : P.funcs[90]? = some Try.f90) (enc : α → List Value) (cf : α → α → Int) (hS : SWO (ltOf cf)) (g : Nat) (cb : Array Value) (blk off cap a m b : Nat) (d0 d : Array α) (w0 w : World)
    (eg : ∀ args w, (callFunc g args).run P w = .ok (.enter g args) w) (hcmp : CmpLays P g cb enc k cf blk off d0.size w0)
    (R : RowK enc k w0 blk off d0) (hs : d0.size = d.size) (S : SWK enc k w0 blk off d w) (ham : a + 1 < m) (hmb : m + 1 < b) (hb : b ≤ d.size) (hsz : d.size < 4611686018427387904) (hs1 : SortedIn (ltOf cf) a m d) (hs2 : SortedIn (ltOf cf) m b d)
    (ih : ∀ (a' m' b' : Nat) (d : Array α) (w : World), b' - a' < b - a → d0.size = d.size → SWK enc k w0 blk off d w → a' < m' → m' < b' → b' ≤ d.size → SortedIn (ltOf cf) a' m' d → SortedIn (ltOf cf) m' b' d →
      Calls P 90 #[.slice (some ⟨blk, off, none⟩) d.size cap, .int .i64 a', .int .i64 m', .int .i64 b', .func (.func g) #[] cb] w fun e w' => e = .returned (.tuple #[]) ∧ ∃ d', PermIn a' b' d d' ∧ SortedIn (ltOf cf) a' b' d' ∧ SWK enc k w0 blk off d' w') :
    Calls P 90 #[.slice (some ⟨blk, off, none⟩) d.size cap, .int .i64 a, .int .i64 m, .int .i64 b, .func (.func g) #[] cb] w fun e w' => e = .returned (.tuple #[]) ∧ ∃ d', PermIn a b d d' ∧ SortedIn (ltOf cf) a b d' ∧ SWK enc k w0 blk off d' w' := by
  have mixed := L.mixed; have t3 := L.t3; have a3 := L.a3; have z3 := L.z3; have v3 := L.v3; have t4 := L.t4; have a4 := L.a4; have z4 := L.z4; have v4 := L.v4; have t22 := L.t29; have a22 := L.a29; have z22 := L.z29; have v22 := L.v29; have aE := L.a32; have zE := L.z32; have t25 := L.t89; have a25 := L.a89; have z25 := L.z89; have v25 := L.v89
  have t112 := L.t112; have a112 := L.a112; have z112 := L.z112; have v112 := L.v112
  have S0 : Aside (SWK enc k w0 blk off d w) := S
  have HC : Aside _ := hcmp
  have HS1 : Aside (SortedIn (ltOf cf) a m d) := hs1
  have HS2 : Aside (SortedIn (ltOf cf) m b d) := hs2
  have IH : Aside _ := ih
  have eg97 : ∀ args w, (callFunc 97 args).run P w = .ok (.enter 97 args) w := enters_of F97 (by kernel_rfl) rfl
  have eg90 : ∀ args w, (callFunc 90 args).run P w = .ok (.enter 90 args) w := enters_of FG (by kernel_rfl) rfl
  clear S hcmp hs1 hs2 ih
  have e0 : ((m : Int) - (a : Int) == 1) = false := by rw [beq_eq_false_iff_ne]; omega
  have e1 : ((b : Int) - (m : Int) == 1) = false := by rw [beq_eq_false_iff_ne]; omega
  have hab2 : (a + b) / 2 < b ∧ a < (a + b) / 2 := by omega
  have eh : ((a : Int) + (b : Int)) / 2 = (((a + b) / 2 : Nat) : Int) := by omega
  obtain ⟨mid, hmid⟩ : ∃ mid, mid = (a + b) / 2 := ⟨_, rfl⟩
  rw [← hmid] at eh hab2
  have HM : Hid (mid = (a + b) / 2) := hmid
  have hm1 : 2 * mid ≤ a + b := by omega
  have hm2 : a + b < 2 * mid + 2 := by omega
  clear hmid
  go_enter FG, Try.ntmps90
  go_upto_if 140 with (fail)
  go_cut [20, 21] (fun s20 s21 wx => wx = w ∧ ∃ lo hi : Nat, s20 = .int .i64 lo ∧ s21 = .int .i64 hi ∧ a ≤ lo ∧ lo ≤ hi ∧ hi ≤ m ∧ hi ≤ mid ∧ mid + m ≤ b + lo ∧ Aside ((∀ c, a ≤ c → mid + m ≤ b + c → lo ≤ c) ∧ (∀ c, c < m → c < mid → c < hi)))
  case first => as_aux_lemma =>
    by_cases hmm : mid < m
    · have hmz : (mid : Int) < (m : Int) := by omega
      go_wp2_with fail
      go_meet
      exact ⟨rfl, mid + m - b, mid, by rw [show ((mid + m - b : Nat) : Int) = (mid : Int) + m - b by omega], rfl, by omega, by omega, by omega, Nat.le_refl _, by omega, fun c h1 h2 => by omega, fun c h1 h2 => h2⟩
    · have hmz : ¬ (mid : Int) < (m : Int) := by omega
      go_wp2_with fail
      go_meet
      exact ⟨rfl, a, m, rfl, rfl, Nat.le_refl _, by omega, Nat.le_refl _, by omega, by omega, fun c h1 h2 => h1, fun c h1 h2 => h1⟩
  case rest =>
    obtain ⟨rfl, lo, hi, rfl, rfl, hl1, hl2, hl3, hl4, hl5, HLH⟩ := hcut
    go_wp2_with fail
    have pe : (mid : Int) + (m : Int) - 1 = ((mid + m - 1 : Nat) : Int) := by omega
    rw [pe]
    obtain ⟨p, hp⟩ : ∃ p, p = mid + m - 1 := ⟨_, rfl⟩
    rw [← hp]
    have hp1 : p + 1 = mid + m := by omega
    clear pe
    have HP : Hid (p = mid + m - 1) := hp
    have hp2 : p < mid + m := by omega
    have hp3 : mid + m ≤ p + 1 := by omega
    clear hp hp1
    go_loopg [20, 21] (hi - lo) (fun kx s10 s11 wr => ∃ (i j : Nat), s10 = .int .i64 i ∧ s11 = .int .i64 j ∧ lo ≤ i ∧ i ≤ j ∧ j ≤ hi ∧ j - i ≤ kx ∧ Aside (SWK enc k w0 blk off d wr) ∧
      Aside ((∀ c, lo ≤ c → c < i → ltOf cf d[p - c]! d[c]! = false) ∧ (∀ c, j ≤ c → c < hi → ltOf cf d[p - c]! d[c]! = true)))
    case atStart => exact ⟨lo, hi, rfl, rfl, Nat.le_refl _, hl2, Nat.le_refl _, Nat.le_refl _, S0, ⟨fun h h1 h2 => by omega, fun h h1 h2 => by omega⟩⟩
    case round =>
      clear S0
      obtain ⟨i, j, rfl, rfl, hai, hij, hjb, hkx, S1, HQ⟩ := hrel
      by_cases hlt : i < j
      · have hltz : (i : Int) < (j : Int) := by omega
        go_wp2_with fail
        have eh2 : ((i : Int) + (j : Int)) / 2 = (((i + j) / 2 : Nat) : Int) := by omega
        rw [eh2]
        have hh1 : i ≤ (i + j) / 2 := by omega
        have hh2 : (i + j) / 2 < j := by omega
        clear eh2
        generalize (i + j) / 2 = h at *
        have ea24 : ((p : Int) - (h : Int)).toNat = p - h := by omega
        have pa24 : (0 : Int) ≤ (p : Int) - (h : Int) := by omega
        have ba24 : (p : Int) - (h : Int) < (d.size : Int) := by omega
        have pb24 : (h : Int) ≤ (p : Int) := by omega
        have ra24 : IntKind.i64.wrap ((p : Int) - (h : Int)) = (p : Int) - (h : Int) := by rw [IntKind.wrap_i64]; omega
        have ec24 : ((h : Int)).toNat = h := by omega
        have pc24 : (0 : Int) ≤ (h : Int) := by omega
        have bc24 : (h : Int) < (d.size : Int) := by omega
        have rc24 : IntKind.i64.wrap ((h : Int)) = (h : Int) := by rw [IntKind.wrap_i64]; omega
        obtain ⟨x24, hx24⟩ : ∃ x, x = d[p - h]! := ⟨_, rfl⟩
        obtain ⟨y24, hy24⟩ : ∃ x, x = d[h]! := ⟨_, rfl⟩
        have l24a := S1.out.ld R (by omega) P (p - h) (by omega)
        have l24b := S1.out.ld R (by omega) P h (by omega)
        rw [← hx24] at l24a
        rw [← hy24] at l24b
        have hc24 := S1.out.cmp HC.out (by omega) x24 y24
        cases hL : ltOf cf x24 y24 with
        | false => as_aux_lemma =>
          have hd24 : decide (cf x24 y24 < 0) = false := hL
          have hv24 : ¬ cf x24 y24 < 0 := of_decide_eq_false hL
          have HQ2 : Aside ((∀ c, lo ≤ c → c < h + 1 → ltOf cf d[p - c]! d[c]! = false) ∧ (∀ c, j ≤ c → c < hi → ltOf cf d[p - c]! d[c]! = true)) := ⟨fun c h1 h2 => sym_dn hS HS1.out HS2.out (by omega) (show c ≤ h by omega) (by omega) (by omega) (by omega) (by rw [← hx24, ← hy24]; exact hL), HQ.out.2⟩
          clear hx24 hy24 HQ hL
          go_quiet_grown (first | (go_at_fn g; refine Calls.grown_of (hc24 _ _)))
          have S2 : Aside (SWK enc k w0 blk off d (grow (wr.drewN nq) osq)) := S1.out.grown nq osq
          clear l24a l24b hc24 S1
          generalize grow (wr.drewN nq) osq = w2 at S2 ⊢
          clear nq osq
          go_wp2_with fail
          go_roundg (j - (h + 1))
          case measure => omega
          case rel => exact ⟨h + 1, j, by go_num, rfl, by omega, by omega, hjb, Nat.le_refl _, S2, HQ2⟩
        | true => as_aux_lemma =>
          have hd24 : decide (cf x24 y24 < 0) = true := hL
          have hv24 : cf x24 y24 < 0 := of_decide_eq_true hL
          have HQ2 : Aside ((∀ c, lo ≤ c → c < i → ltOf cf d[p - c]! d[c]! = false) ∧ (∀ c, h ≤ c → c < hi → ltOf cf d[p - c]! d[c]! = true)) := ⟨HQ.out.1, fun c h1 h2 => sym_up hS HS1.out HS2.out (by omega) h1 (by omega) (by omega) (by omega) (by rw [← hx24, ← hy24]; exact hL)⟩
          clear hx24 hy24 HQ hL
          go_quiet_grown (first | (go_at_fn g; refine Calls.grown_of (hc24 _ _)))
          have S2 : Aside (SWK enc k w0 blk off d (grow (wr.drewN nq) osq)) := S1.out.grown nq osq
          clear l24a l24b hc24 S1
          generalize grow (wr.drewN nq) osq = w2 at S2 ⊢
          clear nq osq
          go_wp2_with fail
          go_roundg (h - i)
          case measure => omega
          case rel => exact ⟨i, h, rfl, rfl, hai, hh1, by omega, Nat.le_refl _, S2, HQ2⟩
      · have hltz : ¬ (i : Int) < (j : Int) := by omega
        obtain rfl : i = j := by omega
        have hr0 : ∀ d1, Rot i m (mid + m - i) d d1 → PermIn a b d d1 ∧ SortedIn (ltOf cf) a i d1 ∧ SortedIn (ltOf cf) i mid d1 ∧ SortedIn (ltOf cf) mid (mid + m - i) d1 ∧ SortedIn (ltOf cf) (mid + m - i) b d1 ∧
            (∀ i j, a ≤ i → i < mid → mid ≤ j → j < b → ltOf cf d1[j]! d1[i]! = false) := by
          intro d1 h1
          have hM := HM.out
          have hq := HQ.out
          have hlh := HLH.out
          have hP := HP.out
          rw [hP] at hq
          rw [hM] at hq h1 hlh ⊢
          exact sym_cross hS (by omega) (by omega) HS1.out HS2.out (by omega) (by omega) (by omega) (by omega) hb
            (fun c c1 c2 c3 => hq.1 c (hlh.1 c c1 c2) c3) (fun c c1 c2 c3 => hq.2 c c1 (hlh.2 c c2 c3)) h1
        have HR0 : Aside _ := hr0
        clear hr0 HQ HLH
        have hbm : (a : Int) + 1 < (m : Int) := by omega
        go_upto_region 39 with (fail)
        go_cut [185] (fun s185 wx => wr = wx ∧ s185 = .bool (decide (i < m ∧ i < mid)))
        case first => as_aux_lemma =>
          by_cases c1 : i < m
          · have c1z : (i : Int) < (m : Int) := by omega
            by_cases c2 : i < mid
            · have c2z : (m : Int) < (mid : Int) + (m : Int) - (i : Int) := by omega
              go_wp2_with fail
              go_meet
              exact ⟨rfl, by simp [c1, c2]⟩
            · have c2z : ¬ (m : Int) < (mid : Int) + (m : Int) - (i : Int) := by omega
              go_wp2_with fail
              go_meet
              exact ⟨rfl, by simp [c2]⟩
          · have c1z : ¬ (i : Int) < (m : Int) := by omega
            go_wp2_with fail
            go_meet
            exact ⟨rfl, by simp [c1]⟩
        case rest =>
          obtain ⟨rfl, rfl⟩ := hcut
          go_upto_if 185 with (fail)
          go_cut [] (fun wx => ∃ d1 : Array α, Aside (Rot i m (mid + m - i) d d1) ∧ Aside (SWK enc k w0 blk off d1 wx))
          case first => as_aux_lemma =>
            by_cases c : i < m ∧ i < mid
            · have cd : decide (i < m ∧ i < mid) = true := by simp [c]
              go_wp2_with fail
              have hc := rotate_gen L F106 F97 enc (.func (.func g) #[] cb) blk off cap i m (mid + m - i) d0 d w0 wr R hs S1.out c.1 (by omega) (by omega) hsz
              rw [show ((mid + m - i : Nat) : Int) = (mid : Int) + (m : Int) - (i : Int) by omega] at hc
              refine hc.mono ?_
              rintro e w' ⟨rfl, d1, h1, h2⟩
              have H1 : Aside (Rot i m (mid + m - i) d d1) := h1
              have H2 : Aside (SWK enc k w0 blk off d1 w') := h2
              clear h1 h2 hc
              go_wp2_with fail
              go_meet
              exact ⟨d1, H1, H2⟩
            · have cd : decide (i < m ∧ i < mid) = false := decide_eq_false c
              go_wp2_with fail
              go_meet
              refine ⟨d, ?_, S1⟩
              by_cases c1 : i = m
              · subst c1; exact Rot.none_left _ _ _
              · have : i = mid := by omega
                subst this
                rw [show i + m - i = m by omega]; exact Rot.none_right _ _ _
          case rest =>
            obtain ⟨d1, HR1, S2⟩ := hcut
            obtain ⟨p1, q1, q2, q3, q4, qc⟩ := HR0.out d1 HR1.out
            have hz1 := p1.1
            have P1 : Aside (PermIn a b d d1) := p1
            have Q1 : Aside (SortedIn (ltOf cf) a i d1) := q1
            have Q2 : Aside (SortedIn (ltOf cf) i mid d1) := q2
            have Q3 : Aside (SortedIn (ltOf cf) mid (mid + m - i) d1) := q3
            have Q4 : Aside (SortedIn (ltOf cf) (mid + m - i) b d1) := q4
            have QC : Aside _ := qc
            have HZ1 : Hid (d1.size = d.size) := hz1
            clear p1 q1 q2 q3 q4 qc hz1 HR1 HR0 S1
            obtain ⟨w2, rfl⟩ : ∃ x, x = wc := ⟨_, rfl⟩
            go_upto_region 41 with (fail)
            go_cut [199] (fun s199 wx => w2 = wx ∧ s199 = .bool (decide (a < i ∧ i < mid)))
            case first => as_aux_lemma =>
              by_cases c1 : a < i
              · have c1z : (a : Int) < (i : Int) := by omega
                by_cases c2 : i < mid
                · have c2z : (i : Int) < (mid : Int) := by omega
                  go_wp2_with fail
                  go_meet
                  exact ⟨rfl, by simp [c1, c2]⟩
                · have c2z : ¬ (i : Int) < (mid : Int) := by omega
                  go_wp2_with fail
                  go_meet
                  exact ⟨rfl, by simp [c2]⟩
              · have c1z : ¬ (a : Int) < (i : Int) := by omega
                go_wp2_with fail
                go_meet
                exact ⟨rfl, by simp [c1]⟩
            case rest =>
              obtain ⟨rfl, rfl⟩ := hcut
              go_upto_if 199 with (fail)
              go_cut [] (fun wx => ∃ d2 : Array α, Aside (PermIn a mid d1 d2) ∧ Aside (SortedIn (ltOf cf) a mid d2) ∧ Aside (SWK enc k w0 blk off d2 wx))
              case first => as_aux_lemma =>
                by_cases c : a < i ∧ i < mid
                · have cd : decide (a < i ∧ i < mid) = true := by simp [c]
                  go_wp2_with fail
                  have hz := HZ1.out
                  have hc := IH.out a i mid d1 w2 (by omega) (by omega) S2.out c.1 c.2 (by omega) Q1.out Q2.out
                  rw [hz] at hc
                  clear hz
                  refine hc.mono ?_
                  rintro e w' ⟨rfl, d2, h1, h2, h3⟩
                  have H1 : Aside (PermIn a mid d1 d2) := h1
                  have H2 : Aside (SortedIn (ltOf cf) a mid d2) := h2
                  have H3 : Aside (SWK enc k w0 blk off d2 w') := h3
                  clear h1 h2 h3 hc
                  go_wp2_with fail
                  go_meet
                  exact ⟨d2, H1, H2, H3⟩
                · have cd : decide (a < i ∧ i < mid) = false := decide_eq_false c
                  go_wp2_with fail
                  go_meet
                  refine ⟨d1, permIn_refl _ _ _, ?_, S2⟩
                  by_cases c1 : i = a
                  · subst c1; exact Q2.out
                  · have : i = mid := by omega
                    subst this; exact Q1.out
              case rest =>
                as_aux_lemma =>
                obtain ⟨d2, P2, T2, S3⟩ := hcut
                have hz2 := P2.out.1
                have HZ2 : Hid (d2.size = d1.size) := hz2
                have hoth : ∀ x, mid ≤ x → d2[x]! = d1[x]! := fun x hx => P2.out.2.1 x (.inr hx)
                have R3 : Aside (SortedIn (ltOf cf) mid (mid + m - i) d2) := sortedIn_part Q3.out (fun x hx _ => hoth x hx)
                have R4 : Aside (SortedIn (ltOf cf) (mid + m - i) b d2) := sortedIn_part Q4.out (fun x hx _ => hoth x (by omega))
                clear hoth hz2 S2
                obtain ⟨w3, rfl⟩ : ∃ x, x = wc := ⟨_, rfl⟩
                go_upto_region 43 with (fail)
                go_cut [213] (fun s213 wx => w3 = wx ∧ s213 = .bool (decide (i < m ∧ mid + m - i < b)))
                case first => as_aux_lemma =>
                  by_cases c1 : i < m
                  · have c1z : (mid : Int) < (mid : Int) + (m : Int) - (i : Int) := by omega
                    by_cases c2 : mid + m - i < b
                    · have c2z : (mid : Int) + (m : Int) - (i : Int) < (b : Int) := by omega
                      go_wp2_with fail
                      go_meet
                      exact ⟨rfl, by simp [c1, c2]⟩
                    · have c2z : ¬ (mid : Int) + (m : Int) - (i : Int) < (b : Int) := by omega
                      go_wp2_with fail
                      go_meet
                      exact ⟨rfl, by simp [c2]⟩
                  · have c1z : ¬ (mid : Int) < (mid : Int) + (m : Int) - (i : Int) := by omega
                    go_wp2_with fail
                    go_meet
                    exact ⟨rfl, by simp [c1]⟩
                case rest =>
                  obtain ⟨rfl, rfl⟩ := hcut
                  by_cases c : i < m ∧ mid + m - i < b
                  · have cd : decide (i < m ∧ mid + m - i < b) = true := by simp [c]
                    go_wp2_with fail
                    have hz := HZ1.out
                    have hz2 := HZ2.out
                    have hc := IH.out mid (mid + m - i) b d2 w3 (by omega) (by omega) S3.out (by omega) c.2 (by omega) R3.out R4.out
                    rw [hz2, hz, show ((mid + m - i : Nat) : Int) = (mid : Int) + (m : Int) - (i : Int) by omega] at hc
                    clear hz hz2
                    refine hc.mono ?_
                    rintro e w' ⟨rfl, d3, h1, h2, h3⟩
                    have hf : PermIn a b d1 d3 ∧ SortedIn (ltOf cf) a b d3 := sym_join (by omega) (by omega) (by have := HZ1.out; omega) QC.out P2.out T2.out h1 h2
                    have HF : Aside _ := hf
                    have H3 : Aside (SWK enc k w0 blk off d3 w') := h3
                    clear h1 h2 h3 hc hf
                    go_wp2_with fail
                    go_end0
                    exact ⟨rfl, d3, permIn_trans _ _ _ _ _ P1.out HF.out.1, HF.out.2, H3.out⟩
                  · have cd : decide (i < m ∧ mid + m - i < b) = false := decide_eq_false c
                    have hf : PermIn a b d1 d2 ∧ SortedIn (ltOf cf) a b d2 := by
                      refine sym_join (by omega) (by omega) (by have := HZ1.out; omega) QC.out P2.out T2.out (permIn_refl _ _ _) ?_
                      by_cases c1 : i = m
                      · have h4 := R4.out
                        rw [show mid + m - i = mid by omega] at h4; exact h4
                      · have h4 := R3.out
                        rw [show mid + m - i = b by omega] at h4; exact h4
                    have HF : Aside _ := hf
                    clear hf
                    go_wp2_with fail
                    go_end0
                    exact ⟨rfl, d2, permIn_trans _ _ _ _ _ P1.out HF.out.1, HF.out.2, S3.out⟩
end Go.Proofs.Ytcpcoomkapblcaa
