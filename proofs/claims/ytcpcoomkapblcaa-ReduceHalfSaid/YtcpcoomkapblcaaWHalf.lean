import Derived.Test.YtcpcoomkapblcaaHalfP
import Derived.Test.YtcpcoomkapblcaaMade
import Derived.Test.YtcpcoomkapblcaaIndexS
import Derived.Deep.DeepCutAuto
open Go Go.RowKit Go.Maps
namespace Go.Proofs.Ytcpcoomkapblcaa
open Go.Shelf
theorem row_form {w : World} {base e size : Nat} {v : Value} {n : Nat} {xs : List Value} (h : w.ownsRow base e size v n xs) : ∃ A c, v = .slice A n c := by
  rcases h.2 with ⟨rfl, h0⟩ | ⟨g, cap, cur, rfl, _⟩
  · exact ⟨none, 0, by rw [h0]⟩
  · exact ⟨_, _, rfl⟩
def lockJ (ks : List Int) : Nat := min ks.length 30
set_option maxRecDepth 10000000 in
set_option maxHeartbeats 4000000 in
theorem reduceHalf_any (w : World) (lv uv kv : Value) (ls us ks : List Int) (hl : RdB w.heap.size w lv ls) (hu : RdB w.heap.size w uv us) (hk : RdB w.heap.size w kv ks) (hll : ls.length ≤ maxLen) (hul : us.length ≤ maxLen) (hkl : ks.length ≤ maxLen) :
    Calls Try.prog 6 #[lv, uv, kv] w fun e w' => e = .returned (.bool true) ∧ Below w.heap.size w w' := by
  obtain ⟨A0, n0, c0, rfl⟩ := hl.form
  obtain ⟨A1, n1, c1, rfl⟩ := hu.form
  obtain ⟨hk0, A2, c2, rfl, hkc, hkn, hkr⟩ := hk
  obtain ⟨i0, hi, hz0, hz1, hz2⟩ := info_parts int_info
  unfold maxLen at hkl
  have hJ : lockJ ks = min ks.length 30 := rfl
  have HJJ := Lib.hid hJ; clear hJ
  have hA : (A2 = none ∧ c2 = 0 ∧ ks = []) ∨ ∃ a, A2 = some a := by
    cases A2 with
    | none => exact .inl ⟨rfl, hkn rfl, List.eq_nil_of_length_eq_zero (by have := hkn rfl; omega)⟩
    | some a => exact .inr ⟨a, rfl⟩
  rcases hA with ⟨rfl, hc0, hus⟩ | ⟨a, rfl⟩
  all_goals first
    | (have hl0' : ks.length = 0 := by (rw [hus]; rfl)
       rw [hl0', hc0]
       have hus0 : ks.length ≤ 0 := by omega
       clear hkc hc0 hus hl0')
    | skip
  all_goals
    clear hkn
    go_enter Try.func6, Try.ntmps6
    go_wp2_with fail
    refine (awake_any _).mono ?_
    rintro e w1 ⟨rfl, hb1⟩
    go_wp2_with fail
    have hsz1 := hb1.size
    refine (made_any w1 _ _ ls us ((hl.below hb1).more hsz1) ((hu.below hb1).more hsz1) hll hul).mono ?_
    rintro e w2 ⟨p, m, rfl, hT2, hp, hm, hb2⟩
    have hn60 : madeN ls ≤ 60 := by unfold madeN; omega
    obtain ⟨hgd, -⟩ := madeS_good ls us (madeJ us) (by unfold madeJ; omega)
    change Good (madeN ls) (madeT ls us) at hgd
    generalize madeT ls us = T at *
    generalize madeC ls us = c at *
    generalize madeN ls = n at *
    have hb02 : Below w.heap.size w w2 := hb1.trans (hb2.mono hsz1)
    have hpw : w.heap.size ≤ p := by omega
    have hmw : w.heap.size ≤ m := by omega
    clear hb1 hb2 hp hm hsz1 hl hu
    go_upto_region 7 with (fail)
    go_cut [38, 39, 40] (fun s38 s39 s40 wx => (∃ A c, s38 = .slice A (lockJ ks) c ∧ (0 < ks.length → ∃ b off, A = some ⟨b, off, none⟩ ∧ b < w.heap.size ∧ ∀ j, j < ks.length → w.cell? ⟨b, off + j, none⟩ = some (.int .u8 (ks[j]?.getD 0)))) ∧ s39 = .int .i64 (lockJ ks : Nat) ∧ s40 = .int .i64 0 ∧ w2 = wx)
    case first =>
      have hnu : ¬ ks.length < 0 := by omega
      go_wp2_with fail
      all_goals
        go_meet
        first
          | (have hm1 : (min (0 : Int) 30).toNat = lockJ ks := by (have := HJJ.out; omega)
             have hm2 : max (min (0 : Int) 30) 0 = (lockJ ks : Int) := by (have := HJJ.out; omega)
             rw [hm1, hm2]
             exact ⟨⟨none, 0, rfl, fun h => by omega⟩, rfl, rfl, rfl⟩)
          | (have hm1 : (min (ks.length : Int) 30).toNat = lockJ ks := by (have := HJJ.out; omega)
             have hm2 : max (min (ks.length : Int) 30) 0 = (lockJ ks : Int) := by (have := HJJ.out; omega)
             rw [hm1, hm2]
             exact ⟨⟨_, _, rfl, hkr⟩, rfl, rfl, rfl⟩)
    case rest =>
      obtain ⟨⟨A3, c3, rfl, hA3⟩, rfl, rfl, rfl⟩ := hcut
      clear hkr
      have hjl : lockJ ks ≤ ks.length := by have := HJJ.out; omega
      have hj30 : lockJ ks ≤ 30 := by have := HJJ.out; omega
      have hp2 : p < w2.heap.size := hT2.lt
      have hm2 : m < w2.heap.size := hT2.map.lt
      go_wp2_with fail
      go_loopw [10, 40] (fun v i wr => ∃ k : Nat, k ≤ lockJ ks ∧ i = .int .i64 k ∧ wr.ownsRow w2.heap.size 3 1 v k ((ks.take k).map (.int .i64)) ∧ Below w2.heap.size w2 wr) (fun _ i _ => 31 - (intOf i).toNat)
      case atStart => exact ⟨0, Nat.zero_le _, rfl, by simpa using World.ownsRow_nil _ _ _ _, Below.refl _ _⟩
      case round =>
        obtain ⟨k, hk, rfl, hown, hbk⟩ := hrel
        by_cases hlt : k < lockJ ks
        · try (exfalso; omega)
          all_goals
            obtain ⟨b, off, rfl, hbl, hcell⟩ := hA3 (by omega)
            have hsz := hb02.size
            have hck : wr.cell? ⟨b, off + k, none⟩ = some (.int .u8 (ks[k]?.getD 0)) := (hbk.cell (p := ⟨b, off + k, none⟩) (by show b < _; omega)).trans ((hb02.cell (p := ⟨b, off + k, none⟩) hbl).trans (hcell k (by omega)))
            have hz : 0 ≤ ks[k]?.getD 0 ∧ ks[k]?.getD 0 ≤ 255 := by
              rw [List.getElem?_eq_getElem (by omega)]; exact hk0 _ (List.getElem_mem _)
            have hs : ks.take (k + 1) = ks.take k ++ [ks[k]?.getD 0] := by
              rw [List.take_succ_eq_append_getElem (by omega)]; simp [show k < ks.length by omega]
            generalize ks[k]?.getD 0 = z at *
            obtain ⟨hz0', hz1'⟩ := hz
            have HS := Lib.hid hs
            have hszk := hbk.size
            clear hs hcell hA3
            go_wp2_with (at_builtin; refine wpList_append_own _ rfl _ _ 33 rfl w2.heap.size 3 i0 (.int .i64 0) 1 8 Try.underlying33 hi hz0 hz1 hz2 rfl (by decide) _ _ _ rfl (hown.alloc _) ⟨wr.heap.size, 0, none⟩ 1 1 [.int .i64 z] rfl rfl (cell_one_new _ _ _) (by simp [Value.oneCell']) (by simp only [maxLen]; omega) (by omega) (by simp; omega) ?_; intro v' w3 hown3 hg3 _)
            go_roundw
            case rel =>
              refine ⟨k + 1, by omega, by simp, by rw [HS.out]; simpa using hown3, ?_⟩
              exact (hbk.alloc hszk (.cells #[.int .i64 z] 3)).grown hg3 (by simp; omega) (fun j hj => own_lt hown j hj)
            case measure => simp [intOf]; omega
        · obtain rfl : k = lockJ ks := by omega
          clear hA3 hk0
          have hll30 : (ks.take (lockJ ks)).length ≤ 30 := by rw [List.length_take]; omega
          generalize ks.take (lockJ ks) = lock at *
          have hTr := hT2.below hbk
          have hbr := hb02.trans (hbk.mono hb02.size)
          have hszr := hbk.size
          have hTl : T.length ≤ 60 := by rw [hgd.len]; exact hn60
          clear hT2 hbk hb02
          obtain ⟨A5, c5, rfl⟩ := row_form hown
          go_wp2_with fail
          refine (infos_any wr p m T c hTr (by omega)).mono ?_
          rintro e w3 ⟨v1, rfl, own1, hb3⟩
          obtain ⟨A6, c6, rfl⟩ := row_form own1
          have hT3 := hTr.below hb3
          have ownL3 := own_of_block hown (fun j hj => hb3.block j (hown.lt j hj).2)
          have hsz3 := hb3.size
          go_wp2_with fail
          refine (reduce_any w3 p m T c hT3 (by omega) _ lock (RdI.of_own ownL3) (by omega)).mono ?_
          rintro e w4 ⟨v2, rfl, own2, hT4, hbt4⟩
          obtain ⟨A7, c7, rfl⟩ := row_form own2
          have hsz4 := hbt4.size
          have hT'l : (redT T lock).length ≤ 60 := by have := redT_len hTr.apart lock; omega
          go_wp2_with fail
          refine (infos_any w4 p m _ c hT4 (by omega)).mono ?_
          rintro e w5 ⟨v3, rfl, own3, hb5⟩
          obtain ⟨A8, c8, rfl⟩ := row_form own3
          have hT5 := hT4.below hb5
          have hsz5 := hb5.size
          have ownL5 := own_of_block (own_of_block ownL3 (w' := w4) (fun j hj => hbt4.block j (ownL3.lt j hj).2 (by have := own_lt ownL3 j hj; omega) (by have := own_lt ownL3 j hj; omega))) (w' := w5) (fun j hj => hb5.block j (by have := (ownL3.lt j hj).2; omega))
          have own15 := own_of_block (own_of_block own1 (w' := w4) (fun j hj => hbt4.block j (own1.lt j hj).2 (by have := own_lt own1 j hj; omega) (by have := own_lt own1 j hj; omega))) (w' := w5) (fun j hj => hb5.block j (by have := (own1.lt j hj).2; omega))
          have own25 := own_of_block own2 (w' := w5) (fun j hj => hb5.block j (own2.lt j hj).2)
          have rdL := RdI.of_own ownL5
          have rd1 := RdS.of_own own15
          have rd2 := RdI.of_own own25
          have rd3 := RdS.of_own own3
          have hb05 : Below w.heap.size w w5 := ((hbt4.below (hbr.trans (hb3.mono hbr.size)) hpw hmw (by have := hbr.size; omega))).trans (hb5.mono (by have := hbr.size; omega))
          have hap := hTr.apart
          have hlen1 : T.length = n := hgd.len
          have hlen2 := redT_len hap lock
          have hlen3 := redGs_len T lock
          have hlenq := len_any w5 p m _ _ hT5
          have HLQ := Lib.hid hlenq
          have hlS := len_sortI T
          have hlZ := len_sortZ (redGs T lock)
          have hlS' := len_sortI (redT T lock)
          have hT2 : True := trivial
          clear hown own1 own2 own3 ownL3 ownL5 own15 own25 hb3 hb5 hbt4 hT3 hT4 hTr hbr hlenq
          have hG : ∀ x ∈ T, x.id ∈ redGs T lock → mayGo lock x = true ∧ x ∉ redT T lock := fun x hx h => ⟨goes_may hap hx h, goes_not h⟩
          have hG' : ∀ x ∈ T, x.id ∉ redGs T lock → x ∈ redT T lock := fun x hx h => stays hx h
          have hGB : ∀ x ∈ T, ∀ y ∈ T, mayGo lock x = true → x.id ∉ redGs T lock → y.id ∈ redGs T lock → bt y x = false := fun x hx y hy h1 h2 h3 => worse_goes hap hx h1 h2 hy h3
          have hgoS := goN_sort lock T
          have hmS : ∀ x, x ∈ sortI T → x ∈ T := fun x hx => mem_sortI.1 hx
          have hmZ : ∀ i, i ∈ sortZ (redGs T lock) ↔ i ∈ redGs T lock := fun i => mem_sortZ
          have hmS' : ∀ x, x ∈ sortI (redT T lock) ↔ x ∈ redT T lock := fun x => mem_sortI
          have hsz := sortZ_sorted (redGs T lock)
          clear hap hT2
          generalize sortI T = S at *
          generalize sortZ (redGs T lock) = Z at *
          generalize sortI (redT T lock) = S' at *
          generalize redT T lock = T' at *
          generalize redGs T lock = G at *
          generalize hgl : G.length = gl at *
          generalize htl : T'.length = tl at *
          generalize hnl : T.length = nl at *
          subst hlen1
          have e1 : ((gl : Int) + (tl : Int) != (nl : Int)) = false := by
            have : (gl : Int) + (tl : Int) = (nl : Int) := by omega
            simpa using this
          have hglb : gl ≤ 60 := by omega
          have HLEN2 := Lib.hid hlen2
          have HLEN3 := Lib.hid hlen3
          have HlS := Lib.hid hlS
          have HlZ := Lib.hid hlZ
          have HlS' := Lib.hid hlS'
          have HG := Lib.hid hG
          have HG' := Lib.hid hG'
          have HGB := Lib.hid hGB
          have HGO := Lib.hid hgoS
          have HMS := Lib.hid hmS
          have HMZ := Lib.hid hmZ
          have HMS' := Lib.hid hmS'
          have HSZ := Lib.hid hsz
          have hZl : Z.length ≤ 60 := by omega
          have hSl : S.length ≤ 60 := by omega
          have hS'l : S'.length ≤ 60 := by omega
          clear hlen2 hlen3 hlS hlZ hlS' hG hG' hGB hgoS hmS hmZ hmS' hsz hgl htl hnl
          go_wp2_with fail
          refine HLQ.out.mono ?_
          rintro e w6 ⟨rfl, rfl⟩
          go_wp2_with fail
          refine (isSorted_yes w5 _ _ Z rd2 (by omega) HSZ.out).mono ?_
          rintro e w6 ⟨rfl, q, rfl⟩
          have hbq : Below w5.heap.size w5 (w5.drewN q) := below_drewQ (Below.refl _ _) q
          have hb06 := below_drewQ hb05 q
          replace rdL : RdI (w5.drewN q).heap.size (w5.drewN q) _ lock := rdL.below hbq
          replace rd1 : RdS (w5.drewN q).heap.size (w5.drewN q) _ S := rd1.below hbq
          replace rd2 : RdI (w5.drewN q).heap.size (w5.drewN q) _ Z := rd2.below hbq
          replace rd3 : RdS (w5.drewN q).heap.size (w5.drewN q) _ S' := rd3.below hbq
          generalize w5.drewN q = w6 at *
          clear hbq hb05 e1 HLQ hT5
          go_wp2_with fail
          go_loopw [17, 91] (fun v i wx => ∃ k : Nat, k ≤ S.length ∧ i = .int .i64 k ∧ v = .int .i64 (goN lock (S.take k)) ∧ Below w6.heap.size w6 wx) (fun _ i _ => 61 - (intOf i).toNat)
          case atStart => exact ⟨0, Nat.zero_le _, rfl, rfl, Below.refl _ _⟩
          case round =>
            obtain ⟨k, hk, rfl, rfl, hbk⟩ := hrel
            have hgo60 : goN lock (S.take k) ≤ 60 := by have := goN_le lock (S.take k); rw [List.length_take] at this; omega
            by_cases hlt : k < S.length
            · have hlt' : k < nl := by have := HlS.out; omega
              obtain ⟨B6, D6, hf6, -, hr⟩ := rd1
              injection hf6 with hB6 hn6 hD6
              subst hB6 hD6
              have Hn6 := Lib.hid hn6; clear hn6
              obtain ⟨b, off, rfl, hbl, hcell⟩ := hr (by omega)
              obtain ⟨q1, q2, q3⟩ := hcell k hlt
              replace q1 := (hbk.cell (p := ⟨b, off + k * 3, none⟩) hbl).trans q1
              replace q2 := (hbk.cell (p := ⟨b, off + k * 3 + 1, none⟩) hbl).trans q2
              replace q3 := (hbk.cell (p := ⟨b, off + k * 3 + 2, none⟩) hbl).trans q3
              have hxS : S[k]?.getD ⟨0, 0, 0⟩ ∈ S := by rw [List.getElem?_eq_getElem hlt]; exact List.getElem_mem _
              have hxT := HMS.out _ hxS
              have hs : S.take (k + 1) = S.take k ++ [S[k]?.getD ⟨0, 0, 0⟩] := by
                rw [List.take_succ_eq_append_getElem hlt]; simp [hlt]
              have hgs : goN lock (S.take (k + 1)) = goN lock (S.take k) + if mayGo lock (S[k]?.getD ⟨0, 0, 0⟩) = true then 1 else 0 := by rw [hs, goN_snoc]
              have HCELL := Lib.hid hcell
              generalize hxk : S[k]?.getD ⟨0, 0, 0⟩ = x at *
              have HGS := Lib.hid hgs
              clear hr hs hgs hxk hcell
              generalize goN lock (S.take k) = gk at *
              have hb9 := hbk.alloc hbk.size (.cells #[.int .i64 x.id, .int .i64 x.lev, .int .i64 x.used] 32)
              have hszw := hbk.size
              have hk9 : (wr.alloc (.cells #[.int .i64 x.id, .int .i64 x.lev, .int .i64 x.used] 32)).heap[wr.heap.size]? = some (.cells #[.int .i64 x.id, .int .i64 x.lev, .int .i64 x.used] 32) := World.alloc_heap_new _ _
              have hz9 : wr.heap.size < (wr.alloc (.cells #[.int .i64 x.id, .int .i64 x.lev, .int .i64 x.used] 32)).heap.size := by simp
              have HK9 := Lib.hid hk9; clear hk9
              go_upto_region 21 with (fail)
              generalize wr.alloc (.cells #[.int .i64 x.id, .int .i64 x.lev, .int .i64 x.used] 32) = w9 at *
              generalize wr.heap.size = b19 at *
              have hcx : Z.contains x.id = decide (x.id ∈ G) := by
                rw [Bool.eq_iff_iff]; simp only [List.contains_iff_mem, decide_eq_true_eq]; exact HMZ.out _
              have rdL9 := rdL.below hb9
              have rd29 := rd2.below hb9
              have rd39 := rd3.below hb9
              have hqL := ContainsInt_any w9 _ _ lock x.id rdL9 (by omega)
              have hqZ := ContainsInt_any w9 _ _ Z x.id rd29 (by omega)
              rw [hcx] at hqZ
              have HQL := Lib.hid hqL
              have HQZ := Lib.hid hqZ
              have HB9 := Lib.hid hb9
              clear hqL hqZ hcx rdL9 rd29 q1 q2 q3
              have hk9 := HK9.out
              have d0 : w9.cell? ⟨b19, 0, none⟩ = some (.int .i64 x.id) := by simp [World.cell?, hk9]
              have d1 : w9.cell? ⟨b19, 1, none⟩ = some (.int .i64 x.lev) := by simp [World.cell?, hk9]
              have d2 : w9.cell? ⟨b19, 2, none⟩ = some (.int .i64 x.used) := by simp [World.cell?, hk9]
              clear hk9
              go_cut [20] (fun s20 wy => s20 = .bool (mayGo lock x) ∧ w9 = wy)
              case first =>
                by_cases hx2 : 2 < x.lev
                · by_cases hxl : lock.contains x.id = true
                  · have hmg : mayGo lock x = false := by unfold mayGo; rw [hxl]; simp
                    have HM := Lib.hid hmg; clear hmg
                    go_wp2_with fail
                    refine HQL.out.mono ?_
                    rintro e w10 ⟨rfl, rfl⟩
                    rw [hxl]
                    go_wp2_with fail
                    go_meet
                    exact ⟨by rw [HM.out], rfl⟩
                  · have hxl' : lock.contains x.id = false := by simpa using hxl
                    have hmg : mayGo lock x = true := by unfold mayGo; rw [hxl']; simpa using hx2
                    have HM := Lib.hid hmg; clear hmg hxl
                    go_wp2_with fail
                    refine HQL.out.mono ?_
                    rintro e w10 ⟨rfl, rfl⟩
                    rw [hxl']
                    go_wp2_with fail
                    go_meet
                    exact ⟨by rw [HM.out], rfl⟩
                · have hmg : mayGo lock x = false := by unfold mayGo; simp [hx2]
                  have HM := Lib.hid hmg; clear hmg
                  go_wp2_with fail
                  go_meet
                  exact ⟨by rw [HM.out], rfl⟩
              case rest =>
                obtain ⟨rfl, rfl⟩ := hcut
                by_cases hgx : x.id ∈ G
                · obtain ⟨hmg, hxT'⟩ := HG.out x hxT hgx
                  have hxS' : decide (x ∈ S') = false := by
                    rw [decide_eq_false_iff_not]; intro h; exact hxT' ((HMS'.out x).1 h)
                  have hdg : decide (x.id ∈ G) = true := by simpa using hgx
                  have hqS := containsS_any w9 w6.heap.size _ S' x (HB9.out.size) rd39 (by omega)
                  rw [hxS'] at hqS
                  have HQS := Lib.hid hqS
                  have hgs := HGS.out
                  rw [if_pos hmg] at hgs
                  have HGS' := Lib.hid hgs
                  have hqZ := HQZ.out
                  rw [hdg] at hqZ
                  have HQZ' := Lib.hid hqZ
                  rw [hmg]
                  clear hmg hxT' hxS' hdg hqS hgs hqZ hgx
                  go_wp2_with fail
                  refine HQZ'.out.mono ?_
                  rintro e w10 ⟨rfl, rfl⟩
                  go_wp2_with fail
                  refine HQS.out.mono ?_
                  rintro e w11 ⟨rfl, hb11⟩
                  go_wp2_with fail
                  exact ⟨⟨k + 1, by omega, by simp, by rw [HGS'.out]; simp, HB9.out.trans (hb11.mono HB9.out.size)⟩, by simp [intOf]; omega⟩
                · have hxT' := (HMS'.out x).2 (HG'.out x hxT hgx)
                  have hxS' : decide (x ∈ S') = true := by simpa using hxT'
                  have hdg : decide (x.id ∈ G) = false := by simpa using hgx
                  have hqS := containsS_any w9 w6.heap.size _ S' x (HB9.out.size) rd39 (by omega)
                  rw [hxS'] at hqS
                  have HQS := Lib.hid hqS
                  have hqZ := HQZ.out
                  rw [hdg] at hqZ
                  have HQZ' := Lib.hid hqZ
                  have HGX := Lib.hid hgx
                  clear hxT' hxS' hdg hqS hqZ hgx
                  generalize hmay : mayGo lock x = may at *
                  have HMAY := Lib.hid hmay; clear hmay
                  have hgs : (goN lock (S.take (k + 1)) : Int) = (gk : Int) + if may = true then 1 else 0 := by rw [HGS.out]; split <;> simp
                  cases may
                  all_goals
                    first
                      | rw [if_pos rfl] at hgs
                      | rw [if_neg (by simp)] at hgs
                    have HGS' := Lib.hid hgs
                    clear hgs
                    go_wp2_with fail
                    refine HQZ'.out.mono ?_
                    rintro e w10 ⟨rfl, rfl⟩
                    go_wp2_with fail
                    refine HQS.out.mono ?_
                    rintro e w11 ⟨rfl, hb11⟩
                    have hb12 := HB9.out.trans (hb11.mono HB9.out.size)
                    have hk11 := (hb11.block b19 hz9).trans HK9.out
                    have hz11 : b19 < w11.heap.size := by have := hb11.size; omega
                    have HK11 := Lib.hid hk11
                    clear d0 d1 d2 hk11 hb11
                    have hgd1 : decide ((k : Int) < (nl : Int)) = true := by simpa using hlt'
                    go_wp2_with fail
                    go_loopw [125] (fun i wz => ∃ j : Nat, j ≤ S.length ∧ i = .int .i64 j ∧ Below w11.heap.size w11 wz) (fun i _ => 61 - (intOf i).toNat)
                    case atStart => exact ⟨0, Nat.zero_le _, rfl, Below.refl _ _⟩
                    case round =>
                      obtain ⟨j, hj, rfl, hbj⟩ := hrel
                      have hb13 := hb12.trans (hbj.mono hb12.size)
                      by_cases hltj : j < S.length
                      · have hltj' : j < nl := by have := HlS.out; omega
                        obtain ⟨q1, q2, q3⟩ := HCELL.out j hltj
                        replace q1 := (hb13.cell (p := ⟨b, off + j * 3, none⟩) hbl).trans q1
                        replace q2 := (hb13.cell (p := ⟨b, off + j * 3 + 1, none⟩) hbl).trans q2
                        replace q3 := (hb13.cell (p := ⟨b, off + j * 3 + 2, none⟩) hbl).trans q3
                        have hyT := HMS.out _ (show S[j]?.getD ⟨0, 0, 0⟩ ∈ S by rw [List.getElem?_eq_getElem hltj]; exact List.getElem_mem _)
                        generalize S[j]?.getD ⟨0, 0, 0⟩ = y at *
                        have hszj := hbj.size
                        have hb14 := hbj.alloc hszj (.cells #[.int .i64 y.id, .int .i64 y.lev, .int .i64 y.used] 32)
                        have hb15 := hb13.alloc hb13.size (.cells #[.int .i64 y.id, .int .i64 y.lev, .int .i64 y.used] 32)
                        have hk14 : (wr.alloc (.cells #[.int .i64 y.id, .int .i64 y.lev, .int .i64 y.used] 32)).heap[b19]? = some (.cells #[.int .i64 x.id, .int .i64 x.lev, .int .i64 x.used] 32) := (hb14.block b19 hz11).trans HK11.out
                        have r0 : (wr.alloc (.cells #[.int .i64 y.id, .int .i64 y.lev, .int .i64 y.used] 32)).cell? ⟨b19, 0, none⟩ = some (.int .i64 x.id) := by simp [World.cell?, hk14]
                        have r1 : (wr.alloc (.cells #[.int .i64 y.id, .int .i64 y.lev, .int .i64 y.used] 32)).cell? ⟨b19, 1, none⟩ = some (.int .i64 x.lev) := by simp [World.cell?, hk14]
                        have r2 : (wr.alloc (.cells #[.int .i64 y.id, .int .i64 y.lev, .int .i64 y.used] 32)).cell? ⟨b19, 2, none⟩ = some (.int .i64 x.used) := by simp [World.cell?, hk14]
                        have hqZ := ContainsInt_any _ _ _ Z y.id (rd2.below hb15) (by omega)
                        have hcy : Z.contains y.id = decide (y.id ∈ G) := by
                          rw [Bool.eq_iff_iff]; simp only [List.contains_iff_mem, decide_eq_true_eq]; exact HMZ.out _
                        rw [hcy] at hqZ
                        clear hk14 hcy
                        by_cases hyG : y.id ∈ G
                        · have hdy : decide (y.id ∈ G) = true := by simpa using hyG
                          rw [hdy] at hqZ
                          have HQY := Lib.hid hqZ
                          have hB : ∀ wq, mayGo lock x = true → Calls Try.prog 27 #[.agg #[.int .i64 y.id, .int .i64 y.lev, .int .i64 y.used], .agg #[.int .i64 x.id, .int .i64 x.lev, .int .i64 x.used]] wq fun e w' => e = .returned (.bool false) ∧ Below wq.heap.size wq w' := fun wq hmm => by
                            have := better_any y x wq
                            rwa [HGB.out x hxT y hyT hmm HGX.out hyG] at this
                          have HB := Lib.hid hB
                          clear hqZ hB hdy hyG
                          go_wp2_with fail
                          first
                            | (refine HQY.out.mono ?_
                               rintro e w16 ⟨rfl, rfl⟩
                               go_wp2_with fail
                               refine (HB.out _ HMAY.out).mono ?_
                               rintro e w16 ⟨rfl, hb16⟩
                               have hb17 := hb14.trans (hb16.mono hb14.size)
                               go_wp2_with fail
                               exact ⟨⟨j + 1, by omega, by simp, hb17⟩, by simp [intOf]; omega⟩)
                            | exact ⟨⟨j + 1, by omega, by simp, hb14⟩, by simp [intOf]; omega⟩
                        · have hdy : decide (y.id ∈ G) = false := by simpa using hyG
                          rw [hdy] at hqZ
                          have HQY := Lib.hid hqZ
                          clear hqZ hdy hyG
                          go_wp2_with fail
                          first
                            | (refine HQY.out.mono ?_
                               rintro e w16 ⟨rfl, rfl⟩
                               go_wp2_with fail
                               exact ⟨⟨j + 1, by omega, by simp, hb14⟩, by simp [intOf]; omega⟩)
                            | exact ⟨⟨j + 1, by omega, by simp, hb14⟩, by simp [intOf]; omega⟩
                      · have hjn : ¬ j < nl := by have := HlS.out; omega
                        go_wp2_with fail
                        exact ⟨⟨k + 1, by omega, by simp, by rw [HGS'.out] <;> simp, hb13⟩, by simp [intOf]; omega⟩
            · obtain rfl : k = S.length := by omega
              have hSn : S.length = nl := HlS.out
              have HSN := Lib.hid hSn
              rw [hSn]
              have hg0 := HLEN3.out
              have hg1 := HGO.out
              rw [← hg1] at hg0
              rw [← hSn, List.take_length, hSn]
              have hlast : ((gl : Int) == (goN lock S : Int) / 2) = true := by
                have : (gl : Int) = (goN lock S : Int) / 2 := by omega
                simpa using this
              have hgS : goN lock S ≤ 60 := by have := goN_le lock S; omega
              clear hSn hg0 hg1 hgo60
              generalize goN lock S = gS at *
              go_wp2_with fail
              go_ret
              exact ⟨rfl, hb06.trans (hbk.mono hb06.size)⟩
end Go.Proofs.Ytcpcoomkapblcaa
