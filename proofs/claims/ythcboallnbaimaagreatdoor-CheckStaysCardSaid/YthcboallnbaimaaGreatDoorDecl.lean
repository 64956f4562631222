/- check: decl; the maps of names that there are already. -/
import Derived.Test.YthcboallnbaimaaGreatDoorNames
import Derived.Test.YthcboallnbaimaaGreatDoorExpr
import Derived.Test.YthcboallnbaimaaGreatDoorLeads
namespace Go.Proofs.YthcboallnbaimaaGreatDoor
open Go Go.RowKit Go.Maps
/-- The map of the names before. -/
structure BefAt (W : World) (mb n : Nat) (l : List ByteArray) (f : ByteArray → Option Int) : Prop where
  map : MapF numC 9 W mb n (onStr f)
  has : ∀ s, (f s).isSome = hasN l s
  few : ∀ s c, f s = some c → 0 ≤ c ∧ c ≤ n
theorem BefAt.of_block {W W' : World} {mb n : Nat} {l : List ByteArray} {f : ByteArray → Option Int} (h : BefAt W mb n l f) (hb : W'.heap[mb]? = W.heap[mb]?) : BefAt W' mb n l f := ⟨h.map.of_block hb, h.has, h.few⟩
theorem BefAt.new {W W' : World} {mb n : Nat} {l : List ByteArray} {f : ByteArray → Option Int} (h : BefAt W mb n l f) (hb : Below W.heap.size W W') : BefAt W' mb n l f := h.of_block (hb.block _ h.map.lt)
theorem BefAt.keeps {K : CkE} {W W' : World} {mb n : Nat} {l : List ByteArray} {f : ByteArray → Option Int} (h : BefAt W mb n l f) (hk : KeepsQ K W W') (hB : K.B ≤ mb) : BefAt W' mb n l f := by
  obtain ⟨es, cl, h3⟩ := h.map.obj
  exact h.of_block ((hk.same _ _ hB h3 rfl).trans h3.symm)
theorem BefAt.made (W : World) : BefAt (W.alloc (.map #[] 0)) W.heap.size 0 [] (fun _ => none) :=
  ⟨(MapF.made numC 9 W).congr fun l _ => by cases l <;> rfl, fun _ => rfl, fun _ _ h => by cases h⟩
theorem BefAt.look {W : World} {mb n : Nat} {l : List ByteArray} {f : ByteArray → Option Int} (h : BefAt W mb n l f) {s : ByteArray} (hs : s.size ≤ maxLen) :
    (Instr.lookup 127 (.map (some mb)) (.string s) true).run Tryz.prog W = .ok (.tuple #[.int .i64 ((f s).getD 0), .bool (hasN l s)]) W := by
  have := h.map.look_ok lawS Tryz.underlying127 (keyS hs)
  rw [onStr_skey, h.has] at this
  exact this
theorem BefAt.look1 {W : World} {mb n : Nat} {l : List ByteArray} {f : ByteArray → Option Int} (h : BefAt W mb n l f) {s : ByteArray} (hs : s.size ≤ maxLen) :
    (Instr.lookup 127 (.map (some mb)) (.string s) false).run Tryz.prog W = .ok (.int .i64 ((f s).getD 0)) W := by
  have := h.map.look lawS Tryz.underlying127 (keyS hs)
  rw [onStr_skey] at this
  exact this
theorem hasN_snoc (l : List ByteArray) (a s : ByteArray) : hasN (l ++ [a]) s = (hasN l s || decide (a = s)) := by
  unfold hasN; simp
/-- One name more. -/
theorem BefAt.store {W : World} {mb n : Nat} {l : List ByteArray} {f : ByteArray → Option Int} (h : BefAt W mb n l f) {s : ByteArray} (hs : s.size ≤ maxLen) (hn : n ≤ 1000000) :
    ∃ w', (Instr.mapUpdate 127 (.map (some mb)) (.string s) (.int .i64 ((f s).getD 0 + 1))).run Tryz.prog W = .ok () w' ∧ BefAt w' mb (n + 1) (l ++ [s]) (fun t => if t = s then some ((f s).getD 0 + 1) else f t) ∧ W.mapTurned w' mb := by
  obtain ⟨w', h1, h2, h3⟩ := h.map.store lawS Tryz.underlying127 (by unfold maxLen; omega) (keyS hs) ((f s).getD 0 + 1)
  rw [putF_onStr] at h2
  refine ⟨w', h1, ⟨h2, fun t => ?_, fun t c hc => ?_⟩, h3⟩
  · rw [hasN_snoc]
    by_cases e : t = s
    · subst e; simp
    · simp [e, h.has, Ne.symm e]
  · have hb : 0 ≤ (f s).getD 0 ∧ (f s).getD 0 ≤ n := by
      cases hf : f s with
      | none => simp
      | some c => simpa using h.few s c hf
    by_cases e : t = s
    · simp [e] at hc; omega
    · simp [e] at hc
      have := h.few t c hc; omega
theorem BefAt.bound {W : World} {mb n : Nat} {l : List ByteArray} {f : ByteArray → Option Int} (h : BefAt W mb n l f) (s : ByteArray) : 0 ≤ (f s).getD 0 ∧ (f s).getD 0 ≤ n := by
  cases hf : f s with
  | none => simp
  | some c => simpa using h.few s c hf
/-- declE, over what it looks at. -/
theorem declE_cases (p : ProgV) (l : List ByteArray) (a : Bool) (d : DeclV) : declE p l a d = if (hasN l d.name || !nameB p d.name.data.toList) = true then 321 else if wideW d.width = false then 322 else if (if a = true then decide (1 ≤ d.size ∧ d.size ≤ 16) else decide (d.size = 0)) = false then 323 else 0 := by
  unfold declE
  cases hasN l d.name <;> cases nameB p d.name.data.toList <;> simp
set_option maxRecDepth 1000000 in
set_option maxHeartbeats 4000000 in
theorem decl_any {K : CkE} {J Jx : List (Int × Int) → World → Prop} (hJ : OwnC 129 K.B J) (hJx : OwnC 129 K.B Jx) (hT : TellOk K J Jx) {pm : Option Nat} {E : Env} {cs : List Int} (w : World) (hst : CkSt K J Jx pm E cs w) (hlen : cs.length < 1000000) (hmx : MxAt w)
    {mb n : Nat} {l : List ByteArray} {f : ByteArray → Option Int} (hm : BefAt w mb n l f) (d : DeclV) (hd : DeclOk d) (hs : d.name.size ≤ 4294967200) (isA : Bool) :
    Calls Tryz.prog 118 #[.pointer (some ⟨K.q, 0, none⟩), d.val, .map (some mb), .bool isA] w fun o w' => o = .returned (.tuple #[]) ∧ Told K J Jx pm E (cs ++ [declE K.p l isA d]) w w' := by
  obtain ⟨over, hk, -⟩ := hst.ex
  have hn0w : K.n₀ ≤ w.heap.size := by have := hk.lt; have := hk.q; have := hk.n0; omega
  have hw0 : 0 < w.heap.size := by have := hk.lt; omega
  have hb1 : Below w.heap.size w (w.alloc (.cells #[.string d.name, .int .i64 d.width, .int .i64 d.size] 44)) := (Below.refl _ _).alloc (Nat.le_refl _) _
  have hB1 := World.alloc_heap_new w (.cells #[.string d.name, .int .i64 d.width, .int .i64 d.size] 44)
  have hde := declE_cases K.p l isA d
  obtain ⟨de, hde0⟩ : ∃ de, declE K.p l isA d = de := ⟨_, rfl⟩
  rw [hde0] at hde ⊢
  have HDE := Lib.hid hde
  have HTELL : Hid (∀ (c : Int) (X : World), Below (w.alloc (.cells #[.string d.name, .int .i64 d.width, .int .i64 d.size] 44)).heap.size (w.alloc (.cells #[.string d.name, .int .i64 d.width, .int .i64 d.size] 44)) X → Calls Tryz.prog 110 #[.pointer (some ⟨K.q, 0, none⟩), .int .i64 c] X fun o w' => o = .returned (.tuple #[]) ∧ Told K J Jx pm E (cs ++ [c]) w w') := Lib.hid fun c X hX => by
    have hbx : Below w.heap.size w X := hb1.trans (hX.mono hb1.size)
    refine (hT pm E cs X c (hst.new hJ hJx hbx) hlen).mono ?_
    rintro o w' ⟨rfl, ht⟩
    exact ⟨rfl, ht.after (.of_below hbx hn0w)⟩
  have hNM := name_check _ (hk.new hb1) d.name hs (hmx.below hb1 hw0)
  have hmb := hm.new hb1
  have hlk := hmb.look hd.1
  clear hde hde0 hst hk hm hmb hmx hb1
  simp only [DeclV.val]
  go_enter Tryz.func118, Tryz.ntmps118
  go_upto_region 1 with fail
  have HNM := Lib.hid hNM
  have HB1 := Lib.hid hB1
  clear hNM
  generalize w.alloc (.cells #[.string d.name, .int .i64 d.width, .int .i64 d.size] 44) = W1 at *
  obtain ⟨c0, c1, c2⟩ := three_cells HB1.out
  generalize hwd : d.width = wd at *
  generalize hsz : d.size = sz at *
  generalize hnn : nameB K.p d.name.data.toList = nn at *
  generalize hha : hasN l d.name = ha at *
  obtain ⟨so, hso⟩ : ∃ so, (if isA = true then decide (1 ≤ sz ∧ sz ≤ 16) else decide (sz = 0)) = so := ⟨_, rfl⟩
  rw [hso] at HDE
  have HSO := Lib.hid hso
  clear hso hwd hsz hnn hha
  obtain ⟨z0, hz0⟩ : ∃ z, (sz == 0) = z := ⟨_, rfl⟩
  have hz1 : decide (sz = 0) = z0 := by rw [← hz0]; rfl
  rw [hz1] at HSO
  have HZ1 := Lib.hid hz1
  clear hz1
  go_upto_if 14 with fail
  go_cut [8] (fun s8 wx => s8 = .bool so ∧ W1 = wx)
  case first =>
    cases isA with
    | false =>
      clear HNM hlk HTELL
      go_wp2_with fail
      go_meet
      case rel => exact ⟨congrArg Value.bool (by rw [← HSO.out]; simp), rfl⟩
    | true =>
      clear HNM hlk HTELL
      by_cases h1 : 1 ≤ sz
      · by_cases h2 : sz ≤ 16
        all_goals
          go_wp2_with fail
          go_meet
          case rel => exact ⟨congrArg Value.bool (by rw [← HSO.out]; simp [h1, h2]), rfl⟩
      · go_wp2_with fail
        go_meet
        case rel => exact ⟨congrArg Value.bool (by rw [← HSO.out]; simp; omega), rfl⟩
  case rest =>
    obtain ⟨rfl, rfl⟩ := hcut
    clear HSO HZ1 hz0
    have HWI := Lib.hid (fun W => wide_any wd W)
    cases ha with
    | true =>
      have hres : de = 321 := by rw [HDE.out]; rfl
      have HRES := Lib.hid hres
      clear hres HNM
      go_wp2_with (first | (go_at_call 110; refine (HTELL.out _ _ (Below.refl _ _)).mono ?_; rintro o9 w9 ⟨rfl, ht9⟩) | fail)
      go_returns
      exact ⟨rfl, by rw [HRES.out]; exact ht9⟩
    | false =>
      cases nn with
      | false =>
        have hres : de = 321 := by rw [HDE.out]; rfl
        have HRES := Lib.hid hres
        clear hres
        go_wp2_with (first | (go_at_call 146; refine HNM.out.mono ?_; rintro o8 w8 ⟨rfl, hb8⟩; have HB8 := Lib.hid hb8; clear hb8) | (go_at_call 110; refine (HTELL.out _ _ HB8.out).mono ?_; rintro o9 w9 ⟨rfl, ht9⟩) | fail)
        go_returns
        exact ⟨rfl, by rw [HRES.out]; exact ht9⟩
      | true =>
        go_upto_region 8 with (first | (go_at_call 146; refine HNM.out.mono ?_; rintro o8 w8 ⟨rfl, hb8⟩; have HB8 := Lib.hid hb8; clear hb8) | fail)
        clear c0 c1 c2 hlk
        obtain ⟨c0, c1, c2⟩ := three_cells ((HB8.out.block _ (Array.getElem?_eq_some_iff.1 HB1.out).1).trans HB1.out)
        cases hwi : wideW wd with
        | false =>
          rw [hwi] at HWI HDE
          have hres : de = 322 := by rw [HDE.out]; rfl
          have HRES := Lib.hid hres
          clear hres hwi
          go_wp2_with (first | (go_at_call 106; refine (HWI.out _).mono ?_; rintro o7 w7 ⟨rfl, rfl⟩) | (go_at_call 110; refine (HTELL.out _ _ HB8.out).mono ?_; rintro o9 w9 ⟨rfl, ht9⟩) | fail)
          go_returns
          exact ⟨rfl, by rw [HRES.out]; exact ht9⟩
        | true =>
          rw [hwi] at HWI HDE
          clear hwi
          cases so with
          | false =>
            have hres : de = 323 := by rw [HDE.out]; rfl
            have HRES := Lib.hid hres
            clear hres
            go_wp2_with (first | (go_at_call 106; refine (HWI.out _).mono ?_; rintro o7 w7 ⟨rfl, rfl⟩) | (go_at_call 110; refine (HTELL.out _ _ HB8.out).mono ?_; rintro o9 w9 ⟨rfl, ht9⟩) | fail)
            go_returns
            exact ⟨rfl, by rw [HRES.out]; exact ht9⟩
          | true =>
            have hres : de = 0 := by rw [HDE.out]; rfl
            have HRES := Lib.hid hres
            clear hres
            go_wp2_with (first | (go_at_call 106; refine (HWI.out _).mono ?_; rintro o7 w7 ⟨rfl, rfl⟩) | (go_at_call 110; refine (HTELL.out _ _ HB8.out).mono ?_; rintro o9 w9 ⟨rfl, ht9⟩) | fail)
            go_returns
            exact ⟨rfl, by rw [HRES.out]; exact ht9⟩
end Go.Proofs.YthcboallnbaimaaGreatDoor
