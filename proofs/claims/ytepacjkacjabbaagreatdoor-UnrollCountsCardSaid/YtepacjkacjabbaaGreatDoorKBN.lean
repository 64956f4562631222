import Derived.Test.YtepacjkacjabbaaGreatDoorKBL
import Derived.Test.YtepacjkacjabbaaGreatDoorKBM
import Derived.Test.YtepacjkacjabbaaGreatDoorKAP
import Derived.Test.YtepacjkacjabbaaGreatDoorRows
import Derived.Test.YtepacjkacjabbaaGreatDoorProg
import Derived.WalkKit
import Derived.ProofKit
import Derived.OpenShut
import Derived.Below
namespace Go.Proofs.YtepacjkacjabbaaGreatDoor
open Go Go.RowKit Go.Maps
theorem act_F128 {a : Act} (h : a.tmps.size = 128) : ∃ F : Nat → Value, (∀ i : Nat, F i = a.eval (.tmp i)) ∧ a = ⟨(F 0 :: F 1 :: F 2 :: F 3 :: F 4 :: F 5 :: F 6 :: F 7 :: F 8 :: F 9 :: F 10 :: F 11 :: F 12 :: F 13 :: F 14 :: F 15 :: F 16 :: F 17 :: F 18 :: F 19 :: F 20 :: F 21 :: F 22 :: F 23 :: F 24 :: F 25 :: F 26 :: F 27 :: F 28 :: F 29 :: F 30 :: F 31 :: F 32 :: F 33 :: F 34 :: F 35 :: F 36 :: F 37 :: F 38 :: F 39 :: F 40 :: F 41 :: F 42 :: F 43 :: F 44 :: F 45 :: F 46 :: F 47 :: F 48 :: F 49 :: F 50 :: F 51 :: F 52 :: F 53 :: F 54 :: F 55 :: F 56 :: F 57 :: F 58 :: F 59 :: F 60 :: F 61 :: F 62 :: F 63 :: F 64 :: F 65 :: F 66 :: F 67 :: F 68 :: F 69 :: F 70 :: F 71 :: F 72 :: F 73 :: F 74 :: F 75 :: F 76 :: F 77 :: F 78 :: F 79 :: F 80 :: F 81 :: F 82 :: F 83 :: F 84 :: F 85 :: F 86 :: F 87 :: F 88 :: F 89 :: F 90 :: F 91 :: F 92 :: F 93 :: F 94 :: F 95 :: F 96 :: F 97 :: F 98 :: F 99 :: F 100 :: F 101 :: F 102 :: F 103 :: F 104 :: F 105 :: F 106 :: F 107 :: F 108 :: F 109 :: F 110 :: F 111 :: F 112 :: F 113 :: F 114 :: F 115 :: F 116 :: F 117 :: F 118 :: F 119 :: F 120 :: F 121 :: F 122 :: F 123 :: F 124 :: F 125 :: F 126 :: F 127 :: []).toArray, a.defers⟩ := by
 obtain ⟨tm, df⟩ := a
 have h2 : (⟨tm, []⟩ : Act).tmps.size = 128 := h
 have e := act_eq h2 rfl
 refine ⟨fun i => (⟨tm, df⟩ : Act).eval (.tmp i), fun _ => rfl, ?_⟩
 have e2 : tm = ((fun i => (⟨tm, []⟩ : Act).eval (.tmp i)) 0 :: (fun i => (⟨tm, []⟩ : Act).eval (.tmp i)) 1 :: (fun i => (⟨tm, []⟩ : Act).eval (.tmp i)) 2 :: (fun i => (⟨tm, []⟩ : Act).eval (.tmp i)) 3 :: (fun i => (⟨tm, []⟩ : Act).eval (.tmp i)) 4 :: (fun i => (⟨tm, []⟩ : Act).eval (.tmp i)) 5 :: (fun i => (⟨tm, []⟩ : Act).eval (.tmp i)) 6 :: (fun i => (⟨tm, []⟩ : Act).eval (.tmp i)) 7 :: (fun i => (⟨tm, []⟩ : Act).eval (.tmp i)) 8 :: (fun i => (⟨tm, []⟩ : Act).eval (.tmp i)) 9 :: (fun i => (⟨tm, []⟩ : Act).eval (.tmp i)) 10 :: (fun i => (⟨tm, []⟩ : Act).eval (.tmp i)) 11 :: (fun i => (⟨tm, []⟩ : Act).eval (.tmp i)) 12 :: (fun i => (⟨tm, []⟩ : Act).eval (.tmp i)) 13 :: (fun i => (⟨tm, []⟩ : Act).eval (.tmp i)) 14 :: (fun i => (⟨tm, []⟩ : Act).eval (.tmp i)) 15 :: (fun i => (⟨tm, []⟩ : Act).eval (.tmp i)) 16 :: (fun i => (⟨tm, []⟩ : Act).eval (.tmp i)) 17 :: (fun i => (⟨tm, []⟩ : Act).eval (.tmp i)) 18 :: (fun i => (⟨tm, []⟩ : Act).eval (.tmp i)) 19 :: (fun i => (⟨tm, []⟩ : Act).eval (.tmp i)) 20 :: (fun i => (⟨tm, []⟩ : Act).eval (.tmp i)) 21 :: (fun i => (⟨tm, []⟩ : Act).eval (.tmp i)) 22 :: (fun i => (⟨tm, []⟩ : Act).eval (.tmp i)) 23 :: (fun i => (⟨tm, []⟩ : Act).eval (.tmp i)) 24 :: (fun i => (⟨tm, []⟩ : Act).eval (.tmp i)) 25 :: (fun i => (⟨tm, []⟩ : Act).eval (.tmp i)) 26 :: (fun i => (⟨tm, []⟩ : Act).eval (.tmp i)) 27 :: (fun i => (⟨tm, []⟩ : Act).eval (.tmp i)) 28 :: (fun i => (⟨tm, []⟩ : Act).eval (.tmp i)) 29 :: (fun i => (⟨tm, []⟩ : Act).eval (.tmp i)) 30 :: (fun i => (⟨tm, []⟩ : Act).eval (.tmp i)) 31 :: (fun i => (⟨tm, []⟩ : Act).eval (.tmp i)) 32 :: (fun i => (⟨tm, []⟩ : Act).eval (.tmp i)) 33 :: (fun i => (⟨tm, []⟩ : Act).eval (.tmp i)) 34 :: (fun i => (⟨tm, []⟩ : Act).eval (.tmp i)) 35 :: (fun i => (⟨tm, []⟩ : Act).eval (.tmp i)) 36 :: (fun i => (⟨tm, []⟩ : Act).eval (.tmp i)) 37 :: (fun i => (⟨tm, []⟩ : Act).eval (.tmp i)) 38 :: (fun i => (⟨tm, []⟩ : Act).eval (.tmp i)) 39 :: (fun i => (⟨tm, []⟩ : Act).eval (.tmp i)) 40 :: (fun i => (⟨tm, []⟩ : Act).eval (.tmp i)) 41 :: (fun i => (⟨tm, []⟩ : Act).eval (.tmp i)) 42 :: (fun i => (⟨tm, []⟩ : Act).eval (.tmp i)) 43 :: (fun i => (⟨tm, []⟩ : Act).eval (.tmp i)) 44 :: (fun i => (⟨tm, []⟩ : Act).eval (.tmp i)) 45 :: (fun i => (⟨tm, []⟩ : Act).eval (.tmp i)) 46 :: (fun i => (⟨tm, []⟩ : Act).eval (.tmp i)) 47 :: (fun i => (⟨tm, []⟩ : Act).eval (.tmp i)) 48 :: (fun i => (⟨tm, []⟩ : Act).eval (.tmp i)) 49 :: (fun i => (⟨tm, []⟩ : Act).eval (.tmp i)) 50 :: (fun i => (⟨tm, []⟩ : Act).eval (.tmp i)) 51 :: (fun i => (⟨tm, []⟩ : Act).eval (.tmp i)) 52 :: (fun i => (⟨tm, []⟩ : Act).eval (.tmp i)) 53 :: (fun i => (⟨tm, []⟩ : Act).eval (.tmp i)) 54 :: (fun i => (⟨tm, []⟩ : Act).eval (.tmp i)) 55 :: (fun i => (⟨tm, []⟩ : Act).eval (.tmp i)) 56 :: (fun i => (⟨tm, []⟩ : Act).eval (.tmp i)) 57 :: (fun i => (⟨tm, []⟩ : Act).eval (.tmp i)) 58 :: (fun i => (⟨tm, []⟩ : Act).eval (.tmp i)) 59 :: (fun i => (⟨tm, []⟩ : Act).eval (.tmp i)) 60 :: (fun i => (⟨tm, []⟩ : Act).eval (.tmp i)) 61 :: (fun i => (⟨tm, []⟩ : Act).eval (.tmp i)) 62 :: (fun i => (⟨tm, []⟩ : Act).eval (.tmp i)) 63 :: (fun i => (⟨tm, []⟩ : Act).eval (.tmp i)) 64 :: (fun i => (⟨tm, []⟩ : Act).eval (.tmp i)) 65 :: (fun i => (⟨tm, []⟩ : Act).eval (.tmp i)) 66 :: (fun i => (⟨tm, []⟩ : Act).eval (.tmp i)) 67 :: (fun i => (⟨tm, []⟩ : Act).eval (.tmp i)) 68 :: (fun i => (⟨tm, []⟩ : Act).eval (.tmp i)) 69 :: (fun i => (⟨tm, []⟩ : Act).eval (.tmp i)) 70 :: (fun i => (⟨tm, []⟩ : Act).eval (.tmp i)) 71 :: (fun i => (⟨tm, []⟩ : Act).eval (.tmp i)) 72 :: (fun i => (⟨tm, []⟩ : Act).eval (.tmp i)) 73 :: (fun i => (⟨tm, []⟩ : Act).eval (.tmp i)) 74 :: (fun i => (⟨tm, []⟩ : Act).eval (.tmp i)) 75 :: (fun i => (⟨tm, []⟩ : Act).eval (.tmp i)) 76 :: (fun i => (⟨tm, []⟩ : Act).eval (.tmp i)) 77 :: (fun i => (⟨tm, []⟩ : Act).eval (.tmp i)) 78 :: (fun i => (⟨tm, []⟩ : Act).eval (.tmp i)) 79 :: (fun i => (⟨tm, []⟩ : Act).eval (.tmp i)) 80 :: (fun i => (⟨tm, []⟩ : Act).eval (.tmp i)) 81 :: (fun i => (⟨tm, []⟩ : Act).eval (.tmp i)) 82 :: (fun i => (⟨tm, []⟩ : Act).eval (.tmp i)) 83 :: (fun i => (⟨tm, []⟩ : Act).eval (.tmp i)) 84 :: (fun i => (⟨tm, []⟩ : Act).eval (.tmp i)) 85 :: (fun i => (⟨tm, []⟩ : Act).eval (.tmp i)) 86 :: (fun i => (⟨tm, []⟩ : Act).eval (.tmp i)) 87 :: (fun i => (⟨tm, []⟩ : Act).eval (.tmp i)) 88 :: (fun i => (⟨tm, []⟩ : Act).eval (.tmp i)) 89 :: (fun i => (⟨tm, []⟩ : Act).eval (.tmp i)) 90 :: (fun i => (⟨tm, []⟩ : Act).eval (.tmp i)) 91 :: (fun i => (⟨tm, []⟩ : Act).eval (.tmp i)) 92 :: (fun i => (⟨tm, []⟩ : Act).eval (.tmp i)) 93 :: (fun i => (⟨tm, []⟩ : Act).eval (.tmp i)) 94 :: (fun i => (⟨tm, []⟩ : Act).eval (.tmp i)) 95 :: (fun i => (⟨tm, []⟩ : Act).eval (.tmp i)) 96 :: (fun i => (⟨tm, []⟩ : Act).eval (.tmp i)) 97 :: (fun i => (⟨tm, []⟩ : Act).eval (.tmp i)) 98 :: (fun i => (⟨tm, []⟩ : Act).eval (.tmp i)) 99 :: (fun i => (⟨tm, []⟩ : Act).eval (.tmp i)) 100 :: (fun i => (⟨tm, []⟩ : Act).eval (.tmp i)) 101 :: (fun i => (⟨tm, []⟩ : Act).eval (.tmp i)) 102 :: (fun i => (⟨tm, []⟩ : Act).eval (.tmp i)) 103 :: (fun i => (⟨tm, []⟩ : Act).eval (.tmp i)) 104 :: (fun i => (⟨tm, []⟩ : Act).eval (.tmp i)) 105 :: (fun i => (⟨tm, []⟩ : Act).eval (.tmp i)) 106 :: (fun i => (⟨tm, []⟩ : Act).eval (.tmp i)) 107 :: (fun i => (⟨tm, []⟩ : Act).eval (.tmp i)) 108 :: (fun i => (⟨tm, []⟩ : Act).eval (.tmp i)) 109 :: (fun i => (⟨tm, []⟩ : Act).eval (.tmp i)) 110 :: (fun i => (⟨tm, []⟩ : Act).eval (.tmp i)) 111 :: (fun i => (⟨tm, []⟩ : Act).eval (.tmp i)) 112 :: (fun i => (⟨tm, []⟩ : Act).eval (.tmp i)) 113 :: (fun i => (⟨tm, []⟩ : Act).eval (.tmp i)) 114 :: (fun i => (⟨tm, []⟩ : Act).eval (.tmp i)) 115 :: (fun i => (⟨tm, []⟩ : Act).eval (.tmp i)) 116 :: (fun i => (⟨tm, []⟩ : Act).eval (.tmp i)) 117 :: (fun i => (⟨tm, []⟩ : Act).eval (.tmp i)) 118 :: (fun i => (⟨tm, []⟩ : Act).eval (.tmp i)) 119 :: (fun i => (⟨tm, []⟩ : Act).eval (.tmp i)) 120 :: (fun i => (⟨tm, []⟩ : Act).eval (.tmp i)) 121 :: (fun i => (⟨tm, []⟩ : Act).eval (.tmp i)) 122 :: (fun i => (⟨tm, []⟩ : Act).eval (.tmp i)) 123 :: (fun i => (⟨tm, []⟩ : Act).eval (.tmp i)) 124 :: (fun i => (⟨tm, []⟩ : Act).eval (.tmp i)) 125 :: (fun i => (⟨tm, []⟩ : Act).eval (.tmp i)) 126 :: (fun i => (⟨tm, []⟩ : Act).eval (.tmp i)) 127 :: []).toArray := congrArg Act.tmps e
 exact congrArg (fun t => (⟨t, df⟩ : Act)) e2
def upL (Y : Nat) : Nat → List Int
 | 0 => []
 | k + 1 => upL Y k ++ 4 :: List.replicate Y 5
theorem upL_eq (Y k : Nat) : upL Y k = (List.range k).flatMap fun _ => (4 : Int) :: (List.range Y).map fun _ => 5 := by
 induction k with
 | zero => rfl
 | succ k ih => rw [upL, ih, List.range_succ, List.flatMap_append]; simp [List.map_const']
theorem upL_len {Y : Nat} (h : Y ≤ 6) (k : Nat) : (upL Y k).length ≤ 7 * k := by
 induction k with
 | zero => exact Nat.le_refl _
 | succ k ih => rw [upL, List.length_append, List.length_cons, List.length_replicate]; omega
theorem cntsK_eq (X Y Z : Nat) : cntsK X Y Z = upL Y X ++ List.replicate Z 3 := by
 unfold cntsK
 rw [upL_eq]
 simp [List.map_const']
theorem u8K : ElemK Tryz.prog 22 5 1 := elemK_of u8_inf Tryz.underlying22 (by decide) rfl (by decide)
theorem one_u8 : ∀ x : Int, ∀ u ∈ encK x, u.oneCell' = true := by
 intro x u hu
 rw [List.mem_singleton.1 hu]
 rfl
def AcU (w0 : World) (l : List Int) (v : Value) (w : World) : Prop := OwnL w0.heap.size w 5 1 encK v l ∧ Below w0.heap.size w0 w
theorem AcU.on {w0 w w' : World} {l : List Int} {v : Value} (h : AcU w0 l v w) (hb : Below w.heap.size w w') : AcU w0 l v w' := ⟨h.1.on hb, h.2.trans (hb.mono h.2.size)⟩
theorem AcU.push {w0 w w' : World} {l l2 : List Int} {v v2 : Value} (h : AcU w0 l v w) (ho : OwnL w0.heap.size w' 5 1 encK v2 l2) (hg : w.grownBy w' v.ownBlock) : AcU w0 l2 v2 w' := ⟨ho, h.1.below hg (Nat.le_refl _) h.2 h.2.size⟩
theorem below_drewN (n : Nat) (w : World) (q : Nat) : Below n w (w.drewN q) := ⟨rfl, rfl, rfl, Nat.le_refl _, fun _ _ => rfl⟩
theorem six_wf {n : Nat} (h : n ≤ 6) : (Lit.int .i64 (n : Int)).wf = true := by
 have h2 : n = 0 ∨ n = 1 ∨ n = 2 ∨ n = 3 ∨ n = 4 ∨ n = 5 ∨ n = 6 := by omega
 rcases h2 with rfl | rfl | rfl | rfl | rfl | rfl | rfl <;> decide
theorem rem_six {a : Int} (h : 0 ≤ a) : ∃ x : Nat, x < 6 ∧ Int.tmod a 6 = (x : Int) := by
 refine ⟨(a % 6).toNat, by omega, ?_⟩
 rw [Int.tmod_eq_emod_of_nonneg h]
 omega
set_option maxRecDepth 10000000 in
set_option maxHeartbeats 64000000 in
theorem counts_any (a b c : Int) (ha : 0 ≤ a ∧ a ≤ 255) (hb : 0 ≤ b ∧ b ≤ 255) (hc : 0 ≤ c ∧ c ≤ 255) (w : World) (hn0 : 0 < w.heap.size) (hmx : MxAt w) : Calls Tryz.prog 9 #[.int .u8 a, .int .u8 b, .int .u8 c] w fun o w' => o = .returned (.bool true) ∧ Below w.heap.size w w' := by
 have HMX := Lib.hid hmx
 obtain ⟨x, hx, ex⟩ := rem_six ha.1
 obtain ⟨y, hy, ey⟩ := rem_six hb.1
 obtain ⟨z, hz, ez⟩ := rem_six hc.1
 have hgd := counts_good hx hy hz
 obtain ⟨X, hX⟩ : ∃ X, X = x + 1 := ⟨_, rfl⟩
 obtain ⟨Y, hY⟩ : ∃ Y, Y = y + 1 := ⟨_, rfl⟩
 obtain ⟨Z, hZ⟩ : ∃ Z, Z = z + 1 := ⟨_, rfl⟩
 rw [← hX, ← hY, ← hZ] at hgd
 have HGD := Lib.hid hgd
 have cx : (1 : Int) + x = X := by omega
 have cy : (1 : Int) + y = Y := by omega
 have cz : (1 : Int) + z = Z := by omega
 have hXr : 1 ≤ X ∧ X ≤ 6 := by omega
 have hYr : 1 ≤ Y ∧ Y ≤ 6 := by omega
 have hZr : 1 ≤ Z ∧ Z ≤ 6 := by omega
 have HCX := Lib.hid cx
 have HCY := Lib.hid cy
 have HCZ := Lib.hid cz
 clear hX hY hZ hgd cx cy cz
 clear hmx
 go_enter Tryz.func9, Tryz.ntmps9
 go_wp2_with fail
 refine (awakeU_any w hn0 HMX.out).mono ?_
 rintro o W1 ⟨rfl, hb1⟩
 have HB1 := Lib.hid hb1
 clear hb1
 go_upto_region 4 with fail
 rw [HCX.out, HCY.out, HCZ.out]
 clear ex ey ez hx hy hz HCX HCY HCZ
 go_wp2_with fail
 refine (name_anyU xB W1).mono ?_
 rintro o W2 ⟨rfl, hb2⟩
 have HB2 := Lib.hid (HB1.out.trans (hb2.mono HB1.out.size))
 have hb3 : Below W2.heap.size W2 (W2.alloc (.cells #[.int .u8 5, .string ⟨#[]⟩, .slice none 0 0, .int .i64 0, .slice none 0 0, .slice none 0 0] 43)) := (Below.refl _ _).alloc (Nat.le_refl _) _
 have hr3 : RdTs (W2.alloc (.cells #[.int .u8 5, .string ⟨#[]⟩, .slice none 0 0, .int .i64 0, .slice none 0 0, .slice none 0 0] 43)).heap.size (W2.alloc (.cells #[.int .u8 5, .string ⟨#[]⟩, .slice none 0 0, .int .i64 0, .slice none 0 0, .slice none 0 0] 43)) ⟨some ⟨W2.heap.size, 0, none⟩, 1⟩ [doS 5 []] := ⟨row_one (enc := StmtV.cells) (x := doS 5 []) (World.alloc_heap_new W2 (.cells #[.int .u8 5, .string ⟨#[]⟩, .slice none 0 0, .int .i64 0, .slice none 0 0, .slice none 0 0] 43)), fun t ht => by rw [List.mem_singleton.1 ht]; exact plain_do 5 (by decide)⟩
 have HB3 := Lib.hid (HB2.out.trans (hb3.mono HB2.out.size))
 have HR3 := Lib.hid hr3
 clear hb2 hb3 hr3 HB1 HB2
 go_wp2_with fail
 generalize (W2.alloc (.cells #[.int .u8 5, .string ⟨#[]⟩, .slice none 0 0, .int .i64 0, .slice none 0 0, .slice none 0 0] 43)) = W3 at *
 have HWH := Lib.hid (while_anyU (Y : Int) (six_wf hYr.2) (nameE xB) ⟨some ⟨W2.heap.size, 0, none⟩, 1⟩ [doS 5 []] W3 (name_now _ _ xB_max) HR3.out)
 refine HWH.out.mono ?_
 rintro o W4 ⟨sp, rfl, hin, hb4⟩
 have hbare : bareT (whU sp (nameE xB) Y ⟨some ⟨W2.heap.size, 0, none⟩, 1⟩ [doS 5 []]) = bareT (cntsI Y) := wh_bare Y sp _ rfl
 generalize whU sp (nameE xB) Y ⟨some ⟨W2.heap.size, 0, none⟩, 1⟩ [doS 5 []] = s at *
 have hb5 : Below W4.heap.size W4 (W4.alloc (.cells #[.int .u8 s.kind, .string s.name, .slice s.es.at_ s.exprs.length s.es.cap, .int .i64 s.bound, .slice s.ts.at_ s.thn.length s.ts.cap, .slice s.os.at_ s.els.length s.os.cap] 43)) := (Below.refl _ _).alloc (Nat.le_refl _) _
 have hx5 := World.alloc_heap_new W4 (.cells #[.int .u8 s.kind, .string s.name, .slice s.es.at_ s.exprs.length s.es.cap, .int .i64 s.bound, .slice s.ts.at_ s.thn.length s.ts.cap, .slice s.os.at_ s.els.length s.os.cap] 43)
 have HB4 := Lib.hid (HB3.out.trans (hb4.mono HB3.out.size))
 have HB5 := Lib.hid (HB4.out.trans (hb5.mono HB4.out.size))
 have HX5 := Lib.hid hx5
 have HS5 := Lib.hid (hin.on hb5)
 have HBR := Lib.hid hbare
 clear hb4 hb5 hx5 hin hbare HWH HR3 HB3
 simp only [StmtV.val, Sp.val]
 go_upto_region 5 with fail
 generalize W4.heap.size = b5 at *
 generalize (W4.alloc (.cells #[.int .u8 s.kind, .string s.name, .slice s.es.at_ s.exprs.length s.es.cap, .int .i64 s.bound, .slice s.ts.at_ s.thn.length s.ts.cap, .slice s.os.at_ s.els.length s.os.cap] 43)) = W5 at *
 refine Code.wp_mono ?_ (wp_codeQ (C' := .region 5 opsC5 true) (by kernel_rfl) (cnt5 rfl b5 X Y Z (six_wf hXr.2) (six_wf hZr.2) s rfl rfl rfl HX5.out HS5.out HBR.out))
 rintro e a9 w9 ⟨rfl, hsz9, hd9, hkp, hb9, b9, e11, hb9b, vs, ws, l, hl, hbx, hrd⟩
 obtain ⟨F, hF, hfr⟩ := act_F128 hsz9
 rw [hfr, hd9]
 have g6 : F 6 = .bool false := (hF 6).trans (eval_of (hkp 6 rfl))
 have g7 : F 7 = .int .i64 X := (hF 7).trans (eval_of (hkp 7 rfl))
 have g8 : F 8 = .int .i64 Y := (hF 8).trans (eval_of (hkp 8 rfl))
 have g9 : F 9 = .int .i64 Z := (hF 9).trans (eval_of (hkp 9 rfl))
 have g10 : F 10 = .pointer (some ⟨b5, 0, none⟩) := (hF 10).trans (eval_of (hkp 10 rfl))
 have g11 : F 11 = .pointer (some ⟨b9, 0, none⟩) := (hF 11).trans (eval_of e11)
 rw [g6, g7, g8, g9, g10, g11]
 clear hfr hF g6 g7 g8 g9 g10 g11 e11 hkp hsz9 hd9
 have hx9 := (hb9.block _ (Array.getElem?_eq_some_iff.1 HX5.out).1).trans HX5.out
 obtain ⟨x0, x1, x2, x3, x4, x5⟩ := six_cells hx9
 have hb10 : Below w9.heap.size w9 (w9.alloc (.cells #[.int .u8 s.kind, .string s.name, .slice s.es.at_ s.exprs.length s.es.cap, .int .i64 s.bound, .slice s.ts.at_ s.thn.length s.ts.cap, .slice s.os.at_ s.els.length s.os.cap] 43)) := (Below.refl _ _).alloc (Nat.le_refl _) _
 have hx10 := World.alloc_heap_new w9 (.cells #[.int .u8 s.kind, .string s.name, .slice s.es.at_ s.exprs.length s.es.cap, .int .i64 s.bound, .slice s.ts.at_ s.thn.length s.ts.cap, .slice s.os.at_ s.els.length s.os.cap] 43)
 have hp10 : Bx b9 (w9.alloc (.cells #[.int .u8 s.kind, .string s.name, .slice s.es.at_ s.exprs.length s.es.cap, .int .i64 s.bound, .slice s.ts.at_ s.thn.length s.ts.cap, .slice s.os.at_ s.els.length s.os.cap] 43)) (smU vs ws Sp.none l []) := hbx.on hb10
 have c15 := hp10.cell 15 rfl
 have f15 := hp10.free 15
 have hne : w9.heap.size ≠ b9 := by have := hbx.lt; omega
 have h11 : Bx b9 ((w9.alloc (.cells #[.int .u8 s.kind, .string s.name, .slice s.es.at_ s.exprs.length s.es.cap, .int .i64 s.bound, .slice s.ts.at_ s.thn.length s.ts.cap, .slice s.os.at_ s.els.length s.os.cap] 43)).setCell ⟨b9, 15, none⟩ (.slice (some ⟨w9.heap.size, 0, none⟩) 1 1)) (smU vs ws ⟨some ⟨w9.heap.size, 0, none⟩, 1⟩ l [s]) := hp10.put 15 _ (by simp [smU, ProgV.arr, ProgV.cells, Sp.val])
 have hb11 : Below W5.heap.size W5 ((w9.alloc (.cells #[.int .u8 s.kind, .string s.name, .slice s.es.at_ s.exprs.length s.es.cap, .int .i64 s.bound, .slice s.ts.at_ s.thn.length s.ts.cap, .slice s.os.at_ s.els.length s.os.cap] 43)).setCell ⟨b9, 15, none⟩ (.slice (some ⟨w9.heap.size, 0, none⟩) 1 1)) := (hb9.trans (hb10.mono hb9.size)).setCell (p := ⟨b9, 15, none⟩) hb9b _
 have hs11 : w9.heap.size + 1 = ((w9.alloc (.cells #[.int .u8 s.kind, .string s.name, .slice s.es.at_ s.exprs.length s.es.cap, .int .i64 s.bound, .slice s.ts.at_ s.thn.length s.ts.cap, .slice s.os.at_ s.els.length s.os.cap] 43)).setCell ⟨b9, 15, none⟩ (.slice (some ⟨w9.heap.size, 0, none⟩) 1 1)).heap.size := by simp [World.setCell]
 have oth : ∀ k : Nat, k ≠ b9 → ((w9.alloc (.cells #[.int .u8 s.kind, .string s.name, .slice s.es.at_ s.exprs.length s.es.cap, .int .i64 s.bound, .slice s.ts.at_ s.thn.length s.ts.cap, .slice s.os.at_ s.els.length s.os.cap] 43)).setCell ⟨b9, 15, none⟩ (.slice (some ⟨w9.heap.size, 0, none⟩) 1 1)).heap[k]? = (w9.alloc (.cells #[.int .u8 s.kind, .string s.name, .slice s.es.at_ s.exprs.length s.es.cap, .int .i64 s.bound, .slice s.ts.at_ s.thn.length s.ts.cap, .slice s.os.at_ s.els.length s.os.cap] 43)).heap[k]? := fun k hk => Below.heap_setCell _ _ _ k hk
 have hrd11 : RdP ((w9.alloc (.cells #[.int .u8 s.kind, .string s.name, .slice s.es.at_ s.exprs.length s.es.cap, .int .i64 s.bound, .slice s.ts.at_ s.thn.length s.ts.cap, .slice s.os.at_ s.els.length s.os.cap] 43)).setCell ⟨b9, 15, none⟩ (.slice (some ⟨w9.heap.size, 0, none⟩) 1 1)).heap.size ((w9.alloc (.cells #[.int .u8 s.kind, .string s.name, .slice s.es.at_ s.exprs.length s.es.cap, .int .i64 s.bound, .slice s.ts.at_ s.thn.length s.ts.cap, .slice s.os.at_ s.els.length s.os.cap] 43)).setCell ⟨b9, 15, none⟩ (.slice (some ⟨w9.heap.size, 0, none⟩) 1 1)) (smU vs ws ⟨some ⟨w9.heap.size, 0, none⟩, 1⟩ l [s]) := by
   have h1 := (mask_keeps hrd (w' := (w9.alloc (.cells #[.int .u8 s.kind, .string s.name, .slice s.es.at_ s.exprs.length s.es.cap, .int .i64 s.bound, .slice s.ts.at_ s.thn.length s.ts.cap, .slice s.os.at_ s.els.length s.os.cap] 43)).setCell ⟨b9, 15, none⟩ (.slice (some ⟨w9.heap.size, 0, none⟩) 1 1)) fun q hq hn => (World.cell?_of_block (oth q.block hn)).trans (hb10.cell hq)).unmask
   have hle : w9.heap.size ≤ ((w9.alloc (.cells #[.int .u8 s.kind, .string s.name, .slice s.es.at_ s.exprs.length s.es.cap, .int .i64 s.bound, .slice s.ts.at_ s.thn.length s.ts.cap, .slice s.os.at_ s.els.length s.os.cap] 43)).setCell ⟨b9, 15, none⟩ (.slice (some ⟨w9.heap.size, 0, none⟩) 1 1)).heap.size := by omega
   have h2 := h1.more hle
   refine ⟨h2.blocks, h2.width, h2.inputs, h2.ghosts, h2.vars, h2.arrays, h2.require, h2.irow, h2.inits, h2.prow, h2.procs, h2.work, ⟨?_, fun t ht => ?_⟩, h2.invariant⟩
   · refine RowOf.more (row_one (enc := StmtV.cells) (x := s) (W := ((w9.alloc (.cells #[.int .u8 s.kind, .string s.name, .slice s.es.at_ s.exprs.length s.es.cap, .int .i64 s.bound, .slice s.ts.at_ s.thn.length s.ts.cap, .slice s.os.at_ s.els.length s.os.cap] 43)).setCell ⟨b9, 15, none⟩ (.slice (some ⟨w9.heap.size, 0, none⟩) 1 1))) (b := w9.heap.size) (t := 43) (fr := (0, 0)) ((oth _ hne).trans hx10)) (Nat.le_refl _)
   · rw [List.mem_singleton.1 ht]
     exact HS5.out.on hb11
 have hbp : bareP (smU vs ws ⟨some ⟨w9.heap.size, 0, none⟩, 1⟩ l [s]) = bareP (cntsB X Y Z) := (smU_bare _ _ _ _ _).trans (smB_same hl (by rw [List.map_cons, List.map_cons, HBR.out]))
 have HB11 := Lib.hid (HB5.out.trans (hb11.mono HB5.out.size))
 have HX11 := Lib.hid h11
 have HR11 := Lib.hid hrd11
 have HRDY : Hid (ReadyP (smU vs ws ⟨some ⟨w9.heap.size, 0, none⟩, 1⟩ l [s]) ∧ weightU (smU vs ws ⟨some ⟨w9.heap.size, 0, none⟩, 1⟩ l [s]) ≤ 20000 ∧ depthU (smU vs ws ⟨some ⟨w9.heap.size, 0, none⟩, 1⟩ l [s]) = max ((X : Int) + max ((Y : Int) + 2) 2) ((Z : Int) + 2) ∧ opsK (unTs (smU vs ws ⟨some ⟨w9.heap.size, 0, none⟩, 1⟩ l [s]).work) = cntsK X Y Z ∧ passesN (unTs (smU vs ws ⟨some ⟨w9.heap.size, 0, none⟩, 1⟩ l [s]).work) = X + 2 ∧ passesN (unTs (smU vs ws ⟨some ⟨w9.heap.size, 0, none⟩, 1⟩ l [s]).recover) = 1) := by
   have hw := work_same hbp
   refine Lib.hid ⟨HGD.out.ready.same hbp, by rw [weightU_same hbp]; exact HGD.out.weight, by rw [depthU_same hbp]; exact HGD.out.depth, ?_, ?_, ?_⟩
   · rw [opsK_same (uns_same hw.1)]; exact HGD.out.ops
   · rw [passesN_same (uns_same hw.1)]; exact HGD.out.pass
   · rw [passesN_same (uns_same hw.2)]; exact HGD.out.recv
 clear hx9 hb10 hx10 hp10 hne h11 hb11 hs11 oth hrd11 hbp hb9 hl hbx hrd HGD
 go_upto_region 7 with fail
 clear x0 x1 x2 x3 x4 x5 c15 f15
 obtain ⟨p, hp⟩ : ∃ p, p = (smU vs ws ⟨some ⟨w9.heap.size, 0, none⟩, 1⟩ l [s]) := ⟨_, rfl⟩
 rw [← hp] at HX11 HR11 HRDY
 have hpi : p.inits = [] := by rw [hp]; rfl
 clear hp
 generalize (w9.alloc (.cells #[.int .u8 s.kind, .string s.name, .slice s.es.at_ s.exprs.length s.es.cap, .int .i64 s.bound, .slice s.ts.at_ s.thn.length s.ts.cap, .slice s.os.at_ s.els.length s.os.cap] 43)).setCell ⟨b9, 15, none⟩ (.slice (some ⟨w9.heap.size, 0, none⟩) 1 1) = W11 at *
 have HPI := Lib.hid hpi
 clear hpi
 have hn11 : 0 < W11.heap.size := Nat.lt_of_lt_of_le hn0 HB11.out.size
 have HM11 := Lib.hid (HMX.out.below HB11.out hn0)
 have HD : Hid (weightU p ≤ 20000 ∧ depthU p ≤ 1000) := Lib.hid ⟨HRDY.out.2.1, by rw [HRDY.out.2.2.1]; omega⟩
 have HC := Lib.hid (ops_any W11 p HR11.out hn11 HM11.out HRDY.out.1 HPI.out HD.out.1 HD.out.2)
 go_wp2_with (first | (refine wpList_load_row rfl 35 _ rfl b9 rfl 35 p.arr (0, 0) _ HX11.out Tryz.underlying35 rfl (arr_size _) ?_) | fail)
 refine HC.out.mono ?_
 rintro o W12 ⟨sq, rfl, hrow, hb⟩
 rw [HRDY.out.2.2.2.1] at hrow ⊢
 have HX12 := Lib.hid ((hb.block _ (Array.getElem?_eq_some_iff.1 HX11.out).1).trans HX11.out)
 have HRW := Lib.hid hrow
 have HB12 := Lib.hid (Below.refl W12.heap.size W12)
 have HLOW := Lib.hid (HB11.out.trans (hb.mono HB11.out.size))
 have hn12 : 0 < W12.heap.size := Nat.lt_of_lt_of_le hn11 hb.size
 have HM12 := Lib.hid (HM11.out.below hb hn11)
 have HR12 := Lib.hid (HR11.out.on hb)
 clear hrow hb HC HX11 HR11 HM11
 have HC := Lib.hid (by have h := passes_any W12 p HR12.out hn12 HM12.out HRDY.out.1 HPI.out HD.out.1 HD.out.2; rw [HRDY.out.2.2.2.2.1, HRDY.out.2.2.2.2.2] at h; exact h)
 go_wp2_with (first | (refine wpList_load_row rfl 35 _ rfl b9 rfl 35 p.arr (0, 0) _ HX12.out Tryz.underlying35 rfl (arr_size _) ?_) | fail)
 refine HC.out.mono ?_
 rintro o W13 ⟨rfl, hb⟩
 have HX13 := Lib.hid ((hb.block _ (Array.getElem?_eq_some_iff.1 HX12.out).1).trans HX12.out)
 have HB13 := Lib.hid (HB12.out.trans (hb.mono HB12.out.size))
 clear hb HC HX12
 have HC := Lib.hid (by have h := depthU_any W13 p (HR12.out.on HB13.out) (Nat.lt_of_lt_of_le hn12 HB13.out.size) HRDY.out.1.names HRDY.out.1.weight (HM12.out.below HB13.out hn12) HRDY.out.1.right HRDY.out.1.chk HRDY.out.1.len HRDY.out.1.heft; have e : max (min (dpTs p.work 0) 1001) (min (dpTs p.recover 0) 1001) = max ((X : Int) + max ((Y : Int) + 2) 2) ((Z : Int) + 2) := HRDY.out.2.2.1; rw [e] at h; exact h)
 go_wp2_with (first | (refine wpList_load_row rfl 35 _ rfl b9 rfl 35 p.arr (0, 0) _ HX13.out Tryz.underlying35 rfl (arr_size _) ?_) | fail)
 refine HC.out.mono ?_
 rintro o W14 ⟨rfl, hb⟩
 have HB14 := Lib.hid (HB13.out.trans (hb.mono HB13.out.size))
 clear hb HC HX13 HB12 HB13
 go_wp2_with fail
 have hac0 : AcU W14 (upL Y 0) (.slice none 0 0) W14 := ⟨OwnL.nil, Below.refl _ _⟩
 go_loopw [105, 19] (fun i v wr => ∃ k : Nat, k ≤ X ∧ i = .int .i64 k ∧ AcU W14 (upL Y k) v wr) (fun i _ _ => X - (intOf i).toNat)
 case atStart => exact ⟨0, Nat.zero_le _, rfl, hac0⟩
 case round =>
   clear hac0
   obtain ⟨k, hk, rfl, hac⟩ := hrel
   obtain ⟨wo, rfl⟩ : ∃ wo, wo = wr := ⟨wr, rfl⟩
   obtain ⟨A1, c1, rfl⟩ := hac.1.form
   have HAC := Lib.hid hac
   have HLEN := Lib.hid (upL_len hYr.2 k)
   clear hac
   have hk0 : (0 : Int) ≤ (k : Int) := Int.natCast_nonneg _
   by_cases hlt : k < X
   · have hk1 : (k : Int) < (X : Int) := by omega
     have hba : Below wo.heap.size wo (wo.alloc (.cells #[.int .u8 4] 5)) := (Below.refl _ _).alloc (Nat.le_refl _) _
     have HA := Lib.hid (HAC.out.on hba)
     have HRS := Lib.hid (row_one (enc := encK) (x := (4 : Int)) (k := 1) (World.alloc_heap_new wo (.cells #[.int .u8 4] 5)))
     have HLN : Hid ((upL Y k).length + 1 ≤ 1000000) := Lib.hid (by have := HLEN.out; omega)
     clear hba HAC
     go_wp2_with (first | (at_builtin; refine wpList_append_row rfl (.tmp 107) (.tmp 108) 22 rfl u8K (fun _ => rfl) one_u8 _ (upL Y k) rfl HA.out.1 ⟨some ⟨wo.heap.size, 0, none⟩, 1⟩ [4] rfl HRS.out HLN.out HA.out.2.size ?_) | fail)
     intro v2 wz hown2 hg2 hat2
     have hac := HA.out.push hown2 hg2
     obtain ⟨A2, c2, rfl⟩ := hown2.form
     obtain ⟨cu2, hcu2⟩ : ∃ cu2, cu2 = upL Y k ++ [(4 : Int)] := ⟨_, rfl⟩
     rw [← hcu2] at hac ⊢
     have HAC := Lib.hid hac
     have HCU2 := Lib.hid hcu2
     clear hown2 hg2 hat2 hac HRS HLN HA hcu2
     go_wp2_with fail
     have h0 : AcU W14 (upL Y k ++ 4 :: List.replicate 0 5) (.slice A2 cu2.length c2) wz := by
       rw [show upL Y k ++ 4 :: List.replicate 0 5 = cu2 from HCU2.out.symm]
       exact HAC.out
     clear HAC HLEN HCU2
     go_loopw [111, 19] (fun i v wr => ∃ j : Nat, j ≤ Y ∧ i = .int .i64 j ∧ AcU W14 (upL Y k ++ 4 :: List.replicate j 5) v wr) (fun i _ _ => Y - (intOf i).toNat)
     case atStart => exact ⟨0, Nat.zero_le _, rfl, h0⟩
     case round =>
       clear h0
       obtain ⟨j, hj, rfl, hac⟩ := hrel
       obtain ⟨wp, rfl⟩ : ∃ wp, wp = wr := ⟨wr, rfl⟩
       obtain ⟨A3, c3, rfl⟩ := hac.1.form
       have HAC := Lib.hid hac
       have HLEN : Hid ((upL Y k ++ 4 :: List.replicate j 5).length ≤ 100) := Lib.hid (by rw [List.length_append, List.length_cons, List.length_replicate]; have := upL_len hYr.2 k; omega)
       clear hac
       have hj0 : (0 : Int) ≤ (j : Int) := Int.natCast_nonneg _
       by_cases hlt2 : j < Y
       · have hj1 : (j : Int) < (Y : Int) := by omega
         obtain ⟨cu, hcu⟩ : ∃ cu, cu = upL Y k ++ 4 :: List.replicate j 5 := ⟨_, rfl⟩
         rw [← hcu] at HAC HLEN ⊢
         have HCU := Lib.hid hcu
         clear hcu
         have hba : Below wp.heap.size wp (wp.alloc (.cells #[.int .u8 5] 5)) := (Below.refl _ _).alloc (Nat.le_refl _) _
         have HA := Lib.hid (HAC.out.on hba)
         have HRS := Lib.hid (row_one (enc := encK) (x := (5 : Int)) (k := 1) (World.alloc_heap_new wp (.cells #[.int .u8 5] 5)))
         have HLN : Hid ((cu).length + 1 ≤ 1000000) := Lib.hid (by have := HLEN.out; omega)
         clear hba HAC
         go_wp2_with (first | (at_builtin; refine wpList_append_row rfl (.tmp 113) (.tmp 114) 22 rfl u8K (fun _ => rfl) one_u8 _ (cu) rfl HA.out.1 ⟨some ⟨wp.heap.size, 0, none⟩, 1⟩ [5] rfl HRS.out HLN.out HA.out.2.size ?_) | fail)
         intro v2 wz hown2 hg2 hat2
         have hac := HA.out.push hown2 hg2
         obtain ⟨A2, c2, rfl⟩ := hown2.form
         obtain ⟨cu2, hcu2⟩ : ∃ cu2, cu2 = cu ++ [(5 : Int)] := ⟨_, rfl⟩
         rw [← hcu2] at hac ⊢
         have HAC := Lib.hid hac
         have HCU2 := Lib.hid hcu2
         clear hown2 hg2 hat2 hac HRS HLN HA hcu2
         have HF : Hid (cu2 = upL Y k ++ 4 :: List.replicate (j + 1) 5) := Lib.hid (by rw [HCU2.out, HCU.out, List.replicate_succ', List.append_assoc, List.cons_append])
         clear HLEN HCU HCU2
         go_wp2_with fail
         go_roundw
         case rel => exact ⟨j + 1, by omega, by go_num, by rw [← HF.out]; exact HAC.out⟩
         case measure => simp [intOf]; omega
       · obtain rfl : j = Y := by omega
         clear HLEN
         go_wp2_with fail
         go_roundw
         case rel =>
           refine ⟨k + 1, by omega, ?_, ?_⟩
           · go_num
           · exact HAC.out
         case measure => simp [intOf]; omega
   · obtain rfl : k = X := by omega
     go_wp2_with fail
     have h0 : AcU W14 (upL Y k ++ List.replicate 0 3) (.slice A1 (upL Y k).length c1) wo := by
       have h := HAC.out
       rw [List.replicate_zero, List.append_nil]
       exact h
     clear HAC HLEN
     go_loopw [119, 19] (fun i v wr => ∃ j : Nat, j ≤ Z ∧ i = .int .i64 j ∧ AcU W14 (upL Y k ++ List.replicate j 3) v wr) (fun i _ _ => Z - (intOf i).toNat)
     case atStart => exact ⟨0, Nat.zero_le _, rfl, h0⟩
     case round =>
       clear h0
       obtain ⟨j, hj, rfl, hac⟩ := hrel
       obtain ⟨wp, rfl⟩ : ∃ wp, wp = wr := ⟨wr, rfl⟩
       obtain ⟨A3, c3, rfl⟩ := hac.1.form
       have HAC := Lib.hid hac
       have HLEN : Hid ((upL Y k ++ List.replicate j 3).length ≤ 100) := Lib.hid (by rw [List.length_append, List.length_replicate]; have := upL_len hYr.2 k; omega)
       clear hac
       have hj0 : (0 : Int) ≤ (j : Int) := Int.natCast_nonneg _
       by_cases hlt2 : j < Z
       · have hj1 : (j : Int) < (Z : Int) := by omega
         obtain ⟨cu, hcu⟩ : ∃ cu, cu = upL Y k ++ List.replicate j 3 := ⟨_, rfl⟩
         rw [← hcu] at HAC HLEN ⊢
         have HCU := Lib.hid hcu
         clear hcu
         have hba : Below wp.heap.size wp (wp.alloc (.cells #[.int .u8 3] 5)) := (Below.refl _ _).alloc (Nat.le_refl _) _
         have HA := Lib.hid (HAC.out.on hba)
         have HRS := Lib.hid (row_one (enc := encK) (x := (3 : Int)) (k := 1) (World.alloc_heap_new wp (.cells #[.int .u8 3] 5)))
         have HLN : Hid ((cu).length + 1 ≤ 1000000) := Lib.hid (by have := HLEN.out; omega)
         clear hba HAC
         go_wp2_with (first | (at_builtin; refine wpList_append_row rfl (.tmp 121) (.tmp 122) 22 rfl u8K (fun _ => rfl) one_u8 _ (cu) rfl HA.out.1 ⟨some ⟨wp.heap.size, 0, none⟩, 1⟩ [3] rfl HRS.out HLN.out HA.out.2.size ?_) | fail)
         intro v2 wz hown2 hg2 hat2
         have hac := HA.out.push hown2 hg2
         obtain ⟨A2, c2, rfl⟩ := hown2.form
         obtain ⟨cu2, hcu2⟩ : ∃ cu2, cu2 = cu ++ [(3 : Int)] := ⟨_, rfl⟩
         rw [← hcu2] at hac ⊢
         have HAC := Lib.hid hac
         have HCU2 := Lib.hid hcu2
         clear hown2 hg2 hat2 hac HRS HLN HA hcu2
         have HF : Hid (cu2 = upL Y k ++ List.replicate (j + 1) 3) := Lib.hid (by rw [HCU2.out, HCU.out, List.replicate_succ', List.append_assoc])
         clear HLEN HCU HCU2
         go_wp2_with fail
         go_roundw
         case rel =>
           refine ⟨j + 1, by omega, ?_, ?_⟩
           · go_num
           · rw [← HF.out]; exact HAC.out
         case measure => simp [intOf]; omega
       · obtain rfl : j = Z := by omega
         have hcl := HLEN.out
         rw [← cntsK_eq] at HAC hcl ⊢
         have HLC := Lib.hid hcl
         obtain ⟨sr, esr, hsr, -⟩ := HAC.out.1.row (fun _ => rfl) (by omega)
         have hA : A3 = sr.at_ ∧ c3 = sr.cap := by unfold Sp.val at esr; injection esr with q1 q2 q3; exact ⟨q1, q3⟩
         obtain ⟨rfl, rfl⟩ := hA
         have HEQ := Lib.hid (equalU_any wp sq sr (cntsK k Y j) (((HRW.out.below HB14.out).more HB14.out.size).below HAC.out.2 |>.more HAC.out.2.size) hsr (by omega))
         have HLOW2 := Lib.hid (HLOW.out.trans ((HB14.out.trans (HAC.out.2.mono HB14.out.size)).mono HLOW.out.size))
         clear HLEN hcl esr hsr HAC
         go_wp2_with fail
         refine HEQ.out.mono ?_
         rintro o wf ⟨rfl, qd, rfl⟩
         go_wp2_with fail
         go_ret
         exact ⟨rfl, HLOW2.out.trans (below_drewN _ _ _)⟩
end Go.Proofs.YtepacjkacjabbaaGreatDoor
namespace Go.Proofs.YtepacjkacjabbaaGreatDoor
open Go Go.RowKit Go.Maps
theorem MxAt.pos {W : World} (h : MxAt W) : 0 < W.heap.size := by
 obtain ⟨m, hm⟩ := h
 rcases Nat.eq_zero_or_pos W.heap.size with h0 | h0
 · have : W.heap[0]? = none := by simp [h0]
   simp [World.cell?, this] at hm
 · exact h0
theorem MxAt.shaped {W : World} (h : W.ShapedOpen Tryz.prog) : MxAt W := Tryz.laysM144.s1_3 W h
theorem string_reach {H : Type} {P : Program} {t : TypeId} {ts : List TypeId} {s : ByteArray} {r : List (DataW H)} (h : (DataW.weightsEach P (t :: ts) (DataW.lit (.string s.data.toList) :: r)).all (· ≤ reachBytes) = true) : s.size ≤ 140737488355328 := by
 simp only [DataW.weightsEach, DataW.weights, List.cons_append, List.nil_append, List.all_cons, Bool.and_eq_true, decide_eq_true_eq] at h
 have h1 := h.1
 have : s.data.toList.length = s.size := by simp
 rw [this] at h1
 unfold reachBytes at h1
 omega
end Go.Proofs.YtepacjkacjabbaaGreatDoor
namespace Go.Proofs.YtepacjkacjabbaaGreatDoor
open Go Go.RowKit Go.WideShapes Go.ChangeShapes
section
variable {H : Type} {enc : TypeId × Value → H} {P : Program}
theorem post_below {f : Func} {s : ChangeSpec} {apart fresh handsOn again : Bool} {W W' : World} {args : Array Value} {v : Value} {ds gs : List (DataW H)} {bf pa pv : List MemPlace}
   (hW : DataW.Whole enc P f.params.toList s.vars apart W args.toList ds gs bf)
   (hres : ∀ (b : Nat) (sp : Nat → Bool) (hd : Bool), DataW.TrodAll enc P W' b sp hd f.resultTypes.toList (v.resultList f.resultTypes.size) (s.fn H (ds ++ gs)).results [])
   (hargs : ∀ sp : Nat → Bool, (∀ x ∈ bf, sp x.block = true) → DataW.TrodAll enc P W' 0 sp true f.params.toList args.toList (s.fn H (ds ++ gs)).args pa)
   (hvars : ∀ sp : Nat → Bool, (∀ x ∈ bf, sp x.block = true) → DataW.TrodVars enc P W' sp s.vars (s.fn H (ds ++ gs)).vars pv)
   (hps : bf = pa ++ pv) (hb : Below W.heap.size W W')
   (hok : ∀ (j : Nat) (t : TypeId) (r : Value), f.resultTypes[j]? = some t → (v.resultList f.resultTypes.size)[j]? = some r → Value.okWide P W' .any 0 t r) :
   s.post enc P f apart fresh handsOn again W args v W' := by
 have hlt : ∀ x ∈ bf, x.block < W.heap.size := fun x hx => hW.lt x hx
 have hold : ∀ x ∈ bf, (fun b => decide (b < W.heap.size)) x.block = true := fun x hx => by simpa using hlt x hx
 refine ⟨ds, gs, bf, [], pa, pv, hW, hres _ _ _, hargs _ hold, hvars _ hold, World.keptBut_mono (fun x hx => ⟨hx, ?_⟩) (hb.frame (· ∈ bf)), fun _ => ?_⟩
 · rw [hps, List.mem_append] at hx
   exact Or.inr hx
 · obtain ⟨_, _, _, _, _, hz, hn⟩ := hW
   refine ⟨hok, _, _, ([] ++ pa) ++ pv, ⟨[] ++ pa, pv, trodAll_append (hargs _ (fun _ _ => rfl)) (hres _ _ _), hvars _ (fun _ _ => rfl), rfl, ?_, ?_⟩, ?_⟩
   · intro b off hx
     have hin : MemPlace.cell b off ∈ bf := by rw [hps]; simpa using hx
     rw [hb.frozen (hlt _ hin)]
     exact hz b off hin
   · intro ha
     have := hn ha
     rw [hps] at this
     simpa using this
   · intro x hx _
     rw [hps]
     simpa using hx
end
end Go.Proofs.YtepacjkacjabbaaGreatDoor
