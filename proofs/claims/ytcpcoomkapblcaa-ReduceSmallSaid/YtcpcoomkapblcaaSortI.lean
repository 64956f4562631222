import Derived.Test.YtcpcoomkapblcaaCmp
import Derived.Test.YtcpcoomkapblcaaCalls
import Derived.Test.YtcpcoomkapblcaaShelf
open Go Go.RowKit Go.Maps
namespace Go.Proofs.Ytcpcoomkapblcaa
open Go.Sort Go.Lib Go.Shelf
instance : Inhabited Inf := ⟨⟨0, 0, 0⟩⟩
def cf (x y : Inf) : Int := cmpInf x.id x.lev x.used y.id y.lev y.used
/-- x is better than y. -/
def bt (x y : Inf) : Bool := if x.lev = y.lev then (if x.used = y.used then decide (y.id < x.id) else decide (y.used < x.used)) else decide (x.lev < y.lev)
theorem lt_cf (x y : Inf) : ltOf cf x y = bt x y := by
  unfold ltOf cf cmpInf cmpI bt
  repeat' split
  all_goals (first | rfl | (simp; done) | (simp; omega) | (exfalso; omega))
theorem swo_cf : SWO (ltOf cf) where
  irrefl x := by rw [lt_cf]; simp [bt]
  trans x y z h1 h2 := by
    rw [lt_cf] at *
    unfold bt at *
    split at h1 <;> split at h2 <;> (try split at h1) <;> (try split at h2) <;> (repeat' split) <;> simp at * <;> omega
  ntrans x y z h1 h2 := by
    rw [lt_cf] at *
    unfold bt at *
    split at h1 <;> split at h2 <;> (try split at h1) <;> (try split at h2) <;> (repeat' split) <;> simp at * <;> omega
theorem tot_cf (x y : Inf) (h1 : ltOf cf x y = false) (h2 : ltOf cf y x = false) : x = y := by
  rw [lt_cf] at *
  cases x; cases y
  unfold bt at *
  simp only [] at *
  split at h1 <;> split at h2 <;> (try split at h1) <;> (try split at h2) <;> simp at * <;> omega
/-- Better ones first. -/
def sortI (T : List Inf) : List Inf := T.mergeSort fun x y => !bt y x
theorem cmpLays (blk off size : Nat) (w : World) : CmpLays Try.prog 51 #[] Inf.enc 3 cf blk off size w := fun _ _ _ _ x y =>
  (compare_any x.id x.lev x.used y.id y.lev y.used _).mono fun _ _ ⟨he, q, os', hw⟩ => ⟨he, q, os', hw⟩
theorem enc1 (x : Inf) : ∀ v ∈ Inf.enc x, v.oneCell' = true := fun v hv => by
  simp [Inf.enc] at hv
  rcases hv with rfl | rfl | rfl <;> rfl
theorem sortFunc_any (blk off cap : Nat) (d : Array Inf) (w : World) (hH : HoldsK Inf.enc 3 w blk off d) (hblk : blk < w.heap.size) (hsz : d.size < 4611686018427387904) :
    Calls Try.prog 78 #[.slice (some ⟨blk, off, none⟩) d.size cap, .func (.func 51) #[] #[]] w fun e w' => e = .returned (.tuple #[]) ∧ ∃ n os, w' = sortWorldK Inf.enc 3 w blk off n (sortI d.toList).toArray os := by
  have eg : ∀ args w, (callFunc 51 args).run Try.prog w = .ok (.enter 51 args) w := enters_of Try.func51 (by kernel_rfl) rfl
  have h := AnyQ.slices_SortFunc_total Try.sortInf 3 Try.isAgg32 Try.sizeOf32 Inf.enc (fun _ => rfl) enc1 cf swo_cf 51 #[] blk off cap d w eg (cmpLays blk off d.size w) hH hblk hsz tot_cf
  simp only [lt_cf] at h
  exact h
theorem sortFunc_none (p : Option Addr) (cap : Nat) (w : World) : Calls Try.prog 78 #[.slice p 0 cap, .func (.func 51) #[] #[]] w fun e w' => e = .returned (.tuple #[]) ∧ w' = w :=
  AnyF.slices_SortFunc_none Try.sortInf p cap _ w
end Go.Proofs.Ytcpcoomkapblcaa
