/- slices.SortStableFunc at []reduce.Info with reduce's own order: a sorted permutation. -/
import Derived.Test.YtcpcoomkapblcaaStabB
import Derived.Test.YtcpcoomkapblcaaStabC
import Derived.Test.YtcpcoomkapblcaaStabD
import Derived.Test.YtcpcoomkapblcaaStabP
import Derived.Test.YtcpcoomkapblcaaSortI
import Derived.Shelf.SlSortCmp.PdqK
namespace Go.Proofs.Ytcpcoomkapblcaa
open Go Go.Shelf Go.RowKit Go.Lib Go.Sort
section
variable {P : Program} {α : Type} [Inhabited α]
theorem symMerge_all {k : Nat} (L : HostK P k) (F97 : P.funcs[97]? = some Try.f97) (F106 : P.funcs[106]? = some Try.f106) (FG : P.funcs[90]? = some Try.f90) (enc : α → List Value) (cf : α → α → Int) (hS : SWO (ltOf cf)) (g : Nat) (cb : Array Value) (blk off cap : Nat) (d0 : Array α) (w0 : World)
    (eg : ∀ args w, (callFunc g args).run P w = .ok (.enter g args) w) (hcmp : CmpLays P g cb enc k cf blk off d0.size w0) (R : RowK enc k w0 blk off d0) (K : Nat) :
    ∀ (a m b : Nat) (d : Array α) (w : World), b - a < K → d0.size = d.size → SWK enc k w0 blk off d w → a < m → m < b → b ≤ d.size → d.size < 4611686018427387904 → SortedIn (ltOf cf) a m d → SortedIn (ltOf cf) m b d →
      Calls P 90 #[.slice (some ⟨blk, off, none⟩) d.size cap, .int .i64 a, .int .i64 m, .int .i64 b, .func (.func g) #[] cb] w fun e w' => e = .returned (.tuple #[]) ∧ ∃ d', PermIn a b d d' ∧ SortedIn (ltOf cf) a b d' ∧ SWK enc k w0 blk off d' w' := by
  induction K with
  | zero => intro a m b d w h; omega
  | succ K ih =>
    intro a m b d w hK hs S ham hmb hb hsz s1 s2
    by_cases h1 : m = a + 1
    · subst h1
      rw [show ((a + 1 : Nat) : Int) = (a : Int) + 1 by omega]
      exact symMerge_left L FG enc cf hS g cb blk off cap a b d0 d w0 w eg hcmp R hs S hmb hb hsz s2
    · by_cases h2 : b = m + 1
      · subst h2
        rw [show ((m + 1 : Nat) : Int) = (m : Int) + 1 by omega]
        exact symMerge_right L FG enc cf hS g cb blk off cap a m d0 d w0 w eg hcmp R hs S (by omega) (by omega) hsz s1
      · exact symMerge_mid L F97 F106 FG enc cf hS g cb blk off cap a m b d0 d w0 w eg hcmp R hs S (by omega) (by omega) hb hsz s1 s2
          (fun a' m' b' d' w' q1 q2 q3 q4 q5 q6 q7 q8 => ih a' m' b' d' w' (by omega) q2 q3 q4 q5 q6 (by omega) q7 q8)
end
theorem hostTry : HostK Try.prog 3 where
  mixed := by kernel_rfl
  t3 := Try.underlying3
  a3 := fun w => by kernel_rfl
  z3 := fun w => by kernel_rfl
  v3 := fun w => by kernel_rfl
  t4 := Try.underlying4
  a4 := fun w => by kernel_rfl
  z4 := fun w => by kernel_rfl
  v4 := fun w => by kernel_rfl
  t112 := Try.underlying112
  a112 := fun w => by kernel_rfl
  z112 := fun w => by kernel_rfl
  v112 := fun w => by kernel_rfl
  t29 := Try.underlying29
  a29 := fun w => by kernel_rfl
  z29 := fun w => by kernel_rfl
  v29 := fun w => by kernel_rfl
  a32 := fun w => by kernel_rfl
  z32 := fun w => by kernel_rfl
  t89 := Try.underlying89
  a89 := fun w => by kernel_rfl
  z89 := fun w => by kernel_rfl
  v89 := fun w => by kernel_rfl
theorem eg51 : ∀ args w, (callFunc 51 args).run Try.prog w = .ok (.enter 51 args) w := enters_of Try.func51 (by kernel_rfl) rfl
theorem merge_any (blk off cap a m b : Nat) (d0 d : Array Inf) (w0 w : World) (R : RowK Inf.enc 3 w0 blk off d0) (hs : d0.size = d.size) (S : SWK Inf.enc 3 w0 blk off d w) (ham : a < m) (hmb : m < b) (hb : b ≤ d.size) (hsz : d.size < 4611686018427387904)
    (s1 : SortedIn (ltOf cf) a m d) (s2 : SortedIn (ltOf cf) m b d) :
    Calls Try.prog 90 #[.slice (some ⟨blk, off, none⟩) d.size cap, .int .i64 a, .int .i64 m, .int .i64 b, .func (.func 51) #[] #[]] w fun e w' => e = .returned (.tuple #[]) ∧ ∃ d', PermIn a b d d' ∧ SortedIn (ltOf cf) a b d' ∧ SWK Inf.enc 3 w0 blk off d' w' :=
  symMerge_all hostTry Try.func97 Try.func106 Try.func90 Inf.enc cf swo_cf 51 #[] blk off cap d0 w0 eg51 (cmpLays blk off d0.size w0) R (b - a + 1) a m b d w (by omega) hs S ham hmb hb hsz s1 s2
theorem insert_any (blk off cap a b : Nat) (d0 d : Array Inf) (w0 w : World) (R : RowK Inf.enc 3 w0 blk off d0) (hs : d0.size = d.size) (S : SWK Inf.enc 3 w0 blk off d w) (hab : a ≤ b) (hb : b ≤ d.size) (hsz : d.size < 4611686018427387904) :
    Calls Try.prog 89 #[.slice (some ⟨blk, off, none⟩) d.size cap, .int .i64 a, .int .i64 b, .func (.func 51) #[] #[]] w fun e w' => e = .returned (.tuple #[]) ∧ ∃ d', PermIn a b d d' ∧ SortedIn (ltOf cf) a b d' ∧ SWK Inf.enc 3 w0 blk off d' w' :=
  (AnyQ.insertionSortCmpFunc_w Try.insInf 3 Try.isAgg32 Try.sizeOf32 Inf.enc cf 51 #[] blk off cap a b d0 d w0 w eg51 (cmpLays blk off d0.size w0) R hs S swo_cf hab hb hsz).mono
    fun _ _ ⟨he, hS⟩ => ⟨he, _, (insertionSort_holds swo_cf d a b hab hb).1, (insertionSort_holds swo_cf d a b hab hb).2, hS⟩
end Go.Proofs.Ytcpcoomkapblcaa
