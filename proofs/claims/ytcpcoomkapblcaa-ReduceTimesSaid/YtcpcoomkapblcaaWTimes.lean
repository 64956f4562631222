import Derived.Test.YtcpcoomkapblcaaTimesC
import Derived.Test.YtcpcoomkapblcaaAwake
open Go Go.RowKit
namespace Go.Proofs.Ytcpcoomkapblcaa
set_option maxRecDepth 1000000 in
theorem reduceTimes_any (a b c : Int) (w : World) : Calls Try.prog 3 #[.int .i64 a, .int .i64 b, .int .i64 c] w fun e w' => e = .returned (.bool true) ∧ Below w.heap.size w w' := by
  by_cases h : c < 300
  all_goals
    have ht := fun x hx w => times_any a b x hx w
    go_enter Try.func3, Try.ntmps3
    go_wp2_with fail
    refine (times_any a b _ (by omega) _).mono ?_
    rintro e w1 ⟨rfl, hb1⟩
    go_wp2_with fail
    refine (awake_any _).mono ?_
    rintro e w2 ⟨rfl, hb2⟩
    go_wp2_with fail
    go_ret
    exact ⟨rfl, hb1.trans (hb2.mono hb1.size)⟩
end Go.Proofs.Ytcpcoomkapblcaa
