/- ChunkNobody: a nil box takes nothing. -/
import Derived.Test.YtdomngcedflapaaBox
import Derived.Test.YtdomngcedflapaaPChunkx5
import Derived.Test.YtdomngcedflapaaCut
namespace Go.Proofs.YtdomngcedflapaaW.Nobody
open Go.RowKit Go.Proofs.Ytdomngcedflapaa Go.Proofs.YtdomngcedflapaaW.PrintWords Go.Proofs.YtdomngcedflapaaW.PrintLast Go.Proofs.YtdomngcedflapaaW.PrintMore
open Go.Proofs.YtdomngcedflapaaW.Mine Go.Proofs.YtdomngcedflapaaW.Box

theorem awake_calls (w : World) : Calls Try.prog 27 #[] w fun e w' => e = .returned (.bool true) ∧ Below w.heap.size w w' := by
  obtain ⟨k, hk⟩ := Ev.rounds Cut.awake_eq
  exact PChunk.barquelaw13_awake.calls k true w hk

set_option maxRecDepth 100000 in
set_option maxHeartbeats 2000000 in
theorem law (at_ of_ : Int) (txt : ByteArray) (n : Int) (w : World) :
    Calls Try.prog 7 #[.agg #[.int .i64 at_, .int .i64 of_, .string txt], .int .i64 n] w fun e w' => e = .returned (.bool true) ∧ Below w.heap.size w w' := by
  have HB := Aside0.mk (Below.refl w.heap.size w)
  go_enter Try.func7, Try.ntmps7
  go_wp2_with (first
    | (go_at_call 28; refine (text_nil _).mono ?_; rintro e w3 ⟨rfl, rfl⟩)
    | (go_at_call 29; refine (clear_nil _).mono ?_; rintro e w3 ⟨rfl, rfl⟩)
    | (go_at_call 30; refine (put_nil at_ of_ txt _).mono ?_; rintro e w3 ⟨rfl, hb⟩; have n0_ := Aside0.mk (below_step (by repeat (first | (with_reducible first | exact HB.out | apply below_alloc | apply pw_below_drewN | apply below_drew1) | exact HB.out)) hb); clear HB; have HB := n0_; clear n0_ hb)
    | (go_at_call 31; refine (of_nil _).mono ?_; rintro e w3 ⟨rfl, rfl⟩)
    | (go_at_call 32; refine (left_nil _).mono ?_; rintro e w3 ⟨rfl, rfl⟩)
    | (go_at_call 33; refine (missing_nil n _).mono ?_; rintro e w3 ⟨rfl, rfl⟩)
    | (go_at_call 27; refine (awake_calls _).mono ?_; rintro e w3 ⟨rfl, hb⟩; have n0_ := Aside0.mk (below_step (by repeat (first | (with_reducible first | exact HB.out | apply below_alloc | apply pw_below_drewN | apply below_drew1) | exact HB.out)) hb); clear HB; have HB := n0_; clear n0_ hb))
  go_ret
  exact ⟨rfl, by repeat (first | exact HB.out | apply below_alloc | apply pw_below_drewN | apply below_drew1)⟩

end Go.Proofs.YtdomngcedflapaaW.Nobody
