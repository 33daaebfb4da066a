/- The walk of the program's All: the frames of a list of payloads, one behind the other, put together in a strings.Builder. -/
import Derived.Test.YtdomngcedflapaaPFramex21
import Derived.Test.YtdomngcedflapaaShelf
import Derived.Test.YtdomngcedflapaaCrc
namespace Go.Proofs.Ytdomngcedflapaa.PFrame
open Go.RowKit Go.Proofs.YtdomngcedflapaaW.PrintWords Go.Proofs.YtdomngcedflapaaW.PrintLast Go.Proofs.YtdomngcedflapaaW.PrintMore
open Go.Proofs.YtdomngcedflapaaW.Mine

def frame_All.l0 : Nat → List ByteArray → ByteArray → Int → Option (ByteArray × Int)
  | 0, _, _, _ => none
  | k + 1, x0, x4, x11 => if x11 < (x0.length : Int) then (if 0 ≤ x11 then ((frame_Frame.f k (rdOf ByteArray.empty x0 x11)).bind fun b => (if b.2 = 0 then (if x4.size + b.1.size ≤ 140737488355328 then (frame_All.l0 k x0 (x4 ++ b.1) (wrap64 (x11 + 1))) else (none)) else (some ((⟨#[]⟩ : ByteArray), b.2)))) else (none)) else (some (x4, 0))
def frame_All.f (k : Nat) (l0 : List ByteArray) : Option (ByteArray × Int) := frame_All.l0 k l0 (⟨#[]⟩ : ByteArray) 0

theorem frame_All.mono_l : ∀ k, (∀ y0 y1 y2, LeO (frame_All.l0 k y0 y1 y2) (frame_All.l0 (k + 1) y0 y1 y2))
  | 0 => fun _ _ _ r h => by simp [frame_All.l0] at h
  | k + 1 => by
    have ih0 := frame_All.mono_l k
    intro y0 y1 y2
    unfold frame_All.l0
    repeat' first
      | (with_reducible exact ih0 _ _ _)
      | (with_reducible exact frame_Frame.mono _ _)
      | (with_reducible exact LeO.refl _)
      | (with_reducible exact LeO.none _)
      | (with_reducible refine LeO.ite ?_ ?_)
      | (with_reducible refine LeO.bind ?_ (fun _ => ?_))
      | exact ih0 _ _ _
      | exact frame_Frame.mono _ _
      | exact LeO.none _
      | refine LeO.ite ?_ ?_
      | refine LeO.bind ?_ (fun _ => ?_)
theorem frame_All.mono : ∀ a0 k, LeO (frame_All.f k a0) (frame_All.f (k + 1) a0) := by
  intro a0 k
  exact frame_All.mono_l k _ _ _

theorem strCells_nil : Lib.strCells (⟨#[]⟩ : ByteArray) = [] := rfl

theorem strCells_append (s t : ByteArray) : Lib.strCells (s ++ t) = Lib.strCells s ++ Lib.strCells t := by
  simp [Lib.strCells]

theorem builderAt_below {T e : TypeId} {B b : Nat} {p : Value} {bs : List Value} {w w' : World} (h : Lib.BuilderAt T e B b p bs w) (hb : Below w.heap.size w w') : Lib.BuilderAt T e B b p bs w' := by
  have hlt := h.lt
  obtain ⟨h1, v, h2, h3, h4⟩ := h
  exact ⟨h1, v, (hb.block b hlt).trans h2, own_move h3 (fun k hk => hb.block k (h3.lt k hk).2), h4⟩

theorem isBuilder_below {T e : TypeId} {B b : Nat} {bs : List Value} {w w' : World} (h : Lib.IsBuilder T e B b bs w) (hb : Below w.heap.size w w') : Lib.IsBuilder T e B b bs w' := by
  rcases h with h | h
  · exact Or.inl (builderAt_below h hb)
  · exact Or.inr (builderAt_below h hb)

set_option maxHeartbeats 1000000 in
set_option maxRecDepth 100000 in
theorem frame_All.calls (k : Nat) (A0 : Option Addr) (c0 : Nat) (l0 : List ByteArray) (r1 : ByteArray) (r2 : Int) (w : World) (hr0 : Kd.C Kd.string w A0 l0.length l0) (hc0 : l0.length ≤ c0) (h : frame_All.f k l0 = some (r1, r2)) :
    Calls Try.prog 41 #[.slice A0 l0.length c0] w fun e w' => e = .returned (.tuple #[.string r1, .int .i64 r2]) ∧ Below w.heap.size w w' := by
  have HR0 := Aside0.mk hr0
  have HC0 := Aside0.mk hc0
  clear hr0 hc0
  have H' := Aside0.mk (show frame_All.l0 k l0 (⟨#[]⟩ : ByteArray) 0 = some (r1, r2) from h)
  clear h
  go_enter Try.func41, Try.ntmps41
  go_wp2
  go_loopg [11] k (fun kq v11 w' => ∃ (x4_1 : ByteArray) (x11_1 : Int), v11 = .int .i64 x11_1 ∧ Aside0 (frame_All.l0 kq l0 x4_1 x11_1 = some (r1, r2)) ∧ Aside0 (kq ≤ k) ∧ Aside0 (Lib.IsBuilder 93 5 w.heap.size w.heap.size (Lib.strCells x4_1) w') ∧ Aside0 (Below w.heap.size w w'))
  case atStart => exact ⟨_, 0, rfl, H', ⟨Nat.le_refl _⟩, ⟨Lib.fresh_isBuilder 93 5 w⟩, ⟨(Below.refl _ _).alloc (Nat.le_refl _) _⟩⟩
  case round =>
    clear H'
    obtain ⟨x4_1, x11_1, rfl, HA, HK1, HI, HB⟩ := hrel
    cases gk with
    | zero => exact absurd HA.out (by simp [frame_All.l0])
    | succ k1 =>
      have H := HA.out
      clear HA
      simp only [frame_All.l0] at H
      by_cases c2 : x11_1 < (l0.length : Int)
      · rw [if_pos c2] at H
        have c2b0 : decide (x11_1 < (l0.length : Int)) = true := decide_eq_true c2
        clear c2
        by_cases c3 : 0 ≤ x11_1
        · rw [if_pos c3] at H
          have c3b0 : decide (0 ≤ x11_1) = true := decide_eq_true c3
          clear c3
          replace H := Option.bind_eq_some_iff.mp H
          obtain ⟨⟨t1, t2⟩, A50, H⟩ := H
          have A5 := Aside0.mk A50
          clear A50
          have p158 : 0 ≤ (x11_1 : Int) := of_decide_eq_true (by first | (with_reducible assumption) | assumption)
          have q158 : x11_1 < (l0.length : Int) := of_decide_eq_true (by first | (with_reducible assumption) | assumption)
          obtain ⟨ad158, e158, hx158_0⟩ := Kd.at_string (Kd.C_below HR0.out HB.out) x11_1 p158 q158
          cases e158
          replace p158 := eq_true p158
          replace q158 := eq_true q158
          by_cases c6 : t2 = 0
          · subst c6
            replace H : (if x4_1.size + t1.size ≤ 140737488355328 then (frame_All.l0 k1 l0 (x4_1 ++ t1) (wrap64 (x11_1 + 1))) else (none)) = some (r1, r2) := H
            by_cases c7 : x4_1.size + t1.size ≤ 140737488355328
            · rw [if_pos c7] at H
              have LM := Aside0.mk c7
              clear c7
              have H' := Aside0.mk H
              clear H
              go_wp2_with (first | (go_at_call 40; refine (frame_Frame.calls k1 _ t1 0 _ A5.out).mono ?_; rintro e w3 ⟨rfl, hb⟩; have n0_ := Aside0.mk (isBuilder_below HI.out hb); have n1_ := Aside0.mk (below_step HB.out hb); clear HI HB hb; have HI := n0_; have HB := n1_; clear n0_ n1_) | (go_at_call 58; refine (Try.bWriteString _ _ _ _ _ HI.out ?_ ?_).mono ?_; (rw [Lib.strCells_length]; exact LM.out); exact HB.out.size; rintro e w3 ⟨rfl, hi, hb⟩; have n0_ := Aside0.mk (Or.inr hi : Lib.IsBuilder _ _ _ _ _ _); have n1_ := Aside0.mk (HB.out.trans hb); clear HI HB hi hb; have HI := n0_; have HB := n1_; clear n0_ n1_))
              go_roundg k1
              case measure => have := HK1.out; omega
              case rel => exact ⟨x4_1 ++ t1, wrap64 (x11_1 + 1), by first | rfl | (simp; done), H', ⟨by have := HK1.out; omega⟩, ⟨by rw [strCells_append]; exact HI.out⟩, HB⟩
            · rw [if_neg c7] at H
              exact absurd H (by simp)
          · replace H : some ((⟨#[]⟩ : ByteArray), t2) = some (r1, r2) := by rw [← H]; exact (if_neg c6).symm
            have c60 : (t2 != 0) = true := bne_iff_ne.mpr c6
            have c61 : (t2 == 0) = false := beq_eq_false_iff_ne.mpr c6
            clear c6
            simp only [Option.some.injEq, Prod.mk.injEq] at H
            obtain ⟨rfl, rfl⟩ := H
            go_wp2_with (go_at_call 40; refine (frame_Frame.calls k1 _ t1 t2 _ A5.out).mono ?_; rintro e w3 ⟨rfl, hb⟩; have n0_ := Aside0.mk (isBuilder_below HI.out hb); have n1_ := Aside0.mk (below_step HB.out hb); clear HI HB hb; have HI := n0_; have HB := n1_; clear n0_ n1_)
            go_ret2
            exact ⟨rfl, HB.out⟩
        · rw [if_neg c3] at H
          exact absurd H (by simp)
      · rw [if_neg c2] at H
        have c2b0 : decide (x11_1 < (l0.length : Int)) = false := decide_eq_false c2
        clear c2
        simp only [Option.some.injEq, Prod.mk.injEq] at H
        obtain ⟨rfl, rfl⟩ := H
        go_wp2_with (go_at_call 59; refine (Try.bString _ _ _ _ HI.out HB.out.size).mono ?_; rintro e w3 ⟨rfl, hb⟩; have n1_ := Aside0.mk (HB.out.trans hb); clear HB hb; have HB := n1_; clear n1_)
        go_ret2
        exact ⟨rfl, HB.out⟩

end Go.Proofs.Ytdomngcedflapaa.PFrame
