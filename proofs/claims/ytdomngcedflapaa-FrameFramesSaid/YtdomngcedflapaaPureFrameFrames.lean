/- FrameFrames, the plain statement: a payload's frame is the document's (up to 4096 bytes), and of 65537 bytes it is refused, alone and in a list. -/
import Derived.Test.YtdomngcedflapaaPFramex34
import Derived.Test.YtdomngcedflapaaFrm
namespace Go.Proofs.Ytdomngcedflapaa.Pure
open Go.RowKit Go.Proofs.Ytdomngcedflapaa.PFrame Go.Proofs.YtdomngcedflapaaW.PrintWords Go.Proofs.YtdomngcedflapaaW.PrintLast
open Go.Proofs.YtdomngcedflapaaW.Crc

theorem nums_fourL (n : Nat) : strOfNums [((n : Int) % 256) % 256, ((n : Int) / 256 % 256) % 256, ((n : Int) / 65536 % 256) % 256, ((n : Int) / 16777216 % 256) % 256] = txt (fourL n) := by
  unfold strOfNums txt fourL
  have h0 : (((n : Int) % 256) % 256).toNat = n % 256 := by omega
  have h1 : (((n : Int) / 256 % 256) % 256).toNat = n / 256 % 256 := by omega
  have h2 : (((n : Int) / 65536 % 256) % 256).toNat = n / 65536 % 256 := by omega
  have h3 : (((n : Int) / 16777216 % 256) % 256).toNat = n / 16777216 % 256 := by omega
  simp only [List.map_cons, List.map_nil, h0, h1, h2, h3]

theorem ref_four_eq (n : Nat) (hn : n ≤ 4294967295) : Ev (fun k => barqueref02_four.f k (n : Int)) (txt (fourL n)) := by
  have step : ∀ (x : Nat) (acc : List Int) (i : Nat) (q : ByteArray), x ≤ 4294967295 → i < 4 → acc.length = i →
      Ev (fun k => barqueref02_four.l0 k ((x / 256 : Nat) : Int) (acc ++ [((x : Int) % 256) % 256]) ((i + 1 : Nat) : Int)) q → Ev (fun k => barqueref02_four.l0 k (x : Int) acc (i : Int)) q := by
    intro x acc i q hx hi ha h
    have e1 : wrap64 ((i : Int) + 1) = ((i + 1 : Nat) : Int) := by rw [wrap64_id (by omega) (by omega)]; rfl
    have e2 : wrap64 (Int.tdiv (x : Int) 256) = ((x / 256 : Nat) : Int) := by rw [tdiv_nn _ _ (by omega), wrap64_id (by omega) (by omega)]; omega
    refine Ev.step (f := _) (fun k => by simp only [barqueref02_four.l0]; rw [if_pos (by omega), if_pos (by omega), e1, e2, tmod_nn _ _ (by omega)]) h
  refine step n [] 0 _ (by omega) (by omega) rfl ?_
  refine step _ _ 1 _ (by omega) (by omega) rfl ?_
  refine step _ _ 2 _ (by omega) (by omega) rfl ?_
  refine step _ _ 3 _ (by omega) (by omega) rfl ?_
  refine Ev.step (f := fun _ => some (txt (fourL n))) (fun k => ?_) (Ev.now _)
  simp only [barqueref02_four.l0]
  rw [if_neg (by omega)]
  have e : ([] ++ [((n : Int) % 256) % 256] ++ [(((n / 256 : Nat) : Int) % 256) % 256] ++ [(((n / 256 / 256 : Nat) : Int) % 256) % 256] ++ [(((n / 256 / 256 / 256 : Nat) : Int) % 256) % 256] : List Int)
      = [((n : Int) % 256) % 256, ((n : Int) / 256 % 256) % 256, ((n : Int) / 65536 % 256) % 256, ((n : Int) / 16777216 % 256) % 256] := by
    have h1 : (((n / 256 : Nat) : Int)) = (n : Int) / 256 := by omega
    have h2 : (((n / 256 / 256 : Nat) : Int)) = (n : Int) / 65536 := by omega
    have h3 : (((n / 256 / 256 / 256 : Nat) : Int)) = (n : Int) / 16777216 := by omega
    rw [h1, h2, h3]
    rfl
  rw [e, nums_fourL]

theorem ref_Frame_eq (s : ByteArray) (hs : s.size ≤ 65536) : Ev (fun k => barqueref02_Frame.f k s) (txt (frameL (by_ s)), 0) := by
  have hl := by_length s
  unfold barqueref02_Frame.f
  refine evNeg (by omega) ?_
  rw [← hl]
  refine Ev.bind (ref_four_eq _ (by omega)) ?_
  refine evPos (by rw [txt_size, fourL_length]; omega) (evPos (by rw [txt_size, fourL_length]; omega) ?_)
  refine Ev.bind (ref_Sum_eq _ (by rw [ByteArray.size_append, txt_size, fourL_length]; omega)) ?_
  rw [by_app, by_txt]
  have hlt := sumL_lt (by_ s)
  have e : (((addS 0#32 (fourL (by_ s).length ++ by_ s)).toNat : Nat) : Int) = ((sumL (by_ s) : Nat) : Int) := rfl
  rw [e]
  refine Ev.bind (ref_four_eq _ (by omega)) ?_
  have z : (⟨#[181, 126]⟩ : ByteArray) = txt [181, 126] := rfl
  rw [z]
  refine evPos (by rw [ByteArray.size_append, txt_size, txt_size, txt_size, fourL_length, fourL_length]; simp) (evPos (by rw [ByteArray.size_append, ByteArray.size_append, txt_size, txt_size, txt_size, fourL_length, fourL_length]; simp; omega) ?_)
  have ef : (txt [181, 126] ++ txt (fourL (by_ s).length) ++ txt (fourL (sumL (by_ s))) ++ s) = txt (frameL (by_ s)) := by
    apply by_inj
    rw [by_app, by_app, by_app, by_txt, by_txt, by_txt, by_txt]
    rfl
  rw [ef]
  exact Ev.now _

theorem nums_size (n : Nat) : (strOfNums (List.replicate n 0)).size = n := by
  unfold strOfNums
  rw [← by_length, by_]
  simp

theorem all_long (s z : ByteArray) (hs : s.size ≤ 4096) (hz : 65536 < z.size) : Ev (fun k => frame_All.f k [s, z]) (none_, 4) := by
  refine Ev.step (f := _) (fun k => by simp only [frame_All.f, frame_All.l0]; rw [if_pos (by simp), if_pos (by omega)]) ?_
  have e0 : rdOf ByteArray.empty [s, z] 0 = s := rfl
  rw [e0]
  refine Ev.bind (frame_Frame_eq s (by omega)) ?_
  have hl := by_length s
  refine evPos rfl (evPos ?_ ?_)
  · have h0 : (⟨#[]⟩ : ByteArray).size = 0 := rfl
    rw [h0, txt_size, frameL_length]
    omega
  have e1 : wrap64 (0 + 1) = 1 := by rw [wrap64_id (by omega) (by omega)]; rfl
  rw [e1]
  refine Ev.step (f := _) (fun k => by simp only [frame_All.l0]; rw [if_pos (by simp), if_pos (by omega)]) ?_
  have e2 : rdOf ByteArray.empty [s, z] 1 = z := rfl
  rw [e2]
  refine Ev.bind (frame_Frame_long _ hz) ?_
  exact evNeg (show ¬ ((4 : Int) = 0) by decide) (Ev.now _)

theorem frames_j0 (s : ByteArray) (hs : s.size ≤ 4096) (b : Bool) : Ev (fun k => barquelaw02_FrameFrames.j0 k s b) true := by
  cases b with
  | true =>
    refine Ev.step (f := _) (fun k => by simp only [barquelaw02_FrameFrames.j0]; rw [if_pos trivial]) ?_
    rw [wrap64_id (by omega) (by omega)]
    have e : (65537 - (s.size : Int)).toNat = 65537 - s.size := by omega
    rw [e]
    refine evPos (by omega) (evPos (by omega) ?_)
    simp only [Option.bind_some]
    refine evPos (by rw [nums_size]; omega) ?_
    refine Ev.bind (frame_Frame_long _ (by rw [ByteArray.size_append, nums_size]; omega)) ?_
    refine evPos (by omega) ?_
    have hall := all_long s (strOfNums (List.replicate 65537 0)) hs (by rw [nums_size]; omega)
    refine Ev.bind hall ?_
    refine evPos rfl (evPos rfl ?_)
    exact Ev.bind awake_eq (Ev.now _)
  | false =>
    refine Ev.step (f := _) (fun k => by simp only [barquelaw02_FrameFrames.j0]; rw [if_neg (by decide)]) ?_
    refine Ev.bind (frame_Frame_eq s (by omega)) ?_
    refine Ev.bind (ref_Frame_eq s (by omega)) ?_
    refine evPos rfl (evPos rfl ?_)
    exact Ev.bind awake_eq (Ev.now _)

theorem FrameFrames : barquelaw02_FrameFrames.Pure := by
  intro s b hn
  refine Ev.rounds ?_
  unfold barquelaw02_FrameFrames.f
  by_cases h : (s.size : Int) > 4096
  · refine evPos h (evPos (by omega) (evPos (by omega) ?_))
    exact frames_j0 _ (by rw [ByteArray.size_extract]; omega) b
  · refine evNeg h ?_
    exact frames_j0 _ (by omega) b

end Go.Proofs.Ytdomngcedflapaa.Pure
