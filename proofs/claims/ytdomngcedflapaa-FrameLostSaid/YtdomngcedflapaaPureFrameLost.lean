/- FrameLost, the plain statement: bytes ahead of a frame, none of which is the first byte of one, are lost, and the frame is found (up to 500 bytes each). -/
import Derived.Test.YtdomngcedflapaaPFramex22
import Derived.Test.YtdomngcedflapaaScan
import Derived.Test.YtdomngcedflapaaFrm
namespace Go.Proofs.Ytdomngcedflapaa.Pure
open Go.RowKit Go.Proofs.Ytdomngcedflapaa.PFrame Go.Proofs.YtdomngcedflapaaW.PrintWords Go.Proofs.YtdomngcedflapaaW.PrintLast
open Go.Proofs.YtdomngcedflapaaW.Crc

/-- The noise is lost byte by byte, then the frame is found. -/
theorem lost_scan (x f : ByteArray) (p : List UInt8) (hx : x.size ≤ 500) (hp : p.length ≤ 500) (hf : by_ f = frameL p) (hno : ∀ i : Nat, i < x.size → bt x i ≠ 181) (d : Nat) :
    ∀ i : Nat, i ≤ x.size → x.size - i = d → Ev (fun k => frame_Scan.l0 k (x ++ f) [] (i : Int) (i : Int)) ([txt p], ((x.size + f.size : Nat) : Int), ((x.size : Nat) : Int)) := by
  have hfs : f.size = p.length + 10 := by rw [← by_length, hf, frameL_length]
  have hs : (x ++ f).size = x.size + f.size := ByteArray.size_append
  have hxl := by_length x
  induction d with
  | zero =>
    intro i hi hd
    obtain rfl : i = x.size := by omega
    have hb : by_ (from_ (x ++ f) x.size) = frameL p ++ [] := by
      rw [from_, by_extract, by_app, ← hxl, List.drop_left, hf, hs, hfs, List.append_nil, List.take_of_length_le]
      rw [frameL_length]
      omega
    have ho := oneS_frame _ p [] (by omega) hb
    have e : (10 + (p.length : Int)) = ((10 + p.length : Nat) : Int) := by omega
    rw [e] at ho
    refine scan_ok (x ++ f) (by omega) [] x.size _ (txt p) (10 + p.length) (by omega) ho (by simp) _ ?_
    have e2 : x.size + (10 + p.length) = x.size + f.size := by omega
    rw [e2]
    exact scan_end (x ++ f) _ _ _ (by omega)
  | succ d ih =>
    intro i hi hd
    have hb : bt (from_ (x ++ f) i) 0 ≠ 181 := by
      have hlt : i < (by_ x).length := by omega
      have h1 := bt_of (from_ (x ++ f) i) 0 ((by_ x)[i]'hlt) (by
        rw [from_, by_extract, by_app, List.getElem?_take, if_pos (by omega), List.getElem?_drop, List.getElem?_append_left (by omega)]
        simp)
      have h2 := bt_get x i hlt
      have h3 := hno i (by omega)
      intro hc
      have hc' : bt (from_ (x ++ f) i) ((0 : Nat) : Int) = 181 := hc
      rw [hc'] at h1
      rw [h2] at h3
      exact h3 h1.symm
    have ho := oneS_noise (from_ (x ++ f) i) (by rw [from_size]; omega) hb
    refine scan_lost (x ++ f) (by omega) [] i i none_ 0 5 (by omega) (by omega) ho (by decide) (by decide) _ ?_
    exact ih (i + 1) (by omega) (by omega)

theorem lost_l0 (x s : ByteArray) (hx : x.size ≤ 500) (hs : s.size ≤ 500) (d : Nat) :
    ∀ i : Nat, i ≤ x.size → x.size - i = d → (∀ j : Nat, j < i → bt x j ≠ 181) → Ev (fun k => barquelaw02_FrameLost.l0 k x s (i : Int)) true := by
  induction d with
  | zero =>
    intro i hi hd hno
    obtain rfl : i = x.size := by omega
    refine Ev.step (f := _) (fun k => by simp only [barquelaw02_FrameLost.l0]; rw [if_neg (by omega)]) ?_
    refine Ev.bind (frame_Frame_eq s (by omega)) ?_
    have hl := by_length s
    have hz : (txt (frameL (by_ s))).size = s.size + 10 := by rw [txt_size, frameL_length, hl]
    refine evPos (by simp only [hz]; omega) ?_
    have h := lost_scan x (txt (frameL (by_ s))) (by_ s) hx (by omega) (by_txt _) hno x.size 0 (by omega) (by omega)
    refine Ev.bind (f := fun k (b : List ByteArray × Int × Int) => _) (a := ([txt (by_ s)], ((x.size + (txt (frameL (by_ s))).size : Nat) : Int), ((x.size : Nat) : Int))) h ?_
    refine evPos rfl (evPos rfl (evPos (show (0 : Int) < 1 by decide) (evPos ?_ (evPos ?_ (evPos rfl ?_)))))
    · rw [txt_by]
      rfl
    · simp only [hz]
      rw [wrap64_id (by omega) (by omega)]
      omega
    · exact Ev.bind awake_eq (Ev.now _)
  | succ d ih =>
    intro i hi hd hno
    refine Ev.step (f := _) (fun k => by simp only [barquelaw02_FrameLost.l0]; rw [if_pos (by omega), if_pos (by omega)]) ?_
    by_cases hc : bt x i = 181
    · exact evPos hc (Ev.bind awake_eq (Ev.now _))
    · refine evNeg hc ?_
      have e1 : wrap64 ((i : Int) + 1) = ((i + 1 : Nat) : Int) := by rw [wrap64_id (by omega) (by omega)]; rfl
      rw [e1]
      refine ih (i + 1) (by omega) (by omega) (fun j hj => ?_)
      by_cases hji : j = i
      · rw [hji]; exact hc
      · exact hno j (by omega)

theorem lost_j0 (x s : ByteArray) (b : Bool) (h : b = false → x.size ≤ 500 ∧ s.size ≤ 500) : Ev (fun k => barquelaw02_FrameLost.j0 k x s b) true := by
  cases b with
  | true =>
    refine Ev.step (f := fun k => (barquelaw02_awake.f k).bind fun t118 => (some t118)) (fun k => by simp only [barquelaw02_FrameLost.j0]; rw [if_pos trivial]) ?_
    exact Ev.bind awake_eq (Ev.now _)
  | false =>
    obtain ⟨hx, hs⟩ := h rfl
    refine Ev.step (f := _) (fun k => by simp only [barquelaw02_FrameLost.j0]; rw [if_neg (by decide)]) ?_
    exact lost_l0 x s hx hs x.size 0 (by omega) (by omega) (fun j hj => by omega)

theorem FrameLost : barquelaw02_FrameLost.Pure := by
  intro x s _ _
  refine Ev.rounds ?_
  unfold barquelaw02_FrameLost.f
  by_cases h : (x.size : Int) > 500
  · exact evPos h (lost_j0 x s true (fun h => by cases h))
  · refine evNeg h (lost_j0 x s _ (fun h2 => ?_))
    have h3 := of_decide_eq_false h2
    omega

end Go.Proofs.Ytdomngcedflapaa.Pure
