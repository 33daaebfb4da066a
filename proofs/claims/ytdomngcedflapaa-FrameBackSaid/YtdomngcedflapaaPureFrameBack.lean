/- FrameBack, the plain statement: payloads in frames (up to 20 of up to 500 bytes) are found again, nothing being lost, also where the last frame lacks bytes. -/
import Derived.Test.YtdomngcedflapaaPFramex35
import Derived.Test.YtdomngcedflapaaScan
import Derived.Test.YtdomngcedflapaaFrm
namespace Go.Proofs.Ytdomngcedflapaa.Pure
open Go.RowKit Go.Proofs.Ytdomngcedflapaa.PFrame Go.Proofs.YtdomngcedflapaaW.PrintWords Go.Proofs.YtdomngcedflapaaW.PrintLast
open Go.Proofs.YtdomngcedflapaaW.Crc

/-- Frames one behind the other. -/
def framesL : List ByteArray → List UInt8
  | [] => []
  | p :: l => frameL (by_ p) ++ framesL l

theorem framesL_append (l m : List ByteArray) : framesL (l ++ m) = framesL l ++ framesL m := by
  induction l with
  | nil => rfl
  | cons p l ih => rw [List.cons_append, framesL, framesL, ih, List.append_assoc]

theorem framesL_length (l : List ByteArray) (h : ∀ p ∈ l, p.size ≤ 500) : (framesL l).length ≤ 510 * l.length := by
  induction l with
  | nil => simp [framesL]
  | cons p l ih =>
    have h1 := ih (fun q hq => h q (List.mem_cons_of_mem _ hq))
    have h2 := h p List.mem_cons_self
    have h3 := by_length p
    rw [framesL, List.length_append, frameL_length, List.length_cons]
    omega

theorem rd_get_ (l : List ByteArray) (i : Nat) (h : i < l.length) : rdOf ByteArray.empty l (i : Int) = l[i]'h := by
  simp [rdOf, List.getD, h]

/-- All puts the frames together. -/
theorem all_l0 (l : List ByteArray) (h : ∀ p ∈ l, p.size ≤ 500) (hl : l.length ≤ 20) (d : Nat) : ∀ i : Nat, i + d = l.length →
    Ev (fun k => frame_All.l0 k l (txt (framesL (l.take i))) (i : Int)) (txt (framesL l), 0) := by
  induction d with
  | zero =>
    intro i hi
    refine Ev.step (f := fun _ => some (txt (framesL l), 0)) (fun k => ?_) (Ev.now _)
    simp only [frame_All.l0]
    rw [if_neg (by omega), List.take_of_length_le (by omega)]
  | succ d ih =>
    intro i hi
    have hlt : i < l.length := by omega
    have hp := h l[i] (List.getElem_mem hlt)
    have hsz := framesL_length (l.take i) (fun p hp => h p (List.mem_of_mem_take hp))
    rw [List.length_take] at hsz
    have e1 : wrap64 ((i : Int) + 1) = ((i + 1 : Nat) : Int) := by rw [wrap64_id (by omega) (by omega)]; rfl
    refine Ev.step (f := _) (fun k => by simp only [frame_All.l0]; rw [if_pos (by omega), if_pos (by omega), e1, rd_get_ l i hlt]) ?_
    refine Ev.bind (frame_Frame_eq l[i] (by omega)) ?_
    have hl3 := by_length l[i]
    refine evPos rfl (evPos (by rw [txt_size, txt_size, frameL_length]; omega) ?_)
    have e2 : txt (framesL (l.take i)) ++ txt (frameL (by_ l[i])) = txt (framesL (l.take (i + 1))) := by
      apply by_inj
      rw [by_app, by_txt, by_txt, by_txt, List.take_succ_eq_append_getElem hlt, framesL_append]
      simp [framesL]
    simp only [e2]
    exact ih (i + 1) (by omega)

theorem all_eq (l : List ByteArray) (h : ∀ p ∈ l, p.size ≤ 500) (hl : l.length ≤ 20) : Ev (fun k => frame_All.f k l) (txt (framesL l), 0) :=
  all_l0 l h hl l.length 0 (by omega)

/-- Frames one behind the other are found. -/
theorem scan_frames (s : ByteArray) (hs : s.size ≤ 1000000000) (lost : Int) (q : List ByteArray × Int × Int) (l : List ByteArray) : ∀ (pre tail : List UInt8) (acc : List ByteArray),
    by_ s = pre ++ (framesL l ++ tail) → (∀ p ∈ l, p.size ≤ 500) → acc.length + l.length ≤ 1000000 →
    Ev (fun k => frame_Scan.l0 k s (acc ++ l) ((pre.length + (framesL l).length : Nat) : Int) lost) q → Ev (fun k => frame_Scan.l0 k s acc (pre.length : Int) lost) q := by
  induction l with
  | nil =>
    intro pre tail acc _ _ _ h
    rw [List.append_nil] at h
    exact h
  | cons p l ih =>
    intro pre tail acc hb hp ha h
    have h1 := hp p List.mem_cons_self
    have h2 := by_length p
    have h3 := by_length s
    have hlen := congrArg List.length hb
    rw [framesL, List.length_append, List.length_append, List.length_append, frameL_length] at hlen
    have hfrom : by_ (from_ s pre.length) = frameL (by_ p) ++ (framesL l ++ tail) := by
      rw [from_, by_extract, hb, List.drop_left, framesL, List.append_assoc, List.take_of_length_le]
      rw [List.length_append, List.length_append, frameL_length]
      omega
    have ho := oneS_frame _ (by_ p) _ (by omega) hfrom
    have e : (10 + ((by_ p).length : Int)) = ((10 + (by_ p).length : Nat) : Int) := by omega
    rw [e, txt_by] at ho
    refine scan_ok s hs acc pre.length lost p _ (by omega) ho (by omega) q ?_
    have e3 : pre.length + (10 + (by_ p).length) = (pre ++ frameL (by_ p)).length := by rw [List.length_append, frameL_length]; omega
    rw [e3]
    refine ih (pre ++ frameL (by_ p)) tail (acc ++ [p]) ?_ (fun r hr => hp r (List.mem_cons_of_mem _ hr)) (by simp at ha ⊢; omega) ?_
    · rw [hb, framesL]; simp
    · have e4 : acc ++ [p] ++ l = acc ++ (p :: l) := by simp
      have e5 : (pre ++ frameL (by_ p)).length + (framesL l).length = pre.length + (framesL (p :: l)).length := by rw [framesL, List.length_append, List.length_append]; omega
      rw [e4, e5]
      exact h

theorem scan_whole (l : List ByteArray) (h : ∀ p ∈ l, p.size ≤ 500) (hl : l.length ≤ 20) :
    Ev (fun k => frame_Scan.f k (txt (framesL l))) (l, ((txt (framesL l)).size : Int), 0) := by
  have hsz := framesL_length l h
  have hz := txt_size (framesL l)
  refine scan_frames (txt (framesL l)) (by omega) 0 _ l [] [] [] (by rw [by_txt]; simp) h (by simp; omega) ?_
  have e : ([] : List UInt8).length + (framesL l).length = (txt (framesL l)).size := by rw [hz]; simp
  rw [List.nil_append, e]
  exact scan_end _ _ _ _ (Nat.le_refl _)

/-- The last frame lacks bytes. -/
theorem scan_cut (l : List ByteArray) (p : ByteArray) (h : ∀ q ∈ l, q.size ≤ 500) (hp : p.size ≤ 500) (hl : l.length ≤ 20) (m : Nat) (hm : m < p.size + 10) (s : ByteArray)
    (hs : by_ s = framesL l ++ (frameL (by_ p)).take m) : Ev (fun k => frame_Scan.f k s) (l, ((framesL l).length : Int), 0) := by
  have hsz := framesL_length l h
  have h2 := by_length p
  have h3 := by_length s
  have hlen := congrArg List.length hs
  rw [List.length_append, List.length_take, frameL_length] at hlen
  refine scan_frames s (by omega) 0 _ l [] ((frameL (by_ p)).take m) [] (by rw [hs]; simp) h (by simp; omega) ?_
  have e : ([] : List UInt8).length + (framesL l).length = (framesL l).length := by simp
  rw [List.nil_append, e]
  by_cases hm0 : m = 0
  · exact scan_end _ _ _ _ (by omega)
  · have hfrom : by_ (from_ s (framesL l).length) = (frameL (by_ p)).take m := by
      rw [from_, by_extract, hs, List.drop_left, List.take_of_length_le]
      rw [List.length_take, frameL_length]
      omega
    have hc := oneS_cut _ (by_ p) m (by omega) (by omega) hfrom
    obtain ⟨a, b, c, ho⟩ : ∃ a b c, oneS (from_ s (framesL l).length) = (a, b, c) := ⟨_, _, _, rfl⟩
    rw [ho] at hc
    have hc' : c = 3 := hc
    subst hc'
    exact scan_short s (by omega) l (framesL l).length 0 a b (by omega) ho

theorem back_j3_true (l : List ByteArray) (a : Int) (s : ByteArray) : Ev (fun k => barquelaw02_FrameBack.j3 k l a s true) true := by
  refine Ev.step (f := _) (fun k => by simp only [barquelaw02_FrameBack.j3]; rw [if_pos trivial]) ?_
  exact Ev.bind awake_eq (Ev.now _)

theorem back_j3 (l : List ByteArray) (a : Int) (h : ∀ p ∈ l, p.size ≤ 500) (hl : l.length ≤ 20) (h0 : l.length ≠ 0) (h1 : 1 ≤ a) (b : Bool)
    (hb : b = false → a ≤ ((rdOf ByteArray.empty l ((l.length - 1 : Nat) : Int)).size : Int) + 10) :
    Ev (fun k => barquelaw02_FrameBack.j3 k l a (txt (framesL l)) b) true := by
  cases b with
  | true => exact back_j3_true l a _
  | false =>
    have hb := hb rfl
    have hlt : l.length - 1 < l.length := by omega
    rw [rd_get_ l _ hlt] at hb
    have hsplit : l = l.take (l.length - 1) ++ [l[l.length - 1]] := by
      have e := List.take_succ_eq_append_getElem hlt
      have e2 : l.length - 1 + 1 = l.length := by omega
      rw [e2, List.take_of_length_le (Nat.le_refl _)] at e
      exact e
    have hp := h _ (List.getElem_mem hlt)
    have hpl := by_length l[l.length - 1]
    have hF : framesL l = framesL (l.take (l.length - 1)) ++ frameL (by_ l[l.length - 1]) := by
      have e := congrArg framesL hsplit
      rw [framesL_append] at e
      rw [e]
      simp [framesL]
    have hFl := congrArg List.length hF
    rw [List.length_append, frameL_length] at hFl
    have hz := txt_size (framesL l)
    have hlen := framesL_length l h
    have w1 : wrap64 ((l.length : Int) - 1) = ((l.length - 1 : Nat) : Int) := by rw [wrap64_id (by omega) (by omega)]; omega
    have w2 : wrap64 (((txt (framesL l)).size : Int) - a) = (((txt (framesL l)).size - a.toNat : Nat) : Int) := by rw [wrap64_id (by omega) (by omega)]; omega
    refine Ev.step (f := _) (fun k => by
      simp only [barquelaw02_FrameBack.j3]
      rw [if_neg (by decide), w1, w2, Int.toNat_natCast, Int.toNat_natCast, rd_get_ l _ hlt]) ?_
    refine evPos (by omega) (evPos (by omega) ?_)
    have hcut : by_ ((txt (framesL l)).extract 0 ((txt (framesL l)).size - a.toNat)) = framesL (l.take (l.length - 1)) ++ (frameL (by_ l[l.length - 1])).take (l[l.length - 1].size + 10 - a.toNat) := by
      rw [by_extract, by_txt, List.drop_zero, Nat.sub_zero, hz, hF, List.take_append, List.take_of_length_le (by rw [List.length_append, frameL_length]; omega)]
      congr 2
      rw [List.length_append, frameL_length]
      omega
    have hscan := scan_cut (l.take (l.length - 1)) l[l.length - 1] (fun q hq => h q (List.mem_of_mem_take hq)) hp (by rw [List.length_take]; omega) (l[l.length - 1].size + 10 - a.toNat) (by omega) _ hcut
    refine Ev.bind (f := fun k (b : List ByteArray × Int × Int) => _) (a := (l.take (l.length - 1), ((framesL (l.take (l.length - 1))).length : Int), 0)) hscan ?_
    refine evPos (by omega) (evPos (by omega) ?_)
    refine Ev.bind (texts_same _ (by rw [List.length_take]; omega)) ?_
    refine evPos rfl (evPos (by omega) (evPos ?_ (evPos rfl ?_)))
    · rw [wrap64_id (n := ((txt (framesL l)).size : Int) - (l[l.length - 1].size : Int)) (by omega) (by omega), wrap64_id (by omega) (by omega)]
      simp only []
      omega
    · exact Ev.bind awake_eq (Ev.now _)

theorem back_j2 (l : List ByteArray) (a : Int) (h : ∀ p ∈ l, p.size ≤ 500) (hl : l.length ≤ 20) : Ev (fun k => barquelaw02_FrameBack.j2 k l a (txt (framesL l)) false) true := by
  refine Ev.step (f := _) (fun k => by simp only [barquelaw02_FrameBack.j2]; rw [if_neg (by decide)]) ?_
  by_cases h0 : l.length = 0
  · exact evPos (by omega) (back_j3_true l a _)
  refine evNeg (by omega) ?_
  by_cases h1 : a < 1
  · exact evPos h1 (back_j3_true l a _)
  refine evNeg h1 ?_
  have w1 : wrap64 ((l.length : Int) - 1) = ((l.length - 1 : Nat) : Int) := by rw [wrap64_id (by omega) (by omega)]; omega
  rw [w1]
  refine evPos (by omega) (evPos (by omega) ?_)
  refine back_j3 l a h hl h0 (by omega) _ (fun hd => ?_)
  have hlt : l.length - 1 < l.length := by omega
  have hp := h _ (List.getElem_mem hlt)
  rw [rd_get_ l _ hlt] at hd ⊢
  have hd2 := of_decide_eq_false hd
  rw [wrap64_id (by omega) (by omega)] at hd2
  omega

theorem back_l0 (l : List ByteArray) (a : Int) (hl : l.length ≤ 20) (d : Nat) : ∀ i : Nat, i + d = l.length → (∀ j : Nat, ∀ hj : j < l.length, j < i → l[j].size ≤ 500) →
    Ev (fun k => barquelaw02_FrameBack.l0 k l a (i : Int)) true := by
  induction d with
  | zero =>
    intro i hi hall
    have h : ∀ p ∈ l, p.size ≤ 500 := fun p hp => by
      obtain ⟨j, hj, rfl⟩ := List.getElem_of_mem hp
      exact hall j hj (by omega)
    refine Ev.step (f := _) (fun k => by simp only [barquelaw02_FrameBack.l0]; rw [if_neg (by omega)]) ?_
    refine Ev.bind (all_eq l h hl) ?_
    refine Ev.bind (f := fun k (b : List ByteArray × Int × Int) => _) (a := (l, ((txt (framesL l)).size : Int), 0)) (scan_whole l h hl) ?_
    refine evPos rfl ?_
    refine Ev.bind (texts_same l (by omega)) ?_
    exact evPos rfl (evPos rfl (back_j2 l a h hl))
  | succ d ih =>
    intro i hi hall
    have hlt : i < l.length := by omega
    refine Ev.step (f := _) (fun k => by simp only [barquelaw02_FrameBack.l0]; rw [if_pos (by omega), if_pos (by omega), rd_get_ l i hlt]) ?_
    by_cases hc : (l[i].size : Int) > 500
    · exact evPos hc (Ev.bind awake_eq (Ev.now _))
    · refine evNeg hc ?_
      have e1 : wrap64 ((i : Int) + 1) = ((i + 1 : Nat) : Int) := by rw [wrap64_id (by omega) (by omega)]; rfl
      rw [e1]
      refine ih (i + 1) (by omega) (fun j hj hji => ?_)
      by_cases e : j = i
      · subst e; omega
      · exact hall j hj (by omega)

theorem back_j0 (l : List ByteArray) (a : Int) (hl : l.length ≤ 20) : Ev (fun k => barquelaw02_FrameBack.j0 k l a) true := by
  refine Ev.step (f := _) (fun k => by simp only [barquelaw02_FrameBack.j0]; rfl) ?_
  exact back_l0 l a hl l.length 0 (by omega) (fun j hj hji => by omega)

theorem FrameBack (l : List ByteArray) (a : Int) : ∃ k, barquelaw02_FrameBack.f k l a = some true := by
  refine Ev.rounds ?_
  unfold barquelaw02_FrameBack.f
  by_cases h : (l.length : Int) > 20
  · exact evPos h (evPos (by omega) (back_j0 _ a (by rw [List.length_take]; omega)))
  · exact evNeg h (back_j0 l a (by omega))

end Go.Proofs.Ytdomngcedflapaa.Pure
