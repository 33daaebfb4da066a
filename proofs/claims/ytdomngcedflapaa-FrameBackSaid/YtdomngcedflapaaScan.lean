/- The steps of a scan, the program's and the document's; that both tell the same; two lists of texts that are one. -/
import Derived.Test.YtdomngcedflapaaOne
import Derived.Test.YtdomngcedflapaaPFramex16
import Derived.Test.YtdomngcedflapaaPFramex17
import Derived.Test.YtdomngcedflapaaPFramex18
namespace Go.Proofs.YtdomngcedflapaaW.Crc
open Go.RowKit Go.Proofs.Ytdomngcedflapaa.PFrame Go.Proofs.YtdomngcedflapaaW.PrintWords Go.Proofs.YtdomngcedflapaaW.PrintLast Go.Proofs.YtdomngcedflapaaW.PrintMore

/-- What stands from a place on. -/
def from_ (s : ByteArray) (i : Nat) : ByteArray := s.extract i s.size

theorem from_size (s : ByteArray) (i : Nat) : (from_ s i).size = s.size - i := by
  rw [from_, ByteArray.size_extract]
  omega

/-- A frame that is told lies in the bytes. -/
theorem oneS_ok (s p : ByteArray) (n : Int) (h : oneS s = (p, n, 0)) : 10 ≤ n ∧ n ≤ s.size := by
  unfold oneS at h
  split at h
  · simp at h
  split at h
  · split at h
    · simp at h
    · unfold tailS at h
      split at h
      · simp at h
      split at h
      · simp at h
      split at h
      · simp at h
      split at h
      · have hr := numS_range (s.extract 2 6)
        simp at h
        omega
      · simp at h
  · simp at h

section
variable (s : ByteArray) (hs : s.size ≤ 1000000000)
include hs

omit hs in
theorem scan_end (acc : List ByteArray) (i : Nat) (lost : Int) (hi : s.size ≤ i) :
    Ev (fun k => frame_Scan.l0 k s acc (i : Int) lost) (acc, (i : Int), lost) := by
  refine Ev.step (f := fun _ => some (acc, (i : Int), lost)) (fun k => ?_) (Ev.now _)
  simp only [frame_Scan.l0]
  rw [if_neg (by omega)]

theorem scan_head (acc : List ByteArray) (i : Nat) (lost : Int) (hi : i < s.size) (q : List ByteArray × Int × Int)
    (h : Ev (fun k => if (oneS (from_ s i)).2.2 = 0 then (if acc.length < 8796093022208 then (frame_Scan.l0 k s (acc ++ [(oneS (from_ s i)).1]) (wrap64 (i + (oneS (from_ s i)).2.1)) lost) else (none)) else (if (oneS (from_ s i)).2.2 = 3 then (some (acc, (i : Int), lost)) else (frame_Scan.l0 k s acc (wrap64 (i + 1)) (wrap64 (lost + 1))))) q) :
    Ev (fun k => frame_Scan.l0 k s acc (i : Int) lost) q := by
  refine Ev.step (f := _) (fun k => by simp only [frame_Scan.l0]; rw [if_pos (by omega), if_pos (by omega), if_pos (by omega), Int.toNat_natCast]) ?_
  exact Ev.bind (frame_One_eq (from_ s i) (by rw [from_size]; omega)) h

theorem scan_ok (acc : List ByteArray) (i : Nat) (lost : Int) (p : ByteArray) (n : Nat) (hi : i < s.size) (ho : oneS (from_ s i) = (p, (n : Int), 0)) (ha : acc.length < 8796093022208)
    (q : List ByteArray × Int × Int) (h : Ev (fun k => frame_Scan.l0 k s (acc ++ [p]) ((i + n : Nat) : Int) lost) q) :
    Ev (fun k => frame_Scan.l0 k s acc (i : Int) lost) q := by
  refine scan_head s hs acc i lost hi q ?_
  have hn := oneS_ok _ _ _ ho
  rw [from_size] at hn
  rw [ho]
  refine evPos rfl (evPos ha ?_)
  have e : wrap64 ((i : Int) + (n : Int)) = ((i + n : Nat) : Int) := by rw [wrap64_id (by omega) (by omega)]; rfl
  simp only [e]
  exact h

theorem scan_short (acc : List ByteArray) (i : Nat) (lost : Int) (p : ByteArray) (n : Int) (hi : i < s.size) (ho : oneS (from_ s i) = (p, n, 3)) :
    Ev (fun k => frame_Scan.l0 k s acc (i : Int) lost) (acc, (i : Int), lost) := by
  refine scan_head s hs acc i lost hi _ ?_
  rw [ho]
  exact evNeg (show ¬ ((3 : Int) = 0) by decide) (evPos rfl (Ev.now _))

theorem scan_lost (acc : List ByteArray) (i : Nat) (lost : Nat) (p : ByteArray) (n e : Int) (hi : i < s.size) (hl : lost ≤ s.size) (ho : oneS (from_ s i) = (p, n, e)) (h0 : e ≠ 0) (h3 : e ≠ 3)
    (q : List ByteArray × Int × Int) (h : Ev (fun k => frame_Scan.l0 k s acc ((i + 1 : Nat) : Int) ((lost + 1 : Nat) : Int)) q) :
    Ev (fun k => frame_Scan.l0 k s acc (i : Int) (lost : Int)) q := by
  refine scan_head s hs acc i lost hi q ?_
  rw [ho]
  refine evNeg h0 (evNeg h3 ?_)
  have e1 : wrap64 ((i : Int) + 1) = ((i + 1 : Nat) : Int) := by rw [wrap64_id (by omega) (by omega)]; rfl
  have e2 : wrap64 ((lost : Int) + 1) = ((lost + 1 : Nat) : Int) := by rw [wrap64_id (by omega) (by omega)]; rfl
  rw [e1, e2]
  exact h

omit hs in
theorem rscan_end (acc : List ByteArray) (i : Nat) (lost : Int) (hi : s.size ≤ i) :
    Ev (fun k => barqueref02_Scan.l0 k s acc (i : Int) lost) (acc, (i : Int), lost) := by
  refine Ev.step (f := fun _ => some (acc, (i : Int), lost)) (fun k => ?_) (Ev.now _)
  simp only [barqueref02_Scan.l0]
  rw [if_neg (by omega)]

theorem rscan_head (acc : List ByteArray) (i : Nat) (lost : Int) (hi : i < s.size) (q : List ByteArray × Int × Int)
    (h : Ev (fun k => if (oneS (from_ s i)).2.2 = 3 then (some (acc, (i : Int), lost)) else (if (oneS (from_ s i)).2.2 = 0 then (if acc.length < 8796093022208 then (barqueref02_Scan.l0 k s (acc ++ [(oneS (from_ s i)).1]) (wrap64 (i + (oneS (from_ s i)).2.1)) lost) else (none)) else (barqueref02_Scan.l0 k s acc (wrap64 (i + 1)) (wrap64 (lost + 1))))) q) :
    Ev (fun k => barqueref02_Scan.l0 k s acc (i : Int) lost) q := by
  refine Ev.step (f := _) (fun k => by simp only [barqueref02_Scan.l0]; rw [if_pos (by omega), if_pos (by omega), if_pos (by omega), Int.toNat_natCast]) ?_
  exact Ev.bind (ref_One_eq (from_ s i) (by rw [from_size]; omega)) h

/-- Both scans tell the same. -/
theorem scans_agree (d : Nat) : ∀ (acc : List ByteArray) (i lost : Nat), i ≤ s.size → s.size - i ≤ d → acc.length ≤ i → lost ≤ i →
    ∃ q : List ByteArray × Int × Int, Ev (fun k => frame_Scan.l0 k s acc (i : Int) (lost : Int)) q ∧ Ev (fun k => barqueref02_Scan.l0 k s acc (i : Int) (lost : Int)) q ∧ q.1.length ≤ s.size := by
  induction d with
  | zero =>
    intro acc i lost hi hd ha hl
    exact ⟨_, scan_end s acc i lost (by omega), rscan_end s acc i lost (by omega), by simp; omega⟩
  | succ d ih =>
    intro acc i lost hi hd ha hl
    by_cases hlt : i < s.size
    · obtain ⟨p, n, e, ho⟩ : ∃ p n e, oneS (from_ s i) = (p, n, e) := ⟨_, _, _, rfl⟩
      by_cases h3 : e = 3
      · subst h3
        refine ⟨_, scan_short s hs acc i lost p n hlt ho, rscan_head s hs acc i lost hlt _ ?_, by simp; omega⟩
        rw [ho]
        exact evPos rfl (Ev.now _)
      by_cases h0 : e = 0
      · subst h0
        have hn := oneS_ok _ _ _ ho
        rw [from_size] at hn
        obtain ⟨m, rfl⟩ := Int.eq_ofNat_of_zero_le (show 0 ≤ n by omega)
        obtain ⟨q, h1, h2, h4⟩ := ih (acc ++ [p]) (i + m) lost (by omega) (by omega) (by simp; omega) (by omega)
        refine ⟨q, scan_ok s hs acc i lost p m hlt ho (by omega) q h1, rscan_head s hs acc i lost hlt q ?_, h4⟩
        rw [ho]
        refine evNeg (show ¬ ((0 : Int) = 3) by decide) (evPos rfl (evPos (by omega) ?_))
        have e : wrap64 ((i : Int) + (m : Int)) = ((i + m : Nat) : Int) := by rw [wrap64_id (by omega) (by omega)]; rfl
        simp only [e]
        exact h2
      · obtain ⟨q, h1, h2, h4⟩ := ih acc (i + 1) (lost + 1) (by omega) (by omega) (by omega) (by omega)
        refine ⟨q, scan_lost s hs acc i lost p n e hlt (by omega) ho h0 h3 q h1, rscan_head s hs acc i lost hlt q ?_, h4⟩
        rw [ho]
        refine evNeg h3 (evNeg h0 ?_)
        have e1 : wrap64 ((i : Int) + 1) = ((i + 1 : Nat) : Int) := by rw [wrap64_id (by omega) (by omega)]; rfl
        have e2 : wrap64 ((lost : Int) + 1) = ((lost + 1 : Nat) : Int) := by rw [wrap64_id (by omega) (by omega)]; rfl
        rw [e1, e2]
        exact h2
    · exact ⟨_, scan_end s acc i lost (by omega), rscan_end s acc i lost (by omega), by simp; omega⟩

end

/-- A list of texts is itself. -/
theorem texts_l0 (l : List ByteArray) (hl : l.length ≤ 1000000000) (d : Nat) : ∀ i : Nat, i ≤ l.length → l.length - i = d →
    Ev (fun k => barquelaw02_texts.l0 k l l (i : Int)) true := by
  induction d with
  | zero =>
    intro i hi hd
    refine Ev.step (f := fun _ => some true) (fun k => ?_) (Ev.now _)
    simp only [barquelaw02_texts.l0]
    rw [if_neg (by omega)]
  | succ d ih =>
    intro i hi hd
    refine Ev.step (f := fun k => barquelaw02_texts.l0 k l l ((i + 1 : Nat) : Int)) (fun k => ?_) (ih (i + 1) (by omega) (by omega))
    have e1 : wrap64 ((i : Int) + 1) = ((i + 1 : Nat) : Int) := by rw [wrap64_id (by omega) (by omega)]; rfl
    simp only [barquelaw02_texts.l0]
    rw [if_pos (by omega), if_pos (by omega), if_pos (by omega), if_pos trivial, e1]

theorem texts_same (l : List ByteArray) (hl : l.length ≤ 1000000000) : Ev (fun k => barquelaw02_texts.f k l l) true := by
  unfold barquelaw02_texts.f
  refine evPos rfl ?_
  exact texts_l0 l hl l.length 0 (by omega) (by omega)

end Go.Proofs.YtdomngcedflapaaW.Crc
