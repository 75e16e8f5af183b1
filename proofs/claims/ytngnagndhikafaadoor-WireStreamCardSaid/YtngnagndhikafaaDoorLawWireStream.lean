/- WireStream is true of every list of frames, list of strings and string. Conditions: in the theorem. -/
import Derived.Test.YtngnagndhikafaaDoorStream
import Derived.Test.YtngnagndhikafaaDoorOk
namespace Go.Sky
open Go Go.Eng Go.Glue

theorem par_rep {s : ByteArray} {n : Nat} {fs : List WireFrame} (hp : Par s n fs) (x : ByteArray) : Par (s ++ strings_ReplaceAll x ⟨#[83]⟩ ⟨#[]⟩) (n + (strings_ReplaceAll x ⟨#[83]⟩ ⟨#[]⟩).size) fs := by
  have := hp.app (Par.noise (rep_no x))
  rwa [List.append_nil] at this
theorem par_enc {s : ByteArray} {n : Nat} {fs : List WireFrame} (hp : Par s n fs) {f : WireFrame} (h : ((wire_Encode f).2 == 0) = true) : Par (s ++ (wire_Encode f).1) n (fs ++ [f]) := by
  obtain ⟨l, t, q, w⟩ := whole_of (f := f) (by simp at h ⊢; exact h)
  rw [w.enc]
  exact hp.app (Par.frame w)

theorem stream_step {s : ByteArray} {n : Nat} {fs : List WireFrame} (hp : Par s n fs) (f : WireFrame) (k z : Nat) (hs : s.size ≤ 700 * k + z) (hz : z ≤ 50) : ∃ s', cond ((wire_Encode f).2 == 0) (s ++ (wire_Encode f).1, fs ++ [f]) (s, fs) = s' ∧ Par s'.1 n s'.2 ∧ s'.1.size ≤ 700 * (k + 1) := by
  refine ⟨_, rfl, ?_⟩
  have he := enc_le (f := f) rfl
  cases h : ((wire_Encode f).2 == 0)
  · rw [cond_false]
    exact ⟨hp, by show s.size ≤ _; omega⟩
  · rw [cond_true]
    refine ⟨par_enc hp h, ?_⟩
    show (s ++ (wire_Encode f).1).size ≤ _
    rw [ByteArray.size_append]
    omega

theorem stream_run (between : List ByteArray) : ∀ (xs : List WireFrame) (k : Nat) (s : ByteArray) (n : Nat) (want : List WireFrame), Par s n want → s.size ≤ 700 * k → k + xs.length ≤ 6 →
    ∃ (s' : ByteArray) (n' : Nat) (w' : List WireFrame), skywaykeep2_WireStream_L1 between xs k s (n : Int) want = (s', (n' : Int), w') ∧ Par s' n' w' ∧ s'.size ≤ 4200
  | [], k, s, n, want, hp, hs, hk => ⟨s, n, want, rfl, hp, by have : k + 0 ≤ 6 := hk; omega⟩
  | x :: xs, k, s, n, want, hp, hs, hk => by
    rw [List.length_cons] at hk
    have hn := hp.len
    unfold skywaykeep2_WireStream_L1
    simp only
    generalize hb : (between[k]?.getD (⟨#[]⟩ : ByteArray)) = b
    cases decide ((k : Int) < (between.length : Int))
    · rw [cond_false]
      obtain ⟨⟨s1, w1⟩, e, hp1, hs1⟩ := stream_step hp x k 0 hs (by decide)
      cases h : ((wire_Encode x).2 == 0)
      · rw [h] at e
        cases e
        rw [cond_false]
        exact stream_run between xs (k + 1) _ n _ hp1 hs1 (by omega)
      · rw [h] at e
        cases e
        rw [cond_true]
        exact stream_run between xs (k + 1) _ n _ hp1 hs1 (by omega)
    · rw [cond_true]
      have hr := rep_le (x := b) rfl
      have hp2 := par_rep hp (b.extract 0 (imin (b.size : Int) 50).toNat)
      generalize strings_ReplaceAll (b.extract 0 (imin (b.size : Int) 50).toNat) ⟨#[83]⟩ ⟨#[]⟩ = r at hr hp2 ⊢
      have hl : w64 ((n : Int) + (r.size : Int)) = ((n + r.size : Nat) : Int) := by rw [w64_id (by omega)]; omega
      rw [hl]
      obtain ⟨⟨s1, w1⟩, e, hp1, hs1⟩ := stream_step hp2 x k 50 (by rw [ByteArray.size_append]; omega) (by decide)
      cases h : ((wire_Encode x).2 == 0)
      · rw [h] at e
        cases e
        rw [cond_false]
        exact stream_run between xs (k + 1) _ (n + r.size) _ hp1 hs1 (by omega)
      · rw [h] at e
        cases e
        rw [cond_true]
        exact stream_run between xs (k + 1) _ (n + r.size) _ hp1 hs1 (by omega)

theorem stream_same (between : List ByteArray) : ∀ (xs : List WireFrame) (k : Nat) (s : ByteArray) (n : Int) (want : List WireFrame), skywaykeep2_WireStream_L2 between xs k s n want = skywaykeep2_WireStream_L1 between xs k s n want
  | [], _, _, _, _ => rfl
  | x :: xs, k, s, n, want => by
    unfold skywaykeep2_WireStream_L1 skywaykeep2_WireStream_L2
    simp only [stream_same between xs]

theorem equal_frames {s : List WireFrame} : ∀ (xs : List WireFrame) (k : Nat), s.drop k = xs → EqualFunc_frame_L1 s xs k = .inl ()
  | [], _, _ => rfl
  | x :: xs, k, hd => by
    have d1 : s.drop (k + 1) = xs := by rw [← List.drop_drop, hd]; rfl
    have d2 : s[k]? = some x := by
      have : (s.drop k)[0]? = some x := by rw [hd]; rfl
      rwa [List.getElem?_drop, Nat.add_zero] at this
    unfold EqualFunc_frame_L1
    simp only
    rw [d2, Option.getD_some, same_self, Bool.not_true, cond_false]
    exact equal_frames xs (k + 1) d1
theorem equal_frame_self (s : List WireFrame) : EqualFunc_frame s s = true := by
  unfold EqualFunc_frame
  rw [bne_self_eq_false, cond_false, equal_frames s 0 List.drop_zero]
  rfl

theorem tail_ok : ((wire_Encode ⟨1, 2, []⟩).2 == 0) = true := by kernel_rfl

/-- What Scan answers at a stream with the beginning of a frame behind it. -/
theorem scan_stream {s : ByteArray} {n : Nat} {fs : List WireFrame} (hp : Par s n fs) (hs : s.size ≤ 4200) (c : Nat) (hc : c ≤ 10) :
    wire_Scan (s ++ (wire_Encode ⟨1, 2, []⟩).1.extract 0 c) = (fs, (n : Int), (wire_Encode ⟨1, 2, []⟩).1.extract 0 c, 0) := by
  obtain ⟨l, t, q, w⟩ := whole_of (f := ⟨1, 2, []⟩) (by have := tail_ok; simp at this ⊢; exact this)
  rw [w.enc]
  have hlen := w.len
  have hd : (wire_Decode ((strOf l).extract 0 c)).2.2 = 8 := back_cut w c (by omega)
  have hz : ((strOf l).extract 0 c).size ≤ 10 := by rw [ByteArray.size_extract]; omega
  show wire_Scan (s ++ (strOf l).extract 0 c) = (fs, (n : Int), (strOf l).extract 0 c, 0)
  generalize (strOf l).extract 0 c = u at hd hz ⊢
  have hn := hp.len
  unfold wire_Scan
  rw [decide_eq_false (by rw [ByteArray.size_append]; omega), cond_false]
  have e : (s ++ u).size + 1 = n + fs.length + ((s ++ u).size - n - fs.length + 1) := by rw [ByteArray.size_append]; omega
  have hrun := hp.run u ((s ++ u).size - n - fs.length + 1) [] 0 (by omega)
  rw [← e, Nat.zero_add, List.nil_append] at hrun
  rw [show ((0 : Nat) : Int) = 0 from rfl] at hrun
  rw [hrun]
  conv => lhs; unfold wire_Scan_L1
  simp only
  rw [hd, show ((8 : Int) == 0) = false from rfl, cond_false, show ((8 : Int) == 8) = true from rfl, cond_true]
  rfl

theorem WireStream_all (l : List WireFrame) (between : List ByteArray) (end_ : ByteArray) : skywaykeep2_WireStream l between end_ = true := by
  have fin : ∀ (s : ByteArray) (n : Nat) (fs : List WireFrame), Par s n fs → s.size ≤ 4200 → cond (((wire_Scan (s ++ (wire_Encode ⟨1, 2, []⟩).1.extract 0 (imin (end_.size : Int) 10).toNat)).2.2.2 == 0) && ((wire_Scan (s ++ (wire_Encode ⟨1, 2, []⟩).1.extract 0 (imin (end_.size : Int) 10).toNat)).2.1 == (n : Int)) &&
      (seq (wire_Scan (s ++ (wire_Encode ⟨1, 2, []⟩).1.extract 0 (imin (end_.size : Int) 10).toNat)).2.2.1 ((wire_Encode ⟨1, 2, []⟩).1.extract 0 (imin (end_.size : Int) 10).toNat)))
      (EqualFunc_frame (wire_Scan (s ++ (wire_Encode ⟨1, 2, []⟩).1.extract 0 (imin (end_.size : Int) 10).toNat)).1 fs) false = true := by
    intro s n fs hp hs
    have hi := imin_r (end_.size : Int) 10
    rw [scan_stream hp hs _ (by omega)]
    simp only
    rw [seq_self, equal_frame_self, show ((n : Int) == (n : Int)) = true from beq_self_eq_true _]
    rfl
  unfold skywaykeep2_WireStream
  rw [frames_true]
  simp only [Bool.not_true, cond_false, tail_ok, cond_true]
  cases h : decide ((l.length : Int) > 6)
  · rw [cond_false]
    obtain ⟨s, n, fs, e, hp, hs⟩ := stream_run between l 0 ⟨#[]⟩ 0 [] Par.nil (Nat.zero_le _) (by have := of_decide_eq_false h; omega)
    rw [stream_same, show (0 : Int) = ((0 : Nat) : Int) from rfl, e]
    exact fin s n fs hp hs
  · rw [cond_true]
    obtain ⟨s, n, fs, e, hp, hs⟩ := stream_run between (l.take 6) 0 ⟨#[]⟩ 0 [] Par.nil (Nat.zero_le _) (by rw [List.length_take]; omega)
    rw [show (0 : Int) = ((0 : Nat) : Int) from rfl, e]
    exact fin s n fs hp hs
end Go.Sky
