/- Chapter 7: the reference's composition, and the program's, say the same. -/
import Derived.Test.YtjgelmfkoefclaaCompLaw
import Derived.Test.YtjgelmfkoefclaaPureTidy
import Derived.Test.YtjgelmfkoefclaaPAllx20
import Derived.Test.YtjgelmfkoefclaaPAllx22
namespace Go.Proofs.Ytjgelmfkoefclaa.Pure
open Go.RowKit Go.Proofs.YtjgelmfkoefclaaW.PrintWords Go.Proofs.YtjgelmfkoefclaaW.PrintLast Go.Proofs.YtjgelmfkoefclaaW.PrintMore Go.Proofs.Ytjgelmfkoefclaa.PAll
set_option linter.unusedVariables false
set_option linter.unusedSimpArgs false

/-! ### what is right, as the reference has it -/
theorem refstep_f (x : S54) (h0 : -9223372036854775808 ≤ x.f0) (h1 : x.f0 ≤ 9223372036854775807) : barqueref06_step.f x.f0 x.f1 x.f2 = some (decide (stepOk x)) := by
  unfold barqueref06_step.f
  by_cases hs : x.f2.size = 0
  · rw [if_pos ((nil_size _).2 hs)]
    by_cases a1 : x.f1 > 0
    · rw [if_pos a1]
      by_cases a3 : x.f1 ≤ 524288
      · rw [if_pos a3]
        by_cases a2 : x.f0 ≥ 0
        · rw [if_pos a2]
          have hw : wrap64 (524288 - x.f1) = 524288 - x.f1 := by unfold wrap64; omega
          rw [hw]
          refine congrArg some ?_
          rw [Bool.eq_iff_iff, decide_eq_true_eq, decide_eq_true_eq]
          unfold stepOk; rw [if_pos hs]; omega
        · rw [if_neg a2]; exact congrArg some (decide_eq_false (by unfold stepOk; rw [if_pos hs]; omega)).symm
      · rw [if_neg a3]; exact congrArg some (decide_eq_false (by unfold stepOk; rw [if_pos hs]; omega)).symm
    · rw [if_neg a1]; exact congrArg some (decide_eq_false (by unfold stepOk; rw [if_pos hs]; omega)).symm
  · rw [if_neg (fun h => hs ((nil_size _).1 h))]
    by_cases a1 : x.f0 = 0
    · rw [if_pos a1]
      by_cases a2 : x.f1 = 0
      · rw [if_pos a2]
        refine congrArg some ?_
        rw [Bool.eq_iff_iff, decide_eq_true_eq, decide_eq_true_eq]
        unfold stepOk; rw [if_neg hs]; omega
      · rw [if_neg a2]; exact congrArg some (decide_eq_false (by unfold stepOk; rw [if_neg hs]; omega)).symm
    · rw [if_neg a1]; exact congrArg some (decide_eq_false (by unfold stepOk; rw [if_neg hs]; omega)).symm
theorem restB_end (size : Int) (n : Nat) (l : List S54) (h : size < n) : restB size n l = false := restB_big size n l h
theorem refRight_l0 (l : List S54) (hin : In64 l) (g0 g1 : ByteArray) (size : Int) (hs0 : 0 ≤ size) (hs1 : size ≤ 524288) (hl : l.length ≤ 1000000) (d : Nat) : ∀ (k i n : Nat), l.length - i = d → i ≤ l.length → n ≤ 1048576 → d < k →
    barqueref06_Right.l0 k (n : Nat) (i : Nat) g0 g1 size l = some (restB size n (l.drop i)) := by
  induction d with
  | zero =>
    intro k i n hd hi hn hk
    obtain ⟨k, rfl⟩ : ∃ m, k = m + 1 := ⟨k - 1, by omega⟩
    rw [barqueref06_Right.l0, if_neg (by omega), List.drop_of_length_le (by omega), restB_nil]
  | succ d ih =>
    intro k i n hd hi hn hk
    obtain ⟨k, rfl⟩ : ∃ m, k = m + 1 := ⟨k - 1, by omega⟩
    have hil : i < l.length := by omega
    have hdr : l.drop i = l[i] :: l.drop (i + 1) := List.drop_eq_getElem_cons hil
    have hmem : l[i] ∈ l := List.getElem_mem hil
    rw [barqueref06_Right.l0, if_pos (by omega), if_pos (by omega), rdS_nat l i hil]
    have hb := hin _ hmem
    rw [hdr]
    clear hdr
    obtain ⟨x, hx⟩ : ∃ x, l[i] = x := ⟨_, rfl⟩
    rw [hx] at hb ⊢
    rw [refstep_f x hb.1 hb.2, Option.bind_some]
    by_cases hok : stepOk x
    · rw [if_pos (decide_eq_true hok)]
      obtain ⟨s1, s2, s3, s4, s5⟩ := stepOk_len hok
      by_cases hgt : (n : Int) > size
      · rw [if_pos hgt, restB_cons _ _ _ _ hok, restB_big _ _ _ (by omega)]
      · rw [if_neg hgt, restB_cons _ _ _ _ hok]
        have hw : wrap64 (wrap64 ((n : Int) + x.f1) + (x.f2.size : Int)) = ((n + lenN x : Nat) : Int) := by
          unfold lenN at *
          rw [wrap_in (show in64 ((n : Int) + x.f1) by unfold in64; omega), wrap_in (show in64 _ by unfold in64; omega)]; omega
        rw [hw, show wrap64 ((i : Int) + 1) = ((i + 1 : Nat) : Int) from wrap_nat i 1 (by omega), ih k (i + 1) (n + lenN x) (by omega) (by omega) (by omega) (by omega)]
    · rw [if_neg (by rw [decide_eq_true_eq]; exact hok), restB_bad _ _ _ _ hok]
theorem refRight_f (g0 g1 : ByteArray) (size : Int) (l : List S54) (hin : In64 l) (hl : l.length ≤ 1000000) (k : Nat) (hk : l.length + 2 < k) : barqueref06_Right.f k g0 g1 size l = some (rightV g0 g1 size l) := by
  have hfalse : ∀ k, 0 < k → ∀ a b c d, barqueref06_Right.j0 k true a b c d = some false := fun k hk a b c d => by
    obtain ⟨k, rfl⟩ : ∃ m, k = m + 1 := ⟨k - 1, by omega⟩
    rw [barqueref06_Right.j0, if_pos rfl]
  unfold barqueref06_Right.f
  by_cases h0 : (g0.size : Int) = 32
  · rw [if_pos h0]
    by_cases h1 : (g1.size : Int) = 32
    · rw [if_pos h1]
      by_cases h2 : size < 0
      · rw [if_pos h2, hfalse k (by omega)]; exact congrArg some (decide_eq_false (fun h => by unfold RightP at h; omega)).symm
      · rw [if_neg h2]
        by_cases h3 : size > 524288
        · rw [decide_eq_true h3, hfalse k (by omega)]; exact congrArg some (decide_eq_false (fun h => by unfold RightP at h; omega)).symm
        · rw [decide_eq_false h3]
          obtain ⟨k, rfl⟩ : ∃ m, k = m + 1 := ⟨k - 1, by omega⟩
          rw [barqueref06_Right.j0, if_neg (by decide)]
          have := refRight_l0 l hin g0 g1 size (by omega) (by omega) hl l.length k 0 0 (by omega) (by omega) (by omega) (by omega)
          rw [List.drop_zero] at this
          refine this.trans (congrArg some ?_)
          unfold restB rightV
          rw [Bool.eq_iff_iff, decide_eq_true_eq, decide_eq_true_eq, Nat.zero_add]
          unfold RightP
          constructor
          · rintro ⟨a, b⟩; exact ⟨by omega, by omega, by omega, by omega, a, b⟩
          · rintro ⟨_, _, _, _, a, b⟩; exact ⟨a, b⟩
    · rw [if_neg h1, hfalse k (by omega)]; exact congrArg some (decide_eq_false (fun h => by unfold RightP at h; omega)).symm
  · rw [if_neg h0, hfalse k (by omega)]; exact congrArg some (decide_eq_false (fun h => by unfold RightP at h; omega)).symm

/-! ### bytes of pieces -/
theorem told_len (s : ByteArray) : (told s).length = s.size := by simp [told]
theorem froms_len (p : Int) (n : Nat) : (froms p n).length = n := by simp [froms]
theorem bytes1_len (x : S54) (h : stepOk x) : (bytes1 x).length = lenN x := by
  unfold bytes1 lenN
  unfold stepOk at h
  split
  · rename_i h0
    rw [if_neg h0] at h
    rw [told_len, h.2.1]; omega
  · rename_i h0
    rw [froms_len]; omega
theorem told_get (s : ByteArray) (i : Nat) (h : i < (told s).length) : (told s)[i]'h = ⟨true, 0, bt s (i : Nat)⟩ := by simp [told]
theorem froms_get (p : Int) (n i : Nat) (h : i < (froms p n).length) : (froms p n)[i]'h = ⟨false, wrap64 (p + (i : Nat)), 0⟩ := by simp [froms]
theorem told_cut (s : ByteArray) (off k : Nat) (h : off + k ≤ s.size) : told (s.extract off (off + k)) = ((told s).drop off).take k := by
  apply List.ext_getElem
  · rw [told_len, ByteArray.size_extract, List.length_take, List.length_drop, told_len]; omega
  · intro i h1 h2
    rw [List.getElem_take, List.getElem_drop, told_get, told_get]
    rw [told_len, ByteArray.size_extract] at h1
    congr 1
    unfold bt
    simp only [Int.toNat_natCast]
    rw [dif_pos (by rw [ByteArray.size_extract]; omega), dif_pos (by omega)]
    congr 2
    exact ByteArray.getElem_extract _
theorem froms_cut (p : Int) (n off k : Nat) (h : off + k ≤ n) : froms (wrap64 (p + off)) k = ((froms p n).drop off).take k := by
  apply List.ext_getElem
  · rw [froms_len, List.length_take, List.length_drop, froms_len]; omega
  · intro i h1 h2
    rw [List.getElem_take, List.getElem_drop, froms_get, froms_get, wrap_addl]
    congr 2
    omega
theorem cut_bytes (x : S54) (h : stepOk x) (off k : Nat) (hk : off + k ≤ lenN x) : bytes1 (cutV x off k) = ((bytes1 x).drop off).take k := by
  unfold cutV
  unfold lenN at hk
  unfold stepOk at h
  split
  · rename_i h0
    rw [if_pos h0] at h
    have e1 : bytes1 x = froms x.f0 x.f1.toNat := by unfold bytes1; rw [if_neg (fun hh => hh h0)]
    rw [e1, ← froms_cut _ _ _ _ (by omega)]
    unfold bytes1
    rw [if_neg (fun hh => hh rfl)]
    simp only [Int.toNat_natCast]
  · rename_i h0
    rw [if_neg h0] at h
    have e1 : bytes1 x = told x.f2 := by unfold bytes1; rw [if_pos h0]
    rw [e1, ← told_cut _ _ _ (by omega)]
    unfold bytes1
    simp only
    split
    · rfl
    · rename_i h2
      have hz : k = 0 := by rw [ByteArray.size_extract] at h2; omega
      subst hz
      rw [show told (x.f2.extract off (off + 0)) = [] from List.eq_nil_of_length_eq_zero (by rw [told_len, ByteArray.size_extract]; omega)]
      rfl
def AllOk (l : List S54) : Prop := ∀ x ∈ l, stepOk x
theorem AllOk.good {l : List S54} (h : AllOk l) : GoodSteps l := fun x hx => by
  obtain ⟨a, b, c, _⟩ := stepOk_len (h x hx)
  exact ⟨a, b, c⟩
theorem bytesV_cons (x : S54) (l : List S54) : bytesV (x :: l) = bytes1 x ++ bytesV l := by simp [bytesV]
theorem bytesV_len (l : List S54) (h : AllOk l) : (bytesV l).length = sumN l := by
  induction l with
  | nil => rfl
  | cons x l ih => rw [bytesV_cons, List.length_append, bytes1_len x (h x (List.mem_cons_self ..)), ih (fun y hy => h y (List.mem_cons_of_mem _ hy)), sumN_cons]
theorem pieceN_bytes (l : List S54) (h : AllOk l) (off n : Nat) (hs : off + n ≤ sumN l) (ho : 0 < n → ∀ x r, l = x :: r → off < lenN x) : bytesV (pieceN l off n) = ((bytesV l).drop off).take n := by
  induction l generalizing off n with
  | nil =>
    have : n = 0 := by simp [sumN] at hs; omega
    subst this; rfl
  | cons x r ih =>
    rw [pieceN]
    split
    · rename_i h0; subst h0; simp [bytesV]
    · rename_i h0
      have hx := h x (List.mem_cons_self ..)
      have hlx := bytes1_len x hx
      have hox := ho (by omega) x r rfl
      rw [sumN_cons] at hs
      have hr : AllOk r := fun y hy => h y (List.mem_cons_of_mem _ hy)
      rw [bytesV_cons, cut_bytes x hx off _ (by omega), bytesV_cons, ih hr 0 (n - min n (lenN x - off)) (by omega) (fun hp y r' e => by have := (stepOk_len (hr y (by rw [e]; exact List.mem_cons_self ..))).1; omega)]
      rw [List.drop_append, List.take_append, List.length_drop, hlx, show off - lenN x = 0 by omega]
      by_cases hn : n ≤ lenN x - off
      · rw [Nat.min_eq_left hn, Nat.sub_self]
        simp only [List.drop_zero, List.take_zero]
        rw [show n - (lenN x - off) = 0 by omega]
        simp
      · rw [Nat.min_eq_right (by omega)]
        congr 1
        rw [List.take_of_length_le (by rw [List.length_drop, hlx]; omega), List.take_of_length_le (by rw [List.length_drop, hlx]; omega)]
theorem pieceAt_bytes (l : List S54) (h : AllOk l) (a n : Nat) (hs : a + n ≤ sumN l) : bytesV (pieceAt l a n) = ((bytesV l).drop a).take n := by
  induction l generalizing a with
  | nil =>
    have : n = 0 := by simp [sumN] at hs; omega
    subst this; rfl
  | cons x r ih =>
    rw [pieceAt]
    split
    · rename_i hlt
      exact pieceN_bytes (x :: r) h a n hs (fun _ y r' e => by injection e with e1 e2; rw [← e1]; exact hlt)
    · rename_i hlt
      rw [sumN_cons] at hs
      have hr : AllOk r := fun y hy => h y (List.mem_cons_of_mem _ hy)
      rw [ih hr (a - lenN x) (by omega), bytesV_cons, List.drop_append, bytes1_len x (h x (List.mem_cons_self ..)), List.drop_of_length_le (l := bytes1 x) (by rw [bytes1_len x (h x (List.mem_cons_self ..))]; omega), List.nil_append]
/-- Both numbers of a step fit. -/
def FitS (l : List S54) : Prop := ∀ x ∈ l, in64 x.f0 ∧ in64 x.f1
theorem wrap_in64 (n : Int) : in64 (wrap64 n) := by unfold in64 wrap64; omega
theorem cutV_fit (x : S54) (off k : Nat) (h : k ≤ 1000000) : in64 (cutV x off k).f0 ∧ in64 (cutV x off k).f1 := by
  unfold cutV
  split
  · exact ⟨wrap_in64 _, by show in64 (k : Int); unfold in64; omega⟩
  · exact ⟨by show in64 0; unfold in64; omega, by show in64 0; unfold in64; omega⟩
theorem pieceN_fit (l : List S54) (off n : Nat) (h : n ≤ 1000000) : FitS (pieceN l off n) := by
  induction l generalizing off n with
  | nil => intro y hy; cases hy
  | cons x r ih =>
    rw [pieceN]
    split
    · intro y hy; cases hy
    · intro y hy
      rcases List.mem_cons.mp hy with rfl | hy
      · exact cutV_fit _ _ _ (by omega)
      · exact ih 0 _ (by omega) y hy
theorem pieceAt_fit (l : List S54) (a n : Nat) (h : n ≤ 1000000) : FitS (pieceAt l a n) := by
  induction l generalizing a with
  | nil => intro y hy; cases hy
  | cons x r ih =>
    rw [pieceAt]
    split
    · exact pieceN_fit _ _ _ h
    · exact ih _

/-! ### byte by byte -/
def bcomp (x : List S59) : List S59 → List S59 → Option (List S59)
  | [], out => some out
  | b :: r, out => if b.f0 = true then bcomp x r (out ++ [b]) else if b.f1 ≥ (x.length : Int) then none else bcomp x r (out ++ [rd_T59 x b.f1])
theorem bcomp_told (x : List S59) (t r out : List S59) (h : ∀ b ∈ t, b.f0 = true) : bcomp x (t ++ r) out = bcomp x r (out ++ t) := by
  induction t generalizing out with
  | nil => simp
  | cons b t ih =>
    rw [List.cons_append, bcomp, if_pos (h b (List.mem_cons_self ..)), ih _ (fun c hc => h c (List.mem_cons_of_mem _ hc)), List.append_assoc, List.singleton_append]
theorem bcomp_froms (x : List S59) (n : Nat) : ∀ (p : Nat) (r out : List S59), p + n ≤ 2000000 → bcomp x (froms p n ++ r) out = if p + n > x.length ∧ 0 < n then none else bcomp x r (out ++ (x.drop p).take n) := by
  induction n with
  | zero => intro p r out h; simp [froms]
  | succ n ih =>
    intro p r out h
    have e : froms (p : Nat) (n + 1) = ⟨false, (p : Nat), 0⟩ :: froms ((p + 1 : Nat) : Int) n := by
      rw [Nat.add_comm n 1, froms_add]
      have e1 : froms (p : Nat) 1 = [⟨false, (p : Nat), 0⟩] := by
        unfold froms
        simp only [List.range_one, List.map_cons, List.map_nil]
        rw [show ((p : Nat) : Int) + ((0 : Nat) : Int) = (p : Int) by omega, wrap_in (by unfold in64; omega)]
      rw [e1, show wrap64 ((p : Int) + ((1 : Nat) : Int)) = ((p + 1 : Nat) : Int) from by rw [wrap_in (by unfold in64; omega)]; omega]
      rfl
    rw [e, List.cons_append, bcomp, if_neg (by simp)]
    by_cases hp : p < x.length
    · rw [if_neg (by show ¬ ((p : Int) ≥ (x.length : Int)); omega), ih (p + 1) r _ (by omega)]
      have hrd : rd_T59 x ((p : Nat) : Int) = x[p] := rd70_nat x p hp
      have htk : (x.drop p).take (n + 1) = x[p] :: (x.drop (p + 1)).take n := by rw [List.drop_eq_getElem_cons hp, List.take_succ_cons]
      show (if p + 1 + n > x.length ∧ 0 < n then none else bcomp x r (out ++ [rd_T59 x ((p : Nat) : Int)] ++ (x.drop (p + 1)).take n)) = _
      rw [hrd, htk, List.append_assoc, List.singleton_append]
      by_cases hc : p + (n + 1) > x.length
      · rw [if_pos ⟨by omega, by omega⟩, if_pos ⟨hc, by omega⟩]
      · rw [if_neg (by omega), if_neg (by omega)]
    · rw [if_pos (by show (p : Int) ≥ (x.length : Int); omega), if_pos ⟨by omega, by omega⟩]
theorem bcomp_steps (l0 : List S54) (h0 : AllOk l0) (hs : sumN l0 ≤ 524288) (l1 : List S54) (h1 : AllOk l1) : ∀ out : List S54, FitS out →
    (compF l0 (sumN l0) l1 out = none → bcomp (bytesV l0) (bytesV l1) (bytesV out) = none) ∧
    (∀ o, compF l0 (sumN l0) l1 out = some o → bcomp (bytesV l0) (bytesV l1) (bytesV out) = some (bytesV o) ∧ FitS o) := by
  have hlen := bytesV_len l0 h0
  induction l1 with
  | nil => intro out hf; refine ⟨fun h => by simp [compF] at h, fun o h => ?_⟩; rw [compF] at h; obtain rfl := Option.some.inj h; exact ⟨rfl, hf⟩
  | cons x r ih =>
    intro out hf
    have hx := h1 x (List.mem_cons_self ..)
    have hr : AllOk r := fun y hy => h1 y (List.mem_cons_of_mem _ hy)
    rw [compF, bytesV_cons]
    by_cases ht : x.f2.size = 0
    · rw [if_neg (fun h => h ht)]
      have hx2 := hx
      unfold stepOk at hx2
      rw [if_pos ht] at hx2
      have e1 : bytes1 x = froms x.f0 x.f1.toNat := by unfold bytes1; rw [if_neg (fun hh => hh ht)]
      obtain ⟨p, hp⟩ := Int.eq_ofNat_of_zero_le hx2.2.1
      have hpn : x.f0.toNat = p := by rw [hp]; rfl
      rw [e1, hp, bcomp_froms _ _ p _ _ (by omega), hlen]
      by_cases hgt : x.f0 + x.f1 > (sumN l0 : Int)
      · rw [← hp, if_pos hgt, if_pos ⟨by omega, by omega⟩]
        exact ⟨fun _ => rfl, fun o h => by cases h⟩
      · rw [← hp, if_neg hgt, if_neg (by omega), hpn]
        have hb := pieceAt_bytes l0 h0 p x.f1.toNat (by omega)
        have := ih hr (out ++ pieceAt l0 p x.f1.toNat) (fun y hy => by
          rcases List.mem_append.mp hy with hy | hy
          · exact hf y hy
          · exact pieceAt_fit l0 p _ (by omega) y hy)
        rw [bytesV_append, hb] at this
        exact this
    · rw [if_pos ht]
      have e1 : bytes1 x = told x.f2 := by unfold bytes1; rw [if_pos ht]
      rw [e1, bcomp_told _ _ _ _ (fun b hb => by unfold told at hb; obtain ⟨i, _, rfl⟩ := List.mem_map.mp hb; rfl)]
      have hx2 := hx
      unfold stepOk at hx2
      rw [if_neg ht] at hx2
      have := ih hr (out ++ [x]) (fun y hy => by
          rcases List.mem_append.mp hy with hy | hy
          · exact hf y hy
          · rw [List.mem_singleton.mp hy, hx2.1, hx2.2.1]; exact ⟨by unfold in64; omega, by unfold in64; omega⟩)
      rw [bytesV_append, bytesV_one, e1] at this
      exact this
end Go.Proofs.Ytjgelmfkoefclaa.Pure
