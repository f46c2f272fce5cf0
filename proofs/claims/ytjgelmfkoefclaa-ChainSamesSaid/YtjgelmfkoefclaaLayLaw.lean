/- Deltas as what they make byte by byte, and put together: the order is all one. -/
import Derived.Test.YtjgelmfkoefclaaBase
import Derived.Test.YtjgelmfkoefclaaBasd
import Derived.Test.YtjgelmfkoefclaaRunLaw
namespace Go.Proofs.Ytjgelmfkoefclaa.Pure
open Go.RowKit Go.Proofs.YtjgelmfkoefclaaW.PrintWords Go.Proofs.YtjgelmfkoefclaaW.PrintLast Go.Proofs.YtjgelmfkoefclaaW.PrintMore Go.Proofs.Ytjgelmfkoefclaa.PAll
set_option linter.unusedVariables false
set_option linter.unusedSimpArgs false

def cmp (x y : List S59) : List S59 := y.map (fun b => if b.f0 = true then b else rd_T59 x b.f1)
theorem cmp_app (x a b : List S59) : cmp x (a ++ b) = cmp x a ++ cmp x b := by unfold cmp; exact List.map_append
theorem cmp_len (x a : List S59) : (cmp x a).length = a.length := by unfold cmp; exact List.length_map _
theorem told_told (s : ByteArray) : ∀ b ∈ told s, b.f0 = true := fun b hb => by
  unfold told at hb
  obtain ⟨i, _, rfl⟩ := List.mem_map.1 hb
  rfl
theorem cmp_told (x : List S59) (s : ByteArray) : cmp x (told s) = told s := by
  unfold cmp
  conv => rhs; rw [← List.map_id (told s)]
  exact List.map_congr_left (fun b hb => by rw [if_pos (told_told s b hb)]; rfl)
theorem cmp_froms (x : List S59) (p n : Nat) (h : p + n ≤ x.length) (hx : x.length ≤ 2000000) : cmp x (froms (p : Nat) n) = (x.drop p).take n := by
  unfold cmp
  apply List.ext_getElem
  · rw [List.length_map, froms_len, List.length_take, List.length_drop]; omega
  · intro i h1 h2
    have h3 : i < n := by rw [List.length_map, froms_len] at h1; exact h1
    rw [List.getElem_map, froms_get, if_neg (by simp), List.getElem_take, List.getElem_drop]
    show rd_T59 x (wrap64 ((p : Nat) + (i : Nat))) = _
    rw [wrap_in (by unfold in64; omega), show ((p : Nat) : Int) + (i : Nat) = ((p + i : Nat) : Int) by omega]
    exact rd70_nat x (p + i) (by omega)
def Lay (m n : Nat) (l : List S54) : Prop := (∀ x ∈ l, okB m x) ∧ sumN l = n
theorem Lay.all {m n : Nat} {l : List S54} (h : Lay m n l) : AllOk l := fun x hx => (h.1 x hx).1
theorem bytes1_in {m : Nat} (hm : m ≤ 524288) {x : S54} (h : okB m x) : ∀ b ∈ bytes1 x, b.f0 = true ∨ (0 ≤ b.f1 ∧ b.f1 < m) := fun b hb => by
  obtain ⟨h1, h2⟩ := h
  unfold bytes1 at hb
  unfold stepOk at h1
  split at hb
  · exact .inl (told_told _ b hb)
  · rename_i h0
    have h0' : x.f2.size = 0 := by omega
    rw [if_pos h0'] at h1
    have h3 := h2 h0'
    unfold froms at hb
    obtain ⟨k, hk, rfl⟩ := List.mem_map.1 hb
    have hk := List.mem_range.1 hk
    right
    show 0 ≤ wrap64 _ ∧ wrap64 _ < _
    rw [wrap_in (by unfold in64; omega)]
    omega
theorem Lay.in {m n : Nat} {l : List S54} (h : Lay m n l) (hm : m ≤ 524288) : ∀ b ∈ bytesV l, b.f0 = true ∨ (0 ≤ b.f1 ∧ b.f1 < m) := fun b hb => by
  unfold bytesV at hb
  obtain ⟨x, hx, hb⟩ := List.mem_flatMap.1 hb
  exact bytes1_in hm (h.1 x hx) b hb
theorem Lay.len {m n : Nat} {l : List S54} (h : Lay m n l) : (bytesV l).length = n := (bytesV_len l h.all).trans h.2
theorem cut_ok {m : Nat} (hm : m ≤ 524288) {x : S54} (h : okB m x) (off k : Nat) (hk : off + k ≤ lenN x) (h0 : 0 < k) : okB m (cutV x off k) := by
  obtain ⟨h1, h2⟩ := h
  unfold stepOk at h1
  unfold cutV lenN at *
  by_cases h3 : x.f2.size = 0
  · rw [if_pos h3] at h1 ⊢
    have h4 := h2 h3
    refine ⟨?_, fun _ => ?_⟩
    · unfold stepOk
      rw [if_pos (show (⟨#[]⟩ : ByteArray).size = 0 from rfl)]
      show 0 < ((k : Nat) : Int) ∧ 0 ≤ wrap64 _ ∧ ((k : Nat) : Int) ≤ 524288 ∧ wrap64 _ ≤ 524288 - ((k : Nat) : Int)
      rw [wrap_in (by unfold in64; omega)]
      omega
    · show wrap64 _ + ((k : Nat) : Int) ≤ m
      rw [wrap_in (by unfold in64; omega)]
      omega
  · rw [if_neg h3] at h1 ⊢
    have hs : (x.f2.extract off (off + k)).size = k := by rw [ByteArray.size_extract]; omega
    refine ⟨?_, fun h5 => ?_⟩
    · unfold stepOk
      show if (x.f2.extract off (off + k)).size = 0 then _ else (0 : Int) = 0 ∧ (0 : Int) = 0 ∧ (x.f2.extract off (off + k)).size ≤ 4096
      rw [hs, if_neg (by omega)]
      omega
    · have h6 : (x.f2.extract off (off + k)).size = 0 := h5
      omega
theorem pieceN_ok {m : Nat} (hm : m ≤ 524288) (l : List S54) (h : ∀ x ∈ l, okB m x) (off n : Nat) (hs : off + n ≤ sumN l) (ho : 0 < n → ∀ x r, l = x :: r → off < lenN x) : ∀ y ∈ pieceN l off n, okB m y := by
  induction l generalizing off n with
  | nil => intro y hy; cases hy
  | cons x r ih =>
    intro y hy
    rw [pieceN] at hy
    split at hy
    · cases hy
    · rename_i h0
      have hx := h x (List.mem_cons_self ..)
      have hox := ho (by omega) x r rfl
      rw [sumN_cons] at hs
      have hr : ∀ x ∈ r, okB m x := fun y hy => h y (List.mem_cons_of_mem _ hy)
      rcases List.mem_cons.1 hy with rfl | hy
      · exact cut_ok hm hx _ _ (by omega) (by omega)
      · exact ih hr 0 _ (by omega) (fun hp z r' e => by have := (stepOk_len (hr z (by rw [e]; exact List.mem_cons_self ..)).1).1; omega) y hy
theorem pieceAt_ok {m : Nat} (hm : m ≤ 524288) (l : List S54) (h : ∀ x ∈ l, okB m x) (a n : Nat) (hs : a + n ≤ sumN l) : ∀ y ∈ pieceAt l a n, okB m y := by
  induction l generalizing a with
  | nil => intro y hy; cases hy
  | cons x r ih =>
    intro y hy
    rw [pieceAt] at hy
    split at hy
    · rename_i h0
      exact pieceN_ok hm (x :: r) h a n hs (fun _ z r' e => by injection e with e; subst e; exact h0) y hy
    · rename_i h0
      rw [sumN_cons] at hs
      exact ih (fun y hy => h y (List.mem_cons_of_mem _ hy)) _ (by omega) y hy
theorem comp_cmp {m n : Nat} (hm : m ≤ 524288) (hn : n ≤ 524288) {l0 : List S54} (h0 : Lay m n l0) (l1 : List S54) (h1 : ∀ x ∈ l1, okB n x) : ∀ out, (∀ y ∈ out, okB m y) →
    ∃ o, compF l0 (n : Int) l1 out = some o ∧ bytesV o = bytesV out ++ cmp (bytesV l0) (bytesV l1) ∧ ∀ y ∈ o, okB m y := by
  induction l1 with
  | nil => intro out ho; exact ⟨out, rfl, by rw [show bytesV [] = ([] : List S59) from rfl]; exact (List.append_nil _).symm, ho⟩
  | cons x r ih =>
    intro out ho
    have hx := h1 x (List.mem_cons_self ..)
    have hr : ∀ x ∈ r, okB n x := fun y hy => h1 y (List.mem_cons_of_mem _ hy)
    rw [compF, bytesV_cons, cmp_app]
    by_cases ht : x.f2.size = 0
    · rw [if_neg (fun h => h ht)]
      obtain ⟨hx2, hx3⟩ := hx
      have hx3 := hx3 ht
      unfold stepOk at hx2
      rw [if_pos ht] at hx2
      rw [if_neg (by omega)]
      have e1 : bytes1 x = froms x.f0 x.f1.toNat := by unfold bytes1; rw [if_neg (fun hh => hh ht)]
      obtain ⟨p, hp⟩ := Int.eq_ofNat_of_zero_le hx2.2.1
      have hpn : x.f0.toNat = p := by rw [hp]; rfl
      have hs0 := h0.2
      have hl0 := h0.len
      have hb := pieceAt_bytes l0 h0.all p x.f1.toNat (by omega)
      rw [hpn]
      obtain ⟨o, a1, a2, a3⟩ := ih hr (out ++ pieceAt l0 p x.f1.toNat) (fun y hy => by
        rcases List.mem_append.mp hy with hy | hy
        · exact ho y hy
        · exact pieceAt_ok hm l0 h0.1 p _ (by omega) y hy)
      refine ⟨o, a1, ?_, a3⟩
      rw [a2, bytesV_append, hb, e1, hp, cmp_froms _ p _ (by omega) (by omega), List.append_assoc]
    · rw [if_pos ht]
      have e1 : bytes1 x = told x.f2 := by unfold bytes1; rw [if_pos ht]
      obtain ⟨o, a1, a2, a3⟩ := ih hr (out ++ [x]) (fun y hy => by
        rcases List.mem_append.mp hy with hy | hy
        · exact ho y hy
        · rw [List.mem_singleton.mp hy]
          refine ⟨hx.1, fun h => absurd h ht⟩)
      refine ⟨o, a1, ?_, a3⟩
      rw [a2, bytesV_append, bytesV_one, e1, cmp_told, List.append_assoc]
theorem copy_ok {m : Nat} (hm : m ≤ 524288) (o : List S54) (ho : ∀ x ∈ o, okB m x) (x : S54) (hx : okB m x) (h2 : x.f2.size = 0) : ∀ y ∈ tidyCopy o x, okB m y := by
  obtain ⟨h3, h4⟩ := hx
  have h4 := h4 h2
  unfold stepOk at h3
  rw [if_pos h2] at h3
  have hnew : okB m ⟨x.f0, x.f1, ⟨#[]⟩⟩ := ⟨by unfold stepOk; rw [if_pos (show (⟨#[]⟩ : ByteArray).size = 0 from rfl)]; exact h3, fun _ => h4⟩
  rcases list_last o with rfl | ⟨o', y, rfl⟩
  · rw [copy_nil]
    intro z hz
    rw [List.mem_singleton.1 hz]
    exact hnew
  · by_cases hc : y.f2.size = 0 ∧ wrap64 (y.f0 + y.f1) = x.f0
    · rw [copy_merge o' y x hc.1 hc.2]
      intro z hz
      rcases List.mem_append.1 hz with hz | hz
      · exact ho z (List.mem_append_left _ hz)
      · rw [List.mem_singleton.1 hz]
        obtain ⟨y1, y2⟩ := ho y (List.mem_append_right _ (List.mem_singleton.2 rfl))
        have y2 := y2 hc.1
        unfold stepOk at y1
        rw [if_pos hc.1] at y1
        have e := hc.2
        rw [wrap_in (by unfold in64; omega)] at e
        refine ⟨?_, fun _ => ?_⟩
        · unfold stepOk
          rw [if_pos hc.1]
          show 0 < wrap64 _ ∧ 0 ≤ y.f0 ∧ wrap64 _ ≤ 524288 ∧ y.f0 ≤ 524288 - wrap64 _
          rw [wrap_in (by unfold in64; omega)]
          omega
        · show y.f0 + wrap64 _ ≤ m
          rw [wrap_in (by unfold in64; omega)]
          omega
    · rw [copy_new o' y x hc]
      intro z hz
      rcases List.mem_append.1 hz with hz | hz
      · exact ho z hz
      · rw [List.mem_singleton.1 hz]; exact hnew
theorem tidyS_ok {m : Nat} (hm : m ≤ 524288) (st : ByteArray × List S54) (ho : ∀ x ∈ st.2, okB m x) (x : S54) (hx : okB m x) : ∀ y ∈ (tidyS st x).2, okB m y := by
  unfold tidyS
  by_cases h2 : x.f2.size = 0
  · rw [if_neg (fun h => h h2)]
    split
    · exact ho
    · refine copy_ok hm _ (fun z hz => ?_) x hx h2
      rcases List.mem_append.1 hz with hz | hz
      · exact ho z hz
      · exact (flush_run [] m _ _ (Nat.le_refl _)).2 z hz
  · rw [if_pos h2]
    exact ho
theorem tidyF_ok {m : Nat} (hm : m ≤ 524288) (l : List S54) : ∀ st : ByteArray × List S54, (∀ x ∈ st.2, okB m x) → (∀ x ∈ l, okB m x) → ∀ y ∈ (l.foldl tidyS st).2, okB m y := by
  induction l with
  | nil => intro st ho _; exact ho
  | cons x r ih =>
    intro st ho hl
    exact ih _ (tidyS_ok hm st ho x (hl x (List.mem_cons_self ..))) (fun y hy => hl y (List.mem_cons_of_mem _ hy))
theorem tidy_ok {m : Nat} (hm : m ≤ 524288) (l : List S54) (h : ∀ x ∈ l, okB m x) : ∀ y ∈ tidyV l, okB m y := fun y hy => by
  unfold tidyV at hy
  rcases List.mem_append.1 hy with hy | hy
  · exact tidyF_ok hm l (⟨#[]⟩, []) (fun x hx => by cases hx) h y hy
  · exact (flush_run [] m _ _ (Nat.le_refl _)).2 y hy
theorem okB_fit {m : Nat} {l : List S54} (h : ∀ x ∈ l, okB m x) : FitS l := fun x hx => by
  have := (h x hx).1
  unfold stepOk at this
  unfold in64
  split at this <;> omega
theorem lay_tidy {m n : Nat} (hm : m ≤ 524288) (hn : n ≤ 524288) {l : List S54} (h : Lay m n l) : Lay m n (tidyV l) ∧ bytesV (tidyV l) = bytesV l ∧ tidyV l = stepsV (bytesV l) := by
  have hf := okB_fit h.1
  have hs := lenSum_le l
  have hs2 := h.2
  obtain ⟨b, _, _, _⟩ := tidy_bytes l (fun x hx => (hf x hx).1) (by omega)
  have hok := tidy_ok hm l h.1
  have hall : AllOk (tidyV l) := fun x hx => (hok x hx).1
  exact ⟨⟨hok, by rw [← bytesV_len _ hall, b]; exact h.len⟩, b, (steps_bytes l hf).symm⟩
theorem lay_comp {m n p : Nat} (hm : m ≤ 524288) (hn : n ≤ 524288) (hp : p ≤ 524288) {l0 l1 : List S54} (h0 : Lay m n l0) (h1 : Lay n p l1) :
    ∃ o, compF l0 (n : Int) l1 [] = some o ∧ Lay m p (tidyV o) ∧ bytesV (tidyV o) = cmp (bytesV l0) (bytesV l1) ∧ tidyV o = stepsV (cmp (bytesV l0) (bytesV l1)) := by
  obtain ⟨o, a1, a2, a3⟩ := comp_cmp hm hn h0 l1 h1.1 [] (fun y hy => by cases hy)
  have a2 : bytesV o = cmp (bytesV l0) (bytesV l1) := a2
  have hl : Lay m p o := ⟨a3, by rw [← bytesV_len o (fun x hx => (a3 x hx).1), a2, cmp_len]; exact h1.len⟩
  obtain ⟨b1, b2, b3⟩ := lay_tidy hm hp hl
  exact ⟨o, a1, b1, b2.trans a2, by rw [b3, a2]⟩
theorem lay_right {m n : Nat} (hn : n ≤ 524288) {l : List S54} (h : Lay m n l) {a b : ByteArray} (ha : a.size = 32) (hb : b.size = 32) : rightV a b (n : Int) l = true :=
  decide_eq_true ⟨ha, hb, by omega, by omega, fun x hx => (h.1 x hx).1, by rw [h.2]⟩
def compL (l0 l1 : List S54) : List S54 := stepsV (cmp (bytesV l0) (bytesV l1))
theorem lay_compL {m n p : Nat} (hm : m ≤ 524288) (hn : n ≤ 524288) (hp : p ≤ 524288) {l0 l1 : List S54} (h0 : Lay m n l0) (h1 : Lay n p l1) : Lay m p (compL l0 l1) ∧ bytesV (compL l0 l1) = cmp (bytesV l0) (bytesV l1) := by
  obtain ⟨o, _, a2, a3, a4⟩ := lay_comp hm hn hp h0 h1
  unfold compL
  rw [← a4]
  exact ⟨a2, a3⟩
theorem lay_compV {m n p : Nat} (hm : m ≤ 524288) (hn : n ≤ 524288) (hp : p ≤ 524288) {l0 l1 : List S54} (h0 : Lay m n l0) (h1 : Lay n p l1) {a b c : ByteArray} (ha : a.size = 32) (hb : b.size = 32) (hc : c.size = 32) :
    compV a b (n : Int) l0 b c (p : Int) l1 = (a, c, (p : Int), compL l0 l1, 0) := by
  obtain ⟨o, a1, _, _, a4⟩ := lay_comp hm hn hp h0 h1
  unfold compV
  rw [if_pos ⟨lay_right hn h0 ha hb, lay_right hp h1 hb hc⟩, if_pos rfl, a1]
  show (a, c, (p : Int), tidyV o, (0 : Int)) = _
  rw [a4]; rfl
theorem lay_compK (k : Nat) (hk : 1100000 ≤ k) {m n p : Nat} (hm : m ≤ 524288) (hn : n ≤ 524288) (hp : p ≤ 524288) {l0 l1 : List S54} (h0 : Lay m n l0) (h1 : Lay n p l1) {a b c : ByteArray} (ha : a.size = 32) (hb : b.size = 32) (hc : c.size = 32) :
    chain_Compose.f k a b (n : Int) l0 b c (p : Int) l1 = some (a, c, (p : Int), compL l0 l1, 0) := by
  unfold chain_Compose.f
  have e0 := len_le_sum l0 (fun y hy => (stepOk_len (h0.all y hy)).1)
  have e1 := len_le_sum l1 (fun y hy => (stepOk_len (h1.all y hy)).1)
  have s0 := h0.2
  have s1 := h1.2
  rw [if_pos ⟨by omega, by omega, by omega, (okB_fit h0.1).in, (okB_fit h1.1).in⟩, lay_compV hm hn hp h0 h1 ha hb hc]
end Go.Proofs.Ytjgelmfkoefclaa.Pure
