/- The last part of the proof of the law ChainGroups (texts of this session, joined by wip/tools/tail.py): every call of it answers true, and what it was handed reads behind the call as it did before. No condition. -/
import Derived.Test.YtjgelmfkoefclaaBase
import Derived.Test.YtjgelmfkoefclaaBasd
import Derived.Test.YtjgelmfkoefclaaRunLaw
import Derived.Test.YtjgelmfkoefclaaGivCompose
import Derived.Test.YtjgelmfkoefclaaGivOf
import Derived.Test.YtjgelmfkoefclaaFlat
import Derived.BigQuiet
import Derived.Deep.DeepMust
import Derived.RegionTactic
import Derived.Deep.RegionHeld3
import Derived.IntWalk
import Derived.Test.YtjgelmfkoefclaaRead
import Derived.Test.YtjgelmfkoefclaaGivRow
import Derived.Test.YtjgelmfkoefclaaRows
import Derived.Test.YtjgelmfkoefclaaOpens
import Derived.WalkKit
import Derived.ProofKit
import Derived.OpenShut
import Derived.ShutString
import Derived.ChangeOld
import Derived.Below
import Derived.SizedLaws
import Derived.Lib.SmallJoins
-- from YtjgelmfkoefclaaLayLaw
/- Deltas as what they make byte by byte, and put together: the order is all one. -/
namespace Go.Proofs.Ytjgelmfkoefclaa.Pure
open Go.RowKit Go.Proofs.YtjgelmfkoefclaaW.PrintWords Go.Proofs.YtjgelmfkoefclaaW.PrintLast Go.Proofs.YtjgelmfkoefclaaW.PrintMore Go.Proofs.Ytjgelmfkoefclaa.PAll
set_option linter.unusedVariables false
set_option linter.unusedSimpArgs false

/-- Bytes through bytes. -/
def cmp (x y : List S59) : List S59 := y.map (fun b => if b.f0 = true then b else rd_T59 x b.f1)
theorem cmp_app (x a b : List S59) : cmp x (a ++ b) = cmp x a ++ cmp x b := by unfold cmp; exact List.map_append
theorem cmp_len (x a : List S59) : (cmp x a).length = a.length := by unfold cmp; exact List.length_map _
theorem told_told (s : ByteArray) : ∀ b ∈ told s, b.f0 = true := fun b hb => by
  unfold told at hb
  obtain ⟨i, _, rfl⟩ := List.mem_map.1 hb
  rfl
theorem cmp_told (x : List S59) (s : ByteArray) : cmp x (told s) = told s := by
  unfold cmp
  conv => rhs; rw [← List.map_id (told s)]
  exact List.map_congr_left (fun b hb => by rw [if_pos (told_told s b hb)]; rfl)
theorem cmp_froms (x : List S59) (p n : Nat) (h : p + n ≤ x.length) (hx : x.length ≤ 2000000) : cmp x (froms (p : Nat) n) = (x.drop p).take n := by
  unfold cmp
  apply List.ext_getElem
  · rw [List.length_map, froms_len, List.length_take, List.length_drop]; omega
  · intro i h1 h2
    have h3 : i < n := by rw [List.length_map, froms_len] at h1; exact h1
    rw [List.getElem_map, froms_get, if_neg (by simp), List.getElem_take, List.getElem_drop]
    show rd_T59 x (wrap64 ((p : Nat) + (i : Nat))) = _
    rw [wrap_in (by unfold in64; omega), show ((p : Nat) : Int) + (i : Nat) = ((p + i : Nat) : Int) by omega]
    exact rd70_nat x (p + i) (by omega)
theorem cmp_assoc (x y z : List S59) (h : ∀ b ∈ z, b.f0 = true ∨ (0 ≤ b.f1 ∧ b.f1 < y.length)) : cmp (cmp x y) z = cmp x (cmp y z) := by
  unfold cmp
  rw [List.map_map]
  refine List.map_congr_left (fun b hb => ?_)
  show _ = (fun b => if b.f0 = true then b else rd_T59 x b.f1) (if b.f0 = true then b else rd_T59 y b.f1)
  by_cases ht : b.f0 = true
  · rw [if_pos ht, if_pos ht]
    show _ = if b.f0 = true then b else _
    rw [if_pos ht]
  · rw [if_neg ht, if_neg ht]
    rcases h b hb with h | ⟨h1, h2⟩
    · exact absurd h ht
    · obtain ⟨n, hn⟩ := Int.eq_ofNat_of_zero_le h1
      rw [hn] at h2 ⊢
      rw [rd70_nat _ n (by rw [List.length_map]; omega), rd70_nat y n (by omega), List.getElem_map]
/-- Steps that lead from m bytes to n. -/
def Lay (m n : Nat) (l : List S54) : Prop := (∀ x ∈ l, okB m x) ∧ sumN l = n
theorem Lay.all {m n : Nat} {l : List S54} (h : Lay m n l) : AllOk l := fun x hx => (h.1 x hx).1
theorem bytes1_in {m : Nat} (hm : m ≤ 524288) {x : S54} (h : okB m x) : ∀ b ∈ bytes1 x, b.f0 = true ∨ (0 ≤ b.f1 ∧ b.f1 < m) := fun b hb => by
  obtain ⟨h1, h2⟩ := h
  unfold bytes1 at hb
  unfold stepOk at h1
  split at hb
  · exact .inl (told_told _ b hb)
  · rename_i h0
    have h0' : x.f2.size = 0 := by omega
    rw [if_pos h0'] at h1
    have h3 := h2 h0'
    unfold froms at hb
    obtain ⟨k, hk, rfl⟩ := List.mem_map.1 hb
    have hk := List.mem_range.1 hk
    right
    show 0 ≤ wrap64 _ ∧ wrap64 _ < _
    rw [wrap_in (by unfold in64; omega)]
    omega
theorem Lay.in {m n : Nat} {l : List S54} (h : Lay m n l) (hm : m ≤ 524288) : ∀ b ∈ bytesV l, b.f0 = true ∨ (0 ≤ b.f1 ∧ b.f1 < m) := fun b hb => by
  unfold bytesV at hb
  obtain ⟨x, hx, hb⟩ := List.mem_flatMap.1 hb
  exact bytes1_in hm (h.1 x hx) b hb
theorem Lay.len {m n : Nat} {l : List S54} (h : Lay m n l) : (bytesV l).length = n := (bytesV_len l h.all).trans h.2
theorem cut_ok {m : Nat} (hm : m ≤ 524288) {x : S54} (h : okB m x) (off k : Nat) (hk : off + k ≤ lenN x) (h0 : 0 < k) : okB m (cutV x off k) := by
  obtain ⟨h1, h2⟩ := h
  unfold stepOk at h1
  unfold cutV lenN at *
  by_cases h3 : x.f2.size = 0
  · rw [if_pos h3] at h1 ⊢
    have h4 := h2 h3
    refine ⟨?_, fun _ => ?_⟩
    · unfold stepOk
      rw [if_pos (show (⟨#[]⟩ : ByteArray).size = 0 from rfl)]
      show 0 < ((k : Nat) : Int) ∧ 0 ≤ wrap64 _ ∧ ((k : Nat) : Int) ≤ 524288 ∧ wrap64 _ ≤ 524288 - ((k : Nat) : Int)
      rw [wrap_in (by unfold in64; omega)]
      omega
    · show wrap64 _ + ((k : Nat) : Int) ≤ m
      rw [wrap_in (by unfold in64; omega)]
      omega
  · rw [if_neg h3] at h1 ⊢
    have hs : (x.f2.extract off (off + k)).size = k := by rw [ByteArray.size_extract]; omega
    refine ⟨?_, fun h5 => ?_⟩
    · unfold stepOk
      show if (x.f2.extract off (off + k)).size = 0 then _ else (0 : Int) = 0 ∧ (0 : Int) = 0 ∧ (x.f2.extract off (off + k)).size ≤ 4096
      rw [hs, if_neg (by omega)]
      omega
    · have h6 : (x.f2.extract off (off + k)).size = 0 := h5
      omega
theorem pieceN_ok {m : Nat} (hm : m ≤ 524288) (l : List S54) (h : ∀ x ∈ l, okB m x) (off n : Nat) (hs : off + n ≤ sumN l) (ho : 0 < n → ∀ x r, l = x :: r → off < lenN x) : ∀ y ∈ pieceN l off n, okB m y := by
  induction l generalizing off n with
  | nil => intro y hy; cases hy
  | cons x r ih =>
    intro y hy
    rw [pieceN] at hy
    split at hy
    · cases hy
    · rename_i h0
      have hx := h x (List.mem_cons_self ..)
      have hox := ho (by omega) x r rfl
      rw [sumN_cons] at hs
      have hr : ∀ x ∈ r, okB m x := fun y hy => h y (List.mem_cons_of_mem _ hy)
      rcases List.mem_cons.1 hy with rfl | hy
      · exact cut_ok hm hx _ _ (by omega) (by omega)
      · exact ih hr 0 _ (by omega) (fun hp z r' e => by have := (stepOk_len (hr z (by rw [e]; exact List.mem_cons_self ..)).1).1; omega) y hy
theorem pieceAt_ok {m : Nat} (hm : m ≤ 524288) (l : List S54) (h : ∀ x ∈ l, okB m x) (a n : Nat) (hs : a + n ≤ sumN l) : ∀ y ∈ pieceAt l a n, okB m y := by
  induction l generalizing a with
  | nil => intro y hy; cases hy
  | cons x r ih =>
    intro y hy
    rw [pieceAt] at hy
    split at hy
    · rename_i h0
      exact pieceN_ok hm (x :: r) h a n hs (fun _ z r' e => by injection e with e; subst e; exact h0) y hy
    · rename_i h0
      rw [sumN_cons] at hs
      exact ih (fun y hy => h y (List.mem_cons_of_mem _ hy)) _ (by omega) y hy
theorem comp_cmp {m n : Nat} (hm : m ≤ 524288) (hn : n ≤ 524288) {l0 : List S54} (h0 : Lay m n l0) (l1 : List S54) (h1 : ∀ x ∈ l1, okB n x) : ∀ out, (∀ y ∈ out, okB m y) →
    ∃ o, compF l0 (n : Int) l1 out = some o ∧ bytesV o = bytesV out ++ cmp (bytesV l0) (bytesV l1) ∧ ∀ y ∈ o, okB m y := by
  induction l1 with
  | nil => intro out ho; exact ⟨out, rfl, by rw [show bytesV [] = ([] : List S59) from rfl]; exact (List.append_nil _).symm, ho⟩
  | cons x r ih =>
    intro out ho
    have hx := h1 x (List.mem_cons_self ..)
    have hr : ∀ x ∈ r, okB n x := fun y hy => h1 y (List.mem_cons_of_mem _ hy)
    rw [compF, bytesV_cons, cmp_app]
    by_cases ht : x.f2.size = 0
    · rw [if_neg (fun h => h ht)]
      obtain ⟨hx2, hx3⟩ := hx
      have hx3 := hx3 ht
      unfold stepOk at hx2
      rw [if_pos ht] at hx2
      rw [if_neg (by omega)]
      have e1 : bytes1 x = froms x.f0 x.f1.toNat := by unfold bytes1; rw [if_neg (fun hh => hh ht)]
      obtain ⟨p, hp⟩ := Int.eq_ofNat_of_zero_le hx2.2.1
      have hpn : x.f0.toNat = p := by rw [hp]; rfl
      have hs0 := h0.2
      have hl0 := h0.len
      have hb := pieceAt_bytes l0 h0.all p x.f1.toNat (by omega)
      rw [hpn]
      obtain ⟨o, a1, a2, a3⟩ := ih hr (out ++ pieceAt l0 p x.f1.toNat) (fun y hy => by
        rcases List.mem_append.mp hy with hy | hy
        · exact ho y hy
        · exact pieceAt_ok hm l0 h0.1 p _ (by omega) y hy)
      refine ⟨o, a1, ?_, a3⟩
      rw [a2, bytesV_append, hb, e1, hp, cmp_froms _ p _ (by omega) (by omega), List.append_assoc]
    · rw [if_pos ht]
      have e1 : bytes1 x = told x.f2 := by unfold bytes1; rw [if_pos ht]
      obtain ⟨o, a1, a2, a3⟩ := ih hr (out ++ [x]) (fun y hy => by
        rcases List.mem_append.mp hy with hy | hy
        · exact ho y hy
        · rw [List.mem_singleton.mp hy]
          refine ⟨hx.1, fun h => absurd h ht⟩)
      refine ⟨o, a1, ?_, a3⟩
      rw [a2, bytesV_append, bytesV_one, e1, cmp_told, List.append_assoc]
/-! ### what is tidied stays in the range -/
theorem copy_ok {m : Nat} (hm : m ≤ 524288) (o : List S54) (ho : ∀ x ∈ o, okB m x) (x : S54) (hx : okB m x) (h2 : x.f2.size = 0) : ∀ y ∈ tidyCopy o x, okB m y := by
  obtain ⟨h3, h4⟩ := hx
  have h4 := h4 h2
  unfold stepOk at h3
  rw [if_pos h2] at h3
  have hnew : okB m ⟨x.f0, x.f1, ⟨#[]⟩⟩ := ⟨by unfold stepOk; rw [if_pos (show (⟨#[]⟩ : ByteArray).size = 0 from rfl)]; exact h3, fun _ => h4⟩
  rcases list_last o with rfl | ⟨o', y, rfl⟩
  · rw [copy_nil]
    intro z hz
    rw [List.mem_singleton.1 hz]
    exact hnew
  · by_cases hc : y.f2.size = 0 ∧ wrap64 (y.f0 + y.f1) = x.f0
    · rw [copy_merge o' y x hc.1 hc.2]
      intro z hz
      rcases List.mem_append.1 hz with hz | hz
      · exact ho z (List.mem_append_left _ hz)
      · rw [List.mem_singleton.1 hz]
        obtain ⟨y1, y2⟩ := ho y (List.mem_append_right _ (List.mem_singleton.2 rfl))
        have y2 := y2 hc.1
        unfold stepOk at y1
        rw [if_pos hc.1] at y1
        have e := hc.2
        rw [wrap_in (by unfold in64; omega)] at e
        refine ⟨?_, fun _ => ?_⟩
        · unfold stepOk
          rw [if_pos hc.1]
          show 0 < wrap64 _ ∧ 0 ≤ y.f0 ∧ wrap64 _ ≤ 524288 ∧ y.f0 ≤ 524288 - wrap64 _
          rw [wrap_in (by unfold in64; omega)]
          omega
        · show y.f0 + wrap64 _ ≤ m
          rw [wrap_in (by unfold in64; omega)]
          omega
    · rw [copy_new o' y x hc]
      intro z hz
      rcases List.mem_append.1 hz with hz | hz
      · exact ho z hz
      · rw [List.mem_singleton.1 hz]; exact hnew
theorem tidyS_ok {m : Nat} (hm : m ≤ 524288) (st : ByteArray × List S54) (ho : ∀ x ∈ st.2, okB m x) (x : S54) (hx : okB m x) : ∀ y ∈ (tidyS st x).2, okB m y := by
  unfold tidyS
  by_cases h2 : x.f2.size = 0
  · rw [if_neg (fun h => h h2)]
    split
    · exact ho
    · refine copy_ok hm _ (fun z hz => ?_) x hx h2
      rcases List.mem_append.1 hz with hz | hz
      · exact ho z hz
      · exact (flush_run [] m _ _ (Nat.le_refl _)).2 z hz
  · rw [if_pos h2]
    exact ho
theorem tidyF_ok {m : Nat} (hm : m ≤ 524288) (l : List S54) : ∀ st : ByteArray × List S54, (∀ x ∈ st.2, okB m x) → (∀ x ∈ l, okB m x) → ∀ y ∈ (l.foldl tidyS st).2, okB m y := by
  induction l with
  | nil => intro st ho _; exact ho
  | cons x r ih =>
    intro st ho hl
    exact ih _ (tidyS_ok hm st ho x (hl x (List.mem_cons_self ..))) (fun y hy => hl y (List.mem_cons_of_mem _ hy))
theorem tidy_ok {m : Nat} (hm : m ≤ 524288) (l : List S54) (h : ∀ x ∈ l, okB m x) : ∀ y ∈ tidyV l, okB m y := fun y hy => by
  unfold tidyV at hy
  rcases List.mem_append.1 hy with hy | hy
  · exact tidyF_ok hm l (⟨#[]⟩, []) (fun x hx => by cases hx) h y hy
  · exact (flush_run [] m _ _ (Nat.le_refl _)).2 y hy
theorem okB_fit {m : Nat} {l : List S54} (h : ∀ x ∈ l, okB m x) : FitS l := fun x hx => by
  have := (h x hx).1
  unfold stepOk at this
  unfold in64
  split at this <;> omega
theorem lay_tidy {m n : Nat} (hm : m ≤ 524288) (hn : n ≤ 524288) {l : List S54} (h : Lay m n l) : Lay m n (tidyV l) ∧ bytesV (tidyV l) = bytesV l ∧ tidyV l = stepsV (bytesV l) := by
  have hf := okB_fit h.1
  have hs := lenSum_le l
  have hs2 := h.2
  obtain ⟨b, _, _, _⟩ := tidy_bytes l (fun x hx => (hf x hx).1) (by omega)
  have hok := tidy_ok hm l h.1
  have hall : AllOk (tidyV l) := fun x hx => (hok x hx).1
  exact ⟨⟨hok, by rw [← bytesV_len _ hall, b]; exact h.len⟩, b, (steps_bytes l hf).symm⟩
/-- Two deltas put together. -/
theorem lay_comp {m n p : Nat} (hm : m ≤ 524288) (hn : n ≤ 524288) (hp : p ≤ 524288) {l0 l1 : List S54} (h0 : Lay m n l0) (h1 : Lay n p l1) :
    ∃ o, compF l0 (n : Int) l1 [] = some o ∧ Lay m p (tidyV o) ∧ bytesV (tidyV o) = cmp (bytesV l0) (bytesV l1) ∧ tidyV o = stepsV (cmp (bytesV l0) (bytesV l1)) := by
  obtain ⟨o, a1, a2, a3⟩ := comp_cmp hm hn h0 l1 h1.1 [] (fun y hy => by cases hy)
  have a2 : bytesV o = cmp (bytesV l0) (bytesV l1) := a2
  have hl : Lay m p o := ⟨a3, by rw [← bytesV_len o (fun x hx => (a3 x hx).1), a2, cmp_len]; exact h1.len⟩
  obtain ⟨b1, b2, b3⟩ := lay_tidy hm hp hl
  exact ⟨o, a1, b1, b2.trans a2, by rw [b3, a2]⟩
theorem lay_right {m n : Nat} (hn : n ≤ 524288) {l : List S54} (h : Lay m n l) {a b : ByteArray} (ha : a.size = 32) (hb : b.size = 32) : rightV a b (n : Int) l = true :=
  decide_eq_true ⟨ha, hb, by omega, by omega, fun x hx => (h.1 x hx).1, by rw [h.2]⟩
/-- What they come to, put together. -/
def compL (l0 l1 : List S54) : List S54 := stepsV (cmp (bytesV l0) (bytesV l1))
theorem lay_compL {m n p : Nat} (hm : m ≤ 524288) (hn : n ≤ 524288) (hp : p ≤ 524288) {l0 l1 : List S54} (h0 : Lay m n l0) (h1 : Lay n p l1) : Lay m p (compL l0 l1) ∧ bytesV (compL l0 l1) = cmp (bytesV l0) (bytesV l1) := by
  obtain ⟨o, _, a2, a3, a4⟩ := lay_comp hm hn hp h0 h1
  unfold compL
  rw [← a4]
  exact ⟨a2, a3⟩
theorem lay_compV {m n p : Nat} (hm : m ≤ 524288) (hn : n ≤ 524288) (hp : p ≤ 524288) {l0 l1 : List S54} (h0 : Lay m n l0) (h1 : Lay n p l1) {a b c : ByteArray} (ha : a.size = 32) (hb : b.size = 32) (hc : c.size = 32) :
    compV a b (n : Int) l0 b c (p : Int) l1 = (a, c, (p : Int), compL l0 l1, 0) := by
  obtain ⟨o, a1, _, _, a4⟩ := lay_comp hm hn hp h0 h1
  unfold compV
  rw [if_pos ⟨lay_right hn h0 ha hb, lay_right hp h1 hb hc⟩, if_pos rfl, a1]
  show (a, c, (p : Int), tidyV o, (0 : Int)) = _
  rw [a4]; rfl
theorem lay_compK (k : Nat) (hk : 1100000 ≤ k) {m n p : Nat} (hm : m ≤ 524288) (hn : n ≤ 524288) (hp : p ≤ 524288) {l0 l1 : List S54} (h0 : Lay m n l0) (h1 : Lay n p l1) {a b c : ByteArray} (ha : a.size = 32) (hb : b.size = 32) (hc : c.size = 32) :
    chain_Compose.f k a b (n : Int) l0 b c (p : Int) l1 = some (a, c, (p : Int), compL l0 l1, 0) := by
  unfold chain_Compose.f
  have e0 := len_le_sum l0 (fun y hy => (stepOk_len (h0.all y hy)).1)
  have e1 := len_le_sum l1 (fun y hy => (stepOk_len (h1.all y hy)).1)
  have s0 := h0.2
  have s1 := h1.2
  rw [if_pos ⟨by omega, by omega, by omega, (okB_fit h0.1).in, (okB_fit h1.1).in⟩, lay_compV hm hn hp h0 h1 ha hb hc]
theorem lay_compF {m n p : Nat} (hm : m ≤ 524288) (hn : n ≤ 524288) (hp : p ≤ 524288) {l0 l1 : List S54} (h0 : Lay m n l0) (h1 : Lay n p l1) {a b c : ByteArray} (ha : a.size = 32) (hb : b.size = 32) (hc : c.size = 32) :
    chain_Compose.f 3000000 a b (n : Int) l0 b c (p : Int) l1 = some (a, c, (p : Int), compL l0 l1, 0) := lay_compK 3000000 (by omega) hm hn hp h0 h1 ha hb hc
/-- Three of them: the order is all one. -/
theorem groups {m n p q : Nat} (hm : m ≤ 524288) (hn : n ≤ 524288) (hp : p ≤ 524288) (hq : q ≤ 524288) {l0 l1 l2 : List S54} (h0 : Lay m n l0) (h1 : Lay n p l1) (h2 : Lay p q l2) : compL (compL l0 l1) l2 = compL l0 (compL l1 l2) := by
  unfold compL
  have a := (lay_compL hm hn hp h0 h1).2
  have b := (lay_compL hn hp hq h1 h2).2
  unfold compL at a b
  rw [a, b, cmp_assoc _ _ _ (by rw [h1.len]; exact h2.in hp)]
end Go.Proofs.Ytjgelmfkoefclaa.Pure

-- from YtjgelmfkoefclaaGivGroup
/- Deltas in cells, and what a composition leaves. -/
namespace Go.Proofs.Ytjgelmfkoefclaa.PAll
open Go.RowKit Go.Proofs.YtjgelmfkoefclaaW.PrintWords Go.Proofs.YtjgelmfkoefclaaW.PrintLast Go.Proofs.YtjgelmfkoefclaaW.PrintMore Go.Proofs.Ytjgelmfkoefclaa.Pure
set_option linter.unusedVariables false

/-- A delta in four cells, its steps read. -/
def Dt (w : World) (q o0 o1 o2 o3 : Nat) (a b : ByteArray) (n : Int) (A : Option Addr) (c : Nat) (l : List S54) : Prop :=
  (w.cell? ⟨q, o0, none⟩ = some (.string a) ∧ w.cell? ⟨q, o1, none⟩ = some (.string b) ∧ w.cell? ⟨q, o2, none⟩ = some (.int .i64 n) ∧ w.cell? ⟨q, o3, none⟩ = some (.slice A l.length c)) ∧ l.length ≤ c ∧ Kd.C k54 w A l.length l
theorem cell_b {w w' : World} {p : Addr} {v : Value} (h : w.cell? p = some v) (hb : Below w.heap.size w w') : w'.cell? p = some v := (hb.cell (p := p) (World.block_lt_of_cell? w p h)).trans h
theorem Dt.below {w w' : World} {q o0 o1 o2 o3 : Nat} {a b : ByteArray} {n : Int} {A : Option Addr} {c : Nat} {l : List S54} (h : Dt w q o0 o1 o2 o3 a b n A c l) (hb : Below w.heap.size w w') : Dt w' q o0 o1 o2 o3 a b n A c l := by
  obtain ⟨⟨h0, h1, h2, h3⟩, h4, h5⟩ := h
  exact ⟨⟨cell_b h0 hb, cell_b h1 hb, cell_b h2 hb, cell_b h3 hb⟩, h4, Kd.C_below h5 hb⟩
theorem Dt.blk {w : World} {g : Nat} {a b : ByteArray} {n : Int} {A : Option Addr} {c : Nat} {l : List S54} (h : w.heap[g]? = some (.cells #[.string a, .string b, .int .i64 n, .slice A l.length c] 24 (0, 0))) (hl : l.length ≤ c) (hC : Kd.C k54 w A l.length l) : Dt w g 0 1 2 3 a b n A c l := ⟨blk4 h, hl, hC⟩
/-- What stands behind a call whose result's block was laid ahead of it. -/
structure Ob (w wr : World) (v : Value) (st : List S54) : Prop where
  gb : w.grownBy wr (some w.heap.size)
  r : Kd.R k54 54 wr (w.heap.size + 1) (fun _ => True) v st
theorem Ob.set {w wr : World} {v : Value} {st : List S54} (h : Ob w wr v st) (j : Nat) (u : Value) : Ob w (wr.setCell ⟨w.heap.size, j, none⟩ u) v st :=
  ⟨gb_set h.gb (Nat.le_refl _) u,
    Kd.R_mono (Kd.R_far (p := ⟨w.heap.size, j, none⟩) (Kd.R_mono (Kd.R_bound h.r) (ok' := fun k => w.heap.size + 1 ≤ k) (fun k hk => hk.2.1)) (fun k hk => by show k ≠ w.heap.size; omega) u) (fun _ _ => trivial)⟩
theorem Ob.below {w wr : World} {v : Value} {st : List S54} (h : Ob w wr v st) : Below w.heap.size w wr := below_gb h.gb (Nat.le_refl _) (Nat.le_refl _)
theorem Ob.fin {w wr : World} {A : Option Addr} {c : Nat} {st : List S54} (h : Ob w wr (.slice A st.length c) st) : st.length ≤ c ∧ Kd.C k54 wr A st.length st := by
  obtain ⟨_, h1, h2⟩ := Kd.R_reads' h.r
  exact ⟨h1, h2⟩
/-- The four stores. -/
theorem Ob.four {w wr : World} {A : Option Addr} {c : Nat} {st : List S54} (h : Ob w wr (.slice A st.length c) st) (hz : wr.heap[w.heap.size]? = some (.cells #[.string ⟨#[]⟩, .string ⟨#[]⟩, .int .i64 0, .slice none 0 0] 24 (0, 0))) (a b : ByteArray) (n : Int) :
    Dt ((((wr.setCell ⟨w.heap.size, 0, none⟩ (.string a)).setCell ⟨w.heap.size, 1, none⟩ (.string b)).setCell ⟨w.heap.size, 2, none⟩ (.int .i64 n)).setCell ⟨w.heap.size, 3, none⟩ (.slice A st.length c)) w.heap.size 0 1 2 3 a b n A c st ∧
    Below w.heap.size w ((((wr.setCell ⟨w.heap.size, 0, none⟩ (.string a)).setCell ⟨w.heap.size, 1, none⟩ (.string b)).setCell ⟨w.heap.size, 2, none⟩ (.int .i64 n)).setCell ⟨w.heap.size, 3, none⟩ (.slice A st.length c)) := by
  have hof := (((h.set 0 (.string a)).set 1 (.string b)).set 2 (.int .i64 n)).set 3 (.slice A st.length c)
  refine ⟨Dt.blk ?_ hof.fin.1 hof.fin.2, hof.below⟩
  refine blk_put (cs := #[.string a, .string b, .int .i64 n, .slice none 0 0]) ?_ 3 _ rfl
  refine blk_put (cs := #[.string a, .string b, .int .i64 0, .slice none 0 0]) ?_ 2 _ rfl
  refine blk_put (cs := #[.string a, .string ⟨#[]⟩, .int .i64 0, .slice none 0 0]) ?_ 1 _ rfl
  exact blk_put (cs := #[.string ⟨#[]⟩, .string ⟨#[]⟩, .int .i64 0, .slice none 0 0]) hz 0 _ rfl
/-- A delta read out of a row of them. -/
theorem Dt.at {w : World} {q n : Nat} {ds : List S24} (h : Kd.C k24 w (some ⟨q, 0, none⟩) n ds) (i : Nat) (d : S24) (hd : ds[i]? = some d) : ∃ A c, Dt w q (i * 4) (i * 4 + 1) (i * 4 + 2) (i * 4 + 3) d.f0 d.f1 d.f2 A c d.f3 := by
  obtain ⟨h1, h2, h3⟩ := h
  obtain ⟨ad, e, hc⟩ := h3 (by have := (List.getElem?_eq_some_iff.1 hd).1; omega)
  injection e with e
  subst e
  obtain ⟨cs, c1, c2, c3⟩ := hc i d hd
  obtain ⟨A, c, rfl, k1, k2⟩ := k24_open c2
  refine ⟨A, c, ⟨?_, ?_, ?_, ?_⟩, k1, k2⟩
  · have := c3 0 _ rfl; rwa [Addr.add_lit, Nat.zero_add] at this
  · have := c3 1 _ rfl; rwa [Addr.add_lit, Nat.zero_add] at this
  · have := c3 2 _ rfl; rwa [Addr.add_lit, Nat.zero_add] at this
  · have := c3 3 _ rfl; rwa [Addr.add_lit, Nat.zero_add] at this
theorem DeltaOf.lay {bk : List ByteArray} {s t : ByteArray} {d : S24} (h : DeltaOf bk s t d) : Lay s.size t.size d.f3 := by
  obtain ⟨_, _, _, _, _, h4, h5⟩ := h
  have e := run_len (L8 s) d.f3 (by rw [L8_len]; exact h4)
  rw [h5, L8_len] at e
  exact ⟨h4, e.symm⟩
theorem dt_of {w : World} {q n i : Nat} {ds : List S24} (h : Kd.C k24 w (some ⟨q, 0, none⟩) n ds) {d : S24} (hd : ds[i]? = some d) {bk : List ByteArray} {s t : ByteArray} (hD : DeltaOf bk s t d) : ∃ A c, Dt w q (i * 4) (i * 4 + 1) (i * 4 + 2) (i * 4 + 3) (markV bk s) (markV bk t) (t.size : Nat) A c d.f3 := by
  obtain ⟨A, c, h1⟩ := Dt.at h i d hd
  obtain ⟨e1, e2, _, _, e3, _⟩ := hD
  rw [e1, e2, e3] at h1
  exact ⟨A, c, h1⟩
/-- Three deltas, one behind the other. -/
theorem three {w : World} {q : Nat} {l : List ByteArray} {ds : List S24} {bk : List ByteArray} (h : Kd.C k24 w (some ⟨q, 0, none⟩) ds.length ds) (hl : ds.length = l.length - 1) (hl4 : l.length = 4) (hs : ∀ x ∈ l, x.size ≤ 1000) (hD : ∀ i s t d, l[i]? = some s → l[i + 1]? = some t → ds[i]? = some d → DeltaOf bk s t d) :
    ∃ (m0 m1 m2 m3 : ByteArray) (n0 n1 n2 n3 : Nat) (l0 l1 l2 : List S54) (A0 : Option Addr) (c0 : Nat) (A1 : Option Addr) (c1 : Nat) (A2 : Option Addr) (c2 : Nat), (m0.size = 32 ∧ m1.size = 32 ∧ m2.size = 32 ∧ m3.size = 32) ∧ (n0 ≤ 1000 ∧ n1 ≤ 1000 ∧ n2 ≤ 1000 ∧ n3 ≤ 1000) ∧ (Lay n0 n1 l0 ∧ Lay n1 n2 l1 ∧ Lay n2 n3 l2) ∧
      Dt w q 0 1 2 3 m0 m1 (n1 : Nat) A0 c0 l0 ∧ Dt w q 4 5 6 7 m1 m2 (n2 : Nat) A1 c1 l1 ∧ Dt w q 8 9 10 11 m2 m3 (n3 : Nat) A2 c2 l2 := by
  have hL : ∀ i, i < 4 → ∃ x, l[i]? = some x ∧ x.size ≤ 1000 := fun i hi => ⟨_, List.getElem?_eq_getElem (by omega), hs _ (List.getElem_mem _)⟩
  have hK : ∀ i, i < 3 → ∃ x, ds[i]? = some x := fun i hi => ⟨_, List.getElem?_eq_getElem (by omega)⟩
  obtain ⟨s0, p0, z0⟩ := hL 0 (by omega)
  obtain ⟨s1, p1, z1⟩ := hL 1 (by omega)
  obtain ⟨s2, p2, z2⟩ := hL 2 (by omega)
  obtain ⟨s3, p3, z3⟩ := hL 3 (by omega)
  obtain ⟨d0, y0⟩ := hK 0 (by omega)
  obtain ⟨d1, y1⟩ := hK 1 (by omega)
  obtain ⟨d2, y2⟩ := hK 2 (by omega)
  have k0 := hD 0 _ _ _ p0 p1 y0
  have k1 := hD 1 _ _ _ p1 p2 y1
  have k2 := hD 2 _ _ _ p2 p3 y2
  obtain ⟨A0, c0, g0⟩ := dt_of h y0 k0
  obtain ⟨A1, c1, g1⟩ := dt_of h y1 k1
  obtain ⟨A2, c2, g2⟩ := dt_of h y2 k2
  exact ⟨_, _, _, _, _, _, _, _, _, _, _, A0, c0, A1, c1, A2, c2, ⟨markV_size _ _, markV_size _ _, markV_size _ _, markV_size _ _⟩, ⟨z0, z1, z2, z3⟩, ⟨k0.lay, k1.lay, k2.lay⟩, g0, g1, g2⟩
end Go.Proofs.Ytjgelmfkoefclaa.PAll

-- from YtjgelmfkoefclaaWalkChainGroups
/- Chapter 7: it is the same how deltas are put together (printed by wip/tools/groups.py). -/
namespace Go.Proofs.Ytjgelmfkoefclaa.chainGroups
open Go.RowKit Go.Proofs.YtjgelmfkoefclaaW.PrintWords Go.Proofs.YtjgelmfkoefclaaW.PrintLast Go.Proofs.YtjgelmfkoefclaaW.PrintMore Go.Proofs.Ytjgelmfkoefclaa.PAll Go.Proofs.Ytjgelmfkoefclaa Go.Proofs.Ytjgelmfkoefclaa.Pure
set_option linter.unusedVariables false
set_option linter.unusedSimpArgs false
set_option maxHeartbeats 8000000 in
set_option maxRecDepth 100000 in
theorem walked0 (A0 : Option Addr) (c0 : Nat) (l : List ByteArray) (bl : Int) (w : World) (hc0 : l.length ≤ c0) (hr0 : Kd.C Kd.string w A0 l.length l) (hbl : -9223372036854775808 ≤ bl ∧ bl ≤ 9223372036854775807) :
    Calls Try.prog 7 #[.slice A0 l.length c0, .int .i64 bl] w fun e w' => e = .returned (.bool true) ∧ Below w.heap.size w w' := by
  obtain ⟨r, hr, hr6, hr1⟩ := few_f l
  have HFW := Aside0.mk (barquelaw07_few.calls 20 A0 c0 l r w hr0 hc0 hr)
  have HAW := Aside0.mk (fun wx => barquelaw07_awake.calls 0 true wx (awake07 0))
  have HR1 := Aside0.mk hr1
  clear hr hr0 hr1
  go_enter Try.func7, Try.ntmps7
  go_upto_region 2 with (go_at_call 19; go_loud ((with_reducible refine HFW.out.mono ?_); rintro _ wa ⟨vf, rfl, hrr, hbb⟩; have HRF := Aside0.mk hrr; have HBA := Aside0.mk hbb; obtain ⟨Af, cf, hvf⟩ := Kd.R_slice hrr; subst hvf; clear hrr hbb))
  go_cut [26] (fun v26 wz => ∃ tb : Bool, v26 = .bool tb ∧ wa = wz ∧ Aside0 (tb = false → 4 ≤ r.length ∧ 16 ≤ bl ∧ bl ≤ 1024))
  case first =>
    by_cases b1 : r.length < 4
    · have d1 : decide (r.length < 4) = true := decide_eq_true b1
      have d2 : decide ((r.length : Int) < 4) = true := decide_eq_true (by omega)
      go_wp2_with fail
      go_meet
      case rel => exact ⟨true, rfl, rfl, ⟨fun h => by cases h⟩⟩
    · have d1 : decide (r.length < 4) = false := decide_eq_false b1
      have d2 : decide ((r.length : Int) < 4) = false := decide_eq_false (by omega)
      by_cases b2 : bl < 16
      · have e1 : decide (bl < 16) = true := decide_eq_true b2
        go_wp2_with fail
        go_meet
        case rel => exact ⟨true, rfl, rfl, ⟨fun h => by cases h⟩⟩
      · have e1 : decide (bl < 16) = false := decide_eq_false b2
        by_cases b3 : 1024 < bl
        · have e2 : decide (1024 < bl) = true := decide_eq_true b3
          go_wp2_with fail
          go_meet
          case rel => exact ⟨true, rfl, rfl, ⟨fun h => by cases h⟩⟩
        · have e2 : decide (1024 < bl) = false := decide_eq_false b3
          go_wp2_with fail
          go_meet
          case rel => exact ⟨false, rfl, rfl, ⟨fun _ => ⟨by omega, by omega, by omega⟩⟩⟩
  case rest =>
    obtain ⟨tb, rfl, rfl, HC⟩ := hcut
    cases tb with
    | true =>
      go_wp2_with (go_at_call 11; go_loud ((with_reducible refine (HAW.out _).mono ?_); rintro _ wx ⟨rfl, hbb⟩; have HBX := Aside0.mk (below_step HBA.out hbb); clear hbb))
      go_ret
      exact ⟨rfl, HBX.out⟩
    | false =>
      obtain ⟨k1, k2, k3⟩ := HC.out rfl
      obtain ⟨bn, rfl⟩ := Int.eq_ofNat_of_zero_le (by omega : 0 ≤ bl)
      obtain ⟨q, cq, hvq, _, _, _⟩ := Kd.R_form HRF.out (by omega)
      injection hvq with hvq _ hvc
      subst hvq hvc
      obtain ⟨_, hcl, hCl⟩ := Kd.R_reads' HRF.out
      obtain ⟨r4, hr4⟩ : ∃ r4, r4 = r.take 4 := ⟨_, rfl⟩
      have h4 : r4.length = 4 := by rw [hr4, List.length_take]; omega
      have HC4 := Aside0.mk (Kd.C_take (m := 4) hCl (by omega))
      rw [← hr4] at HC4
      have HS4 : Aside0 (∀ x ∈ r4, x.size ≤ 1000) := ⟨fun x hx => HR1.out x (List.mem_of_mem_take (by rw [← hr4]; exact hx))⟩
      have hi9 : Try.prog.info? 9 = some _ := rfl
      have hcut4 := cut_to (P := Try.prog) 36 9 .i64 Try.underlying36 hi9 (some ⟨q, 0, none⟩) r.length cf 4 (by omega) (by omega) hcl
      rw [show (4 : Int).toNat = r4.length by omega] at hcut4
      have HCC : Aside0 (r4.length ≤ cf) := ⟨by omega⟩
      clear hcl hCl hr4
      have HRW := Aside0.mk (fun (b M : Nat) (wx : World) (hC : Kd.C Kd.string wx (some ⟨q, 0, none⟩) r4.length r4) (hB : Bk wx b M []) => row_calls b M [] q cf r4 bn wx hC HCC.out hB (by decide) (by omega) HS4.out (by omega) (by omega))
      have H4 := Aside0.mk h4
      clear h4
      go_upto_region 4 with fail
      go_region_held3 (fun _ => True) (trivial) (first | (go_at_call 20; ((with_reducible refine (ideal_calls _).mono ?_); rintro _ wb ⟨b, M, rfl, hbk, hb1, hb2, hbb⟩; have HBKB := Aside0.mk hbk; have HBM := Aside0.mk (And.intro hb1 hb2); have HBB := Aside0.mk (show Below wa.heap.size wa wb from below_step (W := wa.drew) (by repeat (first | (with_reducible first | exact Below.refl _ _ | apply pw_below_drewN | apply below_drew1 | apply below_alloc) | exact Below.refl _ _)) hbb); clear hbk hb1 hb2 hbb)) | (go_at_call 21; ((with_reducible refine (HRW.out b M wb (Kd.C_below HC4.out HBB.out) HBKB.out).mono ?_); rintro _ wc ⟨Ad, cd, ds, bk1, rfl, hcd, hCd, hg, hbk, hx, hl1, hdl, hD, hq⟩; have HCD := Aside0.mk hCd; have HG1 := Aside0.mk hg; have HDL := Aside0.mk hdl; have HDD := Aside0.mk hD; have HDQ := Aside0.mk hq; clear hCd hg hbk hx hl1 hdl hD hcd hq)))
      have hdb : ((ds.length : Int) != 3) = false := bne_eq_false_iff_eq.mpr (by have := HDL.out; have := H4.out; omega)
      have h4 := H4.out
      have hdn : ds.length = 3 := by have := HDL.out; omega
      obtain ⟨qd, rfl⟩ := HDQ.out (by omega)
      obtain ⟨m0, m1, m2, m3, n0, n1, n2, n3, l0, l1, l2, Ax, cx, Ay, cy, Az, cz, ⟨hm0, hm1, hm2, hm3⟩, ⟨hn0, hn1, hn2, hn3⟩, ⟨L0, L1, L2⟩, D0, D1, D2⟩ := three HCD.out HDL.out h4 HS4.out HDD.out
      have HQ0 := Aside0.mk D0
      have HQ1 := Aside0.mk D1
      have HQ2 := Aside0.mk D2
      have F1 := lay_compF (by omega) (by omega) (by omega) L0 L1 hm0 hm1 hm2
      have F2 := lay_compF (by omega) (by omega) (by omega) L1 L2 hm1 hm2 hm3
      have M1 := (lay_compL (by omega) (by omega) (by omega) L0 L1).1
      have M2 := (lay_compL (by omega) (by omega) (by omega) L1 L2).1
      have F3 := lay_compF (by omega) (by omega) (by omega) M1 L2 hm0 hm2 hm3
      have F4 := lay_compF (by omega) (by omega) (by omega) L0 M2 hm0 hm1 hm3
      have M3 := (lay_compL (by omega) (by omega) (by omega) M1 L2).1
      rw [← groups (by omega) (by omega) (by omega) (by omega) L0 L1 L2] at F4
      obtain ⟨st1, hs1⟩ : ∃ st1, st1 = compL l0 l1 := ⟨_, rfl⟩
      obtain ⟨st2, hs2⟩ : ∃ st2, st2 = compL l1 l2 := ⟨_, rfl⟩
      rw [← hs1] at F1 F3 F4 M3
      rw [← hs2] at F2 F4
      obtain ⟨st, hst⟩ : ∃ st, st = compL st1 l2 := ⟨_, rfl⟩
      rw [← hst] at F3 F4 M3
      have HF1 := Aside0.mk F1
      have HF2 := Aside0.mk F2
      have HF3 := Aside0.mk F3
      have HF4 := Aside0.mk F4
      have HSA : Aside0 (barqueref06_Same.f 3000000 m0 m3 (n3 : Nat) st m0 m3 (n3 : Nat) st = some true) := ⟨by
        have e0 := len_le_sum st (fun y hy => (stepOk_len (M3.all y hy)).1)
        have e1 := M3.2
        exact same_all 3000000 _ _ _ _ (by omega) (by omega)⟩
      have HW : Aside0 (Below w.heap.size w wc) := ⟨below_gb (gb_trans (gb_trans (gb_of HBA.out (some M)) (gb_of HBB.out (some M))) HG1.out) (Nat.le_trans HBA.out.size HBM.out.2) (Nat.le_refl _)⟩
      have b0 : (0 : Int) < (ds.length : Int) := by omega
      have b00 : 0 < ds.length := by omega
      have b1 : (1 : Int) < (ds.length : Int) := by omega
      have b2 : (2 : Int) < (ds.length : Int) := by omega
      clear h4 hdn
      clear D0 D1 D2 F1 F2 F3 F4 M1 M2 M3 L0 L1 L2 hs1 hs2 hst
      -- 1
      obtain ⟨⟨x0, x1, x2, x3⟩, xl, xc⟩ := HQ0.out
      obtain ⟨⟨y0, y1, y2, y3⟩, yl, yc⟩ := HQ1.out
      have HXC := Aside0.mk xc
      have HYC := Aside0.mk yc
      have nx := World.new_ne wc _ x0
      have ny := World.new_ne wc _ y0
      have HCO := Aside0.mk (fun wx (h0 : Kd.C k54 wx Ax l0.length l0) (h1 : Kd.C k54 wx Ay l1.length l1) => chain_Compose.calls 3000000 m0 m1 (n1 : Nat) Ax cx l0 m1 m2 (n2 : Nat) Ay cy l1 m0 m2 (n2 : Nat) st1 0 wx h0 xl h1 yl HF1.out)
      clear xl xc yl yc
      go_upto_region 7 with fail
      go_cut [6, 7] (fun v6 v7 wz => ∃ (g : Nat) (A3 : Option Addr) (c3 : Nat), v6 = .pointer (some ⟨g, 0, none⟩) ∧ v7 = .int .i64 0 ∧ Aside0 (Dt wz g 0 1 2 3 m0 m2 (n2 : Nat) A3 c3 st1) ∧ Aside0 (Below wc.heap.size wc wz))
      case first =>
        go_region_held3 (fun w' => w'.cell? ⟨qd, 0, none⟩ = some (.string m0) ∧ w'.cell? ⟨qd, 1, none⟩ = some (.string m1) ∧ w'.cell? ⟨qd, 2, none⟩ = some (.int .i64 (n1 : Nat)) ∧ w'.cell? ⟨qd, 3, none⟩ = some (.slice Ax l0.length cx) ∧ w'.cell? ⟨qd, 4, none⟩ = some (.string m1) ∧ w'.cell? ⟨qd, 5, none⟩ = some (.string m2) ∧ w'.cell? ⟨qd, 6, none⟩ = some (.int .i64 (n2 : Nat)) ∧ w'.cell? ⟨qd, 7, none⟩ = some (.slice Ay l1.length cy)) (go_keep) (first | (go_at_call 12; ((with_reducible refine (HCO.out _ ?ha ?hb).mono ?_); (case ha => exact Kd.C_below HXC.out (by repeat (first | (with_reducible first | exact Below.refl _ _ | apply pw_below_drewN | apply below_drew1 | apply below_alloc) | exact Below.refl _ _))); (case hb => exact Kd.C_below HYC.out (by repeat (first | (with_reducible first | exact Below.refl _ _ | apply pw_below_drewN | apply below_drew1 | apply below_alloc) | exact Below.refl _ _))); rintro _ wa ⟨v3, rfl, hr, hbb⟩; have HRA := Aside0.mk hr; have HBA := Aside0.mk hbb; obtain ⟨A3, c3, hv3⟩ := Kd.R_slice hr; subst hv3; have e0 := cell_b (cell_b x0 (by repeat (first | (with_reducible first | exact Below.refl _ _ | apply pw_below_drewN | apply below_drew1 | apply below_alloc) | exact Below.refl _ _))) hbb; have e1 := cell_b (cell_b x1 (by repeat (first | (with_reducible first | exact Below.refl _ _ | apply pw_below_drewN | apply below_drew1 | apply below_alloc) | exact Below.refl _ _))) hbb; have e2 := cell_b (cell_b x2 (by repeat (first | (with_reducible first | exact Below.refl _ _ | apply pw_below_drewN | apply below_drew1 | apply below_alloc) | exact Below.refl _ _))) hbb; have e3 := cell_b (cell_b x3 (by repeat (first | (with_reducible first | exact Below.refl _ _ | apply pw_below_drewN | apply below_drew1 | apply below_alloc) | exact Below.refl _ _))) hbb; have e4 := cell_b (cell_b y0 (by repeat (first | (with_reducible first | exact Below.refl _ _ | apply pw_below_drewN | apply below_drew1 | apply below_alloc) | exact Below.refl _ _))) hbb; have e5 := cell_b (cell_b y1 (by repeat (first | (with_reducible first | exact Below.refl _ _ | apply pw_below_drewN | apply below_drew1 | apply below_alloc) | exact Below.refl _ _))) hbb; have e6 := cell_b (cell_b y2 (by repeat (first | (with_reducible first | exact Below.refl _ _ | apply pw_below_drewN | apply below_drew1 | apply below_alloc) | exact Below.refl _ _))) hbb; have e7 := cell_b (cell_b y3 (by repeat (first | (with_reducible first | exact Below.refl _ _ | apply pw_below_drewN | apply below_drew1 | apply below_alloc) | exact Below.refl _ _))) hbb; have nn2 := World.new_ne wa _ e0; have nn3 := World.new_ne wa _ e4; (try (have hz := blk_below (show ((wc.alloc (.cells #[.string ⟨#[]⟩, .string ⟨#[]⟩, .int .i64 0, .slice none 0 0] 24 (0, 0))).drew).heap[wc.heap.size]? = some (.cells #[.string ⟨#[]⟩, .string ⟨#[]⟩, .int .i64 0, .slice none 0 0] 24 (0, 0)) from blk_new wc _) hbb; have HZA := Aside0.mk hz; obtain ⟨z0, z1, z2, z3⟩ := blk4 hz; obtain ⟨zf0, zf1, zf2, zf3⟩ := blk4f hz; clear hz)); clear hr hbb)))
        all_goals
          have HWB : Aside0 (Below wc.heap.size wc wa) := ⟨below_step (by repeat (first | (with_reducible first | exact Below.refl _ _ | apply pw_below_drewN | apply below_drew1 | apply below_alloc) | exact Below.refl _ _)) HBA.out⟩
          go_wp2_with fail
          go_meet
        case rel =>
          obtain ⟨_, k1, k2⟩ := Kd.R_reads' HRA.out
          exact ⟨wa.heap.size, A3, c3, rfl, rfl, ⟨Dt.blk (blk_new wa _) k1 (Kd.C_below k2 (below_alloc (Below.refl _ _) _))⟩, ⟨below_step HWB.out (below_alloc (Below.refl _ _) _)⟩⟩
        case rel =>
          have hob : Ob wc wa (.slice A3 st1.length c3) st1 := ⟨gb_of HWB.out _, Kd.R_lower HRA.out (by show wc.heap.size + 1 ≤ _; simp)⟩
          obtain ⟨u1, u2⟩ := hob.four HZA.out m0 m2 (n2 : Nat)
          exact ⟨wc.heap.size, A3, c3, rfl, rfl, ⟨u1⟩, ⟨u2⟩⟩
      case rest =>
      obtain ⟨g1, Az1, cz1, rfl, rfl, HZ1, HB1⟩ := hcut
      clear x0 x1 x2 x3 y0 y1 y2 y3 nx ny HXC HYC HCO
      have HQ0 := Aside0.mk (HQ0.out.below HB1.out)
      have HQ1 := Aside0.mk (HQ1.out.below HB1.out)
      have HQ2 := Aside0.mk (HQ2.out.below HB1.out)
      have HW := Aside0.mk (below_step HW.out HB1.out)
      -- 2
      obtain ⟨⟨x0, x1, x2, x3⟩, xl, xc⟩ := HQ1.out
      obtain ⟨⟨y0, y1, y2, y3⟩, yl, yc⟩ := HQ2.out
      have HXC := Aside0.mk xc
      have HYC := Aside0.mk yc
      have nx := World.new_ne wc _ x0
      have ny := World.new_ne wc _ y0
      have HCO := Aside0.mk (fun wx (h0 : Kd.C k54 wx Ay l1.length l1) (h1 : Kd.C k54 wx Az l2.length l2) => chain_Compose.calls 3000000 m1 m2 (n2 : Nat) Ay cy l1 m2 m3 (n3 : Nat) Az cz l2 m1 m3 (n3 : Nat) st2 0 wx h0 xl h1 yl HF2.out)
      clear xl xc yl yc
      go_upto_region 8 with fail
      go_cut [8, 9] (fun v6 v7 wz => ∃ (g : Nat) (A3 : Option Addr) (c3 : Nat), v6 = .pointer (some ⟨g, 0, none⟩) ∧ v7 = .int .i64 0 ∧ Aside0 (Dt wz g 0 1 2 3 m1 m3 (n3 : Nat) A3 c3 st2) ∧ Aside0 (Below wc.heap.size wc wz))
      case first =>
        go_region_held3 (fun w' => w'.cell? ⟨qd, 4, none⟩ = some (.string m1) ∧ w'.cell? ⟨qd, 5, none⟩ = some (.string m2) ∧ w'.cell? ⟨qd, 6, none⟩ = some (.int .i64 (n2 : Nat)) ∧ w'.cell? ⟨qd, 7, none⟩ = some (.slice Ay l1.length cy) ∧ w'.cell? ⟨qd, 8, none⟩ = some (.string m2) ∧ w'.cell? ⟨qd, 9, none⟩ = some (.string m3) ∧ w'.cell? ⟨qd, 10, none⟩ = some (.int .i64 (n3 : Nat)) ∧ w'.cell? ⟨qd, 11, none⟩ = some (.slice Az l2.length cz)) (go_keep) (first | (go_at_call 12; ((with_reducible refine (HCO.out _ ?ha ?hb).mono ?_); (case ha => exact Kd.C_below HXC.out (by repeat (first | (with_reducible first | exact Below.refl _ _ | apply pw_below_drewN | apply below_drew1 | apply below_alloc) | exact Below.refl _ _))); (case hb => exact Kd.C_below HYC.out (by repeat (first | (with_reducible first | exact Below.refl _ _ | apply pw_below_drewN | apply below_drew1 | apply below_alloc) | exact Below.refl _ _))); rintro _ wa ⟨v3, rfl, hr, hbb⟩; have HRA := Aside0.mk hr; have HBA := Aside0.mk hbb; obtain ⟨A3, c3, hv3⟩ := Kd.R_slice hr; subst hv3; have e0 := cell_b (cell_b x0 (by repeat (first | (with_reducible first | exact Below.refl _ _ | apply pw_below_drewN | apply below_drew1 | apply below_alloc) | exact Below.refl _ _))) hbb; have e1 := cell_b (cell_b x1 (by repeat (first | (with_reducible first | exact Below.refl _ _ | apply pw_below_drewN | apply below_drew1 | apply below_alloc) | exact Below.refl _ _))) hbb; have e2 := cell_b (cell_b x2 (by repeat (first | (with_reducible first | exact Below.refl _ _ | apply pw_below_drewN | apply below_drew1 | apply below_alloc) | exact Below.refl _ _))) hbb; have e3 := cell_b (cell_b x3 (by repeat (first | (with_reducible first | exact Below.refl _ _ | apply pw_below_drewN | apply below_drew1 | apply below_alloc) | exact Below.refl _ _))) hbb; have e4 := cell_b (cell_b y0 (by repeat (first | (with_reducible first | exact Below.refl _ _ | apply pw_below_drewN | apply below_drew1 | apply below_alloc) | exact Below.refl _ _))) hbb; have e5 := cell_b (cell_b y1 (by repeat (first | (with_reducible first | exact Below.refl _ _ | apply pw_below_drewN | apply below_drew1 | apply below_alloc) | exact Below.refl _ _))) hbb; have e6 := cell_b (cell_b y2 (by repeat (first | (with_reducible first | exact Below.refl _ _ | apply pw_below_drewN | apply below_drew1 | apply below_alloc) | exact Below.refl _ _))) hbb; have e7 := cell_b (cell_b y3 (by repeat (first | (with_reducible first | exact Below.refl _ _ | apply pw_below_drewN | apply below_drew1 | apply below_alloc) | exact Below.refl _ _))) hbb; have nn2 := World.new_ne wa _ e0; have nn3 := World.new_ne wa _ e4; (try (have hz := blk_below (show ((wc.alloc (.cells #[.string ⟨#[]⟩, .string ⟨#[]⟩, .int .i64 0, .slice none 0 0] 24 (0, 0))).drew).heap[wc.heap.size]? = some (.cells #[.string ⟨#[]⟩, .string ⟨#[]⟩, .int .i64 0, .slice none 0 0] 24 (0, 0)) from blk_new wc _) hbb; have HZA := Aside0.mk hz; obtain ⟨z0, z1, z2, z3⟩ := blk4 hz; obtain ⟨zf0, zf1, zf2, zf3⟩ := blk4f hz; clear hz)); clear hr hbb)))
        all_goals
          have HWB : Aside0 (Below wc.heap.size wc wa) := ⟨below_step (by repeat (first | (with_reducible first | exact Below.refl _ _ | apply pw_below_drewN | apply below_drew1 | apply below_alloc) | exact Below.refl _ _)) HBA.out⟩
          go_wp2_with fail
          go_meet
        case rel =>
          obtain ⟨_, k1, k2⟩ := Kd.R_reads' HRA.out
          exact ⟨wa.heap.size, A3, c3, rfl, rfl, ⟨Dt.blk (blk_new wa _) k1 (Kd.C_below k2 (below_alloc (Below.refl _ _) _))⟩, ⟨below_step HWB.out (below_alloc (Below.refl _ _) _)⟩⟩
        case rel =>
          have hob : Ob wc wa (.slice A3 st2.length c3) st2 := ⟨gb_of HWB.out _, Kd.R_lower HRA.out (by show wc.heap.size + 1 ≤ _; simp)⟩
          obtain ⟨u1, u2⟩ := hob.four HZA.out m1 m3 (n3 : Nat)
          exact ⟨wc.heap.size, A3, c3, rfl, rfl, ⟨u1⟩, ⟨u2⟩⟩
      case rest =>
      obtain ⟨g2, Az2, cz2, rfl, rfl, HZ2, HB2⟩ := hcut
      clear x0 x1 x2 x3 y0 y1 y2 y3 nx ny HXC HYC HCO
      have HQ0 := Aside0.mk (HQ0.out.below HB2.out)
      have HQ1 := Aside0.mk (HQ1.out.below HB2.out)
      have HQ2 := Aside0.mk (HQ2.out.below HB2.out)
      have HZ1 := Aside0.mk (HZ1.out.below HB2.out)
      have HW := Aside0.mk (below_step HW.out HB2.out)
      -- 3
      obtain ⟨⟨x0, x1, x2, x3⟩, xl, xc⟩ := HZ1.out
      obtain ⟨⟨y0, y1, y2, y3⟩, yl, yc⟩ := HQ2.out
      have HXC := Aside0.mk xc
      have HYC := Aside0.mk yc
      have nx := World.new_ne wc _ x0
      have ny := World.new_ne wc _ y0
      have HCO := Aside0.mk (fun wx (h0 : Kd.C k54 wx Az1 st1.length st1) (h1 : Kd.C k54 wx Az l2.length l2) => chain_Compose.calls 3000000 m0 m2 (n2 : Nat) Az1 cz1 st1 m2 m3 (n3 : Nat) Az cz l2 m0 m3 (n3 : Nat) st 0 wx h0 xl h1 yl HF3.out)
      clear xl xc yl yc
      go_upto_region 9 with fail
      go_cut [10, 11] (fun v6 v7 wz => ∃ (g : Nat) (A3 : Option Addr) (c3 : Nat), v6 = .pointer (some ⟨g, 0, none⟩) ∧ v7 = .int .i64 0 ∧ Aside0 (Dt wz g 0 1 2 3 m0 m3 (n3 : Nat) A3 c3 st) ∧ Aside0 (Below wc.heap.size wc wz))
      case first =>
        go_region_held3 (fun w' => w'.cell? ⟨g1, 0, none⟩ = some (.string m0) ∧ w'.cell? ⟨g1, 1, none⟩ = some (.string m2) ∧ w'.cell? ⟨g1, 2, none⟩ = some (.int .i64 (n2 : Nat)) ∧ w'.cell? ⟨g1, 3, none⟩ = some (.slice Az1 st1.length cz1) ∧ w'.cell? ⟨qd, 8, none⟩ = some (.string m2) ∧ w'.cell? ⟨qd, 9, none⟩ = some (.string m3) ∧ w'.cell? ⟨qd, 10, none⟩ = some (.int .i64 (n3 : Nat)) ∧ w'.cell? ⟨qd, 11, none⟩ = some (.slice Az l2.length cz)) (go_keep) (first | (go_at_call 12; ((with_reducible refine (HCO.out _ ?ha ?hb).mono ?_); (case ha => exact Kd.C_below HXC.out (by repeat (first | (with_reducible first | exact Below.refl _ _ | apply pw_below_drewN | apply below_drew1 | apply below_alloc) | exact Below.refl _ _))); (case hb => exact Kd.C_below HYC.out (by repeat (first | (with_reducible first | exact Below.refl _ _ | apply pw_below_drewN | apply below_drew1 | apply below_alloc) | exact Below.refl _ _))); rintro _ wa ⟨v3, rfl, hr, hbb⟩; have HRA := Aside0.mk hr; have HBA := Aside0.mk hbb; obtain ⟨A3, c3, hv3⟩ := Kd.R_slice hr; subst hv3; have e0 := cell_b (cell_b x0 (by repeat (first | (with_reducible first | exact Below.refl _ _ | apply pw_below_drewN | apply below_drew1 | apply below_alloc) | exact Below.refl _ _))) hbb; have e1 := cell_b (cell_b x1 (by repeat (first | (with_reducible first | exact Below.refl _ _ | apply pw_below_drewN | apply below_drew1 | apply below_alloc) | exact Below.refl _ _))) hbb; have e2 := cell_b (cell_b x2 (by repeat (first | (with_reducible first | exact Below.refl _ _ | apply pw_below_drewN | apply below_drew1 | apply below_alloc) | exact Below.refl _ _))) hbb; have e3 := cell_b (cell_b x3 (by repeat (first | (with_reducible first | exact Below.refl _ _ | apply pw_below_drewN | apply below_drew1 | apply below_alloc) | exact Below.refl _ _))) hbb; have e4 := cell_b (cell_b y0 (by repeat (first | (with_reducible first | exact Below.refl _ _ | apply pw_below_drewN | apply below_drew1 | apply below_alloc) | exact Below.refl _ _))) hbb; have e5 := cell_b (cell_b y1 (by repeat (first | (with_reducible first | exact Below.refl _ _ | apply pw_below_drewN | apply below_drew1 | apply below_alloc) | exact Below.refl _ _))) hbb; have e6 := cell_b (cell_b y2 (by repeat (first | (with_reducible first | exact Below.refl _ _ | apply pw_below_drewN | apply below_drew1 | apply below_alloc) | exact Below.refl _ _))) hbb; have e7 := cell_b (cell_b y3 (by repeat (first | (with_reducible first | exact Below.refl _ _ | apply pw_below_drewN | apply below_drew1 | apply below_alloc) | exact Below.refl _ _))) hbb; have nn2 := World.new_ne wa _ e0; have nn3 := World.new_ne wa _ e4; (try (have hz := blk_below (show ((wc.alloc (.cells #[.string ⟨#[]⟩, .string ⟨#[]⟩, .int .i64 0, .slice none 0 0] 24 (0, 0))).drew).heap[wc.heap.size]? = some (.cells #[.string ⟨#[]⟩, .string ⟨#[]⟩, .int .i64 0, .slice none 0 0] 24 (0, 0)) from blk_new wc _) hbb; have HZA := Aside0.mk hz; obtain ⟨z0, z1, z2, z3⟩ := blk4 hz; obtain ⟨zf0, zf1, zf2, zf3⟩ := blk4f hz; clear hz)); clear hr hbb)))
        all_goals
          have HWB : Aside0 (Below wc.heap.size wc wa) := ⟨below_step (by repeat (first | (with_reducible first | exact Below.refl _ _ | apply pw_below_drewN | apply below_drew1 | apply below_alloc) | exact Below.refl _ _)) HBA.out⟩
          go_wp2_with fail
          go_meet
        case rel =>
          obtain ⟨_, k1, k2⟩ := Kd.R_reads' HRA.out
          exact ⟨wa.heap.size, A3, c3, rfl, rfl, ⟨Dt.blk (blk_new wa _) k1 (Kd.C_below k2 (below_alloc (Below.refl _ _) _))⟩, ⟨below_step HWB.out (below_alloc (Below.refl _ _) _)⟩⟩
        case rel =>
          have hob : Ob wc wa (.slice A3 st.length c3) st := ⟨gb_of HWB.out _, Kd.R_lower HRA.out (by show wc.heap.size + 1 ≤ _; simp)⟩
          obtain ⟨u1, u2⟩ := hob.four HZA.out m0 m3 (n3 : Nat)
          exact ⟨wc.heap.size, A3, c3, rfl, rfl, ⟨u1⟩, ⟨u2⟩⟩
      case rest =>
      obtain ⟨g3, Az3, cz3, rfl, rfl, HZ3, HB3⟩ := hcut
      clear x0 x1 x2 x3 y0 y1 y2 y3 nx ny HXC HYC HCO
      have HQ0 := Aside0.mk (HQ0.out.below HB3.out)
      have HQ1 := Aside0.mk (HQ1.out.below HB3.out)
      have HQ2 := Aside0.mk (HQ2.out.below HB3.out)
      have HZ1 := Aside0.mk (HZ1.out.below HB3.out)
      have HZ2 := Aside0.mk (HZ2.out.below HB3.out)
      have HW := Aside0.mk (below_step HW.out HB3.out)
      -- 4
      obtain ⟨⟨x0, x1, x2, x3⟩, xl, xc⟩ := HQ0.out
      obtain ⟨⟨y0, y1, y2, y3⟩, yl, yc⟩ := HZ2.out
      have HXC := Aside0.mk xc
      have HYC := Aside0.mk yc
      have nx := World.new_ne wc _ x0
      have ny := World.new_ne wc _ y0
      have HCO := Aside0.mk (fun wx (h0 : Kd.C k54 wx Ax l0.length l0) (h1 : Kd.C k54 wx Az2 st2.length st2) => chain_Compose.calls 3000000 m0 m1 (n1 : Nat) Ax cx l0 m1 m3 (n3 : Nat) Az2 cz2 st2 m0 m3 (n3 : Nat) st 0 wx h0 xl h1 yl HF4.out)
      clear xl xc yl yc
      go_upto_region 10 with fail
      go_cut [12, 13] (fun v6 v7 wz => ∃ (g : Nat) (A3 : Option Addr) (c3 : Nat), v6 = .pointer (some ⟨g, 0, none⟩) ∧ v7 = .int .i64 0 ∧ Aside0 (Dt wz g 0 1 2 3 m0 m3 (n3 : Nat) A3 c3 st) ∧ Aside0 (Below wc.heap.size wc wz))
      case first =>
        go_region_held3 (fun w' => w'.cell? ⟨qd, 0, none⟩ = some (.string m0) ∧ w'.cell? ⟨qd, 1, none⟩ = some (.string m1) ∧ w'.cell? ⟨qd, 2, none⟩ = some (.int .i64 (n1 : Nat)) ∧ w'.cell? ⟨qd, 3, none⟩ = some (.slice Ax l0.length cx) ∧ w'.cell? ⟨g2, 0, none⟩ = some (.string m1) ∧ w'.cell? ⟨g2, 1, none⟩ = some (.string m3) ∧ w'.cell? ⟨g2, 2, none⟩ = some (.int .i64 (n3 : Nat)) ∧ w'.cell? ⟨g2, 3, none⟩ = some (.slice Az2 st2.length cz2)) (go_keep) (first | (go_at_call 12; ((with_reducible refine (HCO.out _ ?ha ?hb).mono ?_); (case ha => exact Kd.C_below HXC.out (by repeat (first | (with_reducible first | exact Below.refl _ _ | apply pw_below_drewN | apply below_drew1 | apply below_alloc) | exact Below.refl _ _))); (case hb => exact Kd.C_below HYC.out (by repeat (first | (with_reducible first | exact Below.refl _ _ | apply pw_below_drewN | apply below_drew1 | apply below_alloc) | exact Below.refl _ _))); rintro _ wa ⟨v3, rfl, hr, hbb⟩; have HRA := Aside0.mk hr; have HBA := Aside0.mk hbb; obtain ⟨A3, c3, hv3⟩ := Kd.R_slice hr; subst hv3; have e0 := cell_b (cell_b x0 (by repeat (first | (with_reducible first | exact Below.refl _ _ | apply pw_below_drewN | apply below_drew1 | apply below_alloc) | exact Below.refl _ _))) hbb; have e1 := cell_b (cell_b x1 (by repeat (first | (with_reducible first | exact Below.refl _ _ | apply pw_below_drewN | apply below_drew1 | apply below_alloc) | exact Below.refl _ _))) hbb; have e2 := cell_b (cell_b x2 (by repeat (first | (with_reducible first | exact Below.refl _ _ | apply pw_below_drewN | apply below_drew1 | apply below_alloc) | exact Below.refl _ _))) hbb; have e3 := cell_b (cell_b x3 (by repeat (first | (with_reducible first | exact Below.refl _ _ | apply pw_below_drewN | apply below_drew1 | apply below_alloc) | exact Below.refl _ _))) hbb; have e4 := cell_b (cell_b y0 (by repeat (first | (with_reducible first | exact Below.refl _ _ | apply pw_below_drewN | apply below_drew1 | apply below_alloc) | exact Below.refl _ _))) hbb; have e5 := cell_b (cell_b y1 (by repeat (first | (with_reducible first | exact Below.refl _ _ | apply pw_below_drewN | apply below_drew1 | apply below_alloc) | exact Below.refl _ _))) hbb; have e6 := cell_b (cell_b y2 (by repeat (first | (with_reducible first | exact Below.refl _ _ | apply pw_below_drewN | apply below_drew1 | apply below_alloc) | exact Below.refl _ _))) hbb; have e7 := cell_b (cell_b y3 (by repeat (first | (with_reducible first | exact Below.refl _ _ | apply pw_below_drewN | apply below_drew1 | apply below_alloc) | exact Below.refl _ _))) hbb; have nn2 := World.new_ne wa _ e0; have nn3 := World.new_ne wa _ e4; (try (have hz := blk_below (show ((wc.alloc (.cells #[.string ⟨#[]⟩, .string ⟨#[]⟩, .int .i64 0, .slice none 0 0] 24 (0, 0))).drew).heap[wc.heap.size]? = some (.cells #[.string ⟨#[]⟩, .string ⟨#[]⟩, .int .i64 0, .slice none 0 0] 24 (0, 0)) from blk_new wc _) hbb; have HZA := Aside0.mk hz; obtain ⟨z0, z1, z2, z3⟩ := blk4 hz; obtain ⟨zf0, zf1, zf2, zf3⟩ := blk4f hz; clear hz)); clear hr hbb)))
        all_goals
          have HWB : Aside0 (Below wc.heap.size wc wa) := ⟨below_step (by repeat (first | (with_reducible first | exact Below.refl _ _ | apply pw_below_drewN | apply below_drew1 | apply below_alloc) | exact Below.refl _ _)) HBA.out⟩
          go_wp2_with fail
          go_meet
        case rel =>
          obtain ⟨_, k1, k2⟩ := Kd.R_reads' HRA.out
          exact ⟨wa.heap.size, A3, c3, rfl, rfl, ⟨Dt.blk (blk_new wa _) k1 (Kd.C_below k2 (below_alloc (Below.refl _ _) _))⟩, ⟨below_step HWB.out (below_alloc (Below.refl _ _) _)⟩⟩
        case rel =>
          have hob : Ob wc wa (.slice A3 st.length c3) st := ⟨gb_of HWB.out _, Kd.R_lower HRA.out (by show wc.heap.size + 1 ≤ _; simp)⟩
          obtain ⟨u1, u2⟩ := hob.four HZA.out m0 m3 (n3 : Nat)
          exact ⟨wc.heap.size, A3, c3, rfl, rfl, ⟨u1⟩, ⟨u2⟩⟩
      case rest =>
      obtain ⟨g4, Az4, cz4, rfl, rfl, HZ4, HB4⟩ := hcut
      clear x0 x1 x2 x3 y0 y1 y2 y3 nx ny HXC HYC HCO
      have HQ0 := Aside0.mk (HQ0.out.below HB4.out)
      have HQ1 := Aside0.mk (HQ1.out.below HB4.out)
      have HQ2 := Aside0.mk (HQ2.out.below HB4.out)
      have HZ1 := Aside0.mk (HZ1.out.below HB4.out)
      have HZ2 := Aside0.mk (HZ2.out.below HB4.out)
      have HZ3 := Aside0.mk (HZ3.out.below HB4.out)
      have HW := Aside0.mk (below_step HW.out HB4.out)
      obtain ⟨⟨x0, x1, x2, x3⟩, xl, xc⟩ := HZ3.out
      obtain ⟨⟨y0, y1, y2, y3⟩, yl, yc⟩ := HZ4.out
      have HSM := Aside0.mk (fun wx (hb : Below wc.heap.size wc wx) => barqueref06_Same.calls 3000000 m0 m3 (n3 : Nat) Az3 cz3 st m0 m3 (n3 : Nat) Az4 cz4 st true wx (Kd.C_below xc hb) xl (Kd.C_below yc hb) yl HSA.out)
      clear xl xc yl yc
      go_wp2_with (first | (go_at_call 14; go_loud ((with_reducible refine (HSM.out _ ?hb).mono ?_); (case hb => repeat (first | (with_reducible first | exact Below.refl _ _ | apply pw_below_drewN | apply below_drew1 | apply below_alloc) | exact Below.refl _ _)); rintro _ wx ⟨rfl, hbb⟩; have HBX := Aside0.mk (below_step HW.out (below_step (w := wc) (by repeat (first | (with_reducible first | exact Below.refl _ _ | apply pw_below_drewN | apply below_drew1 | apply below_alloc) | exact Below.refl _ _)) hbb)); clear hbb)) | (go_at_call 11; go_loud ((with_reducible refine (HAW.out _).mono ?_); rintro _ wy ⟨rfl, hbb⟩; have HBY := Aside0.mk (below_step HBX.out hbb); clear hbb)))
      go_ret
      exact ⟨rfl, HBY.out⟩
theorem walked (a0 : Option Addr) (c0 : Nat) (z0 : List ByteArray) (a1 : Int) (W : World) (hc0 : z0.length ≤ c0) (hC0 : Kd.C Kd.string W a0 z0.length z0) (hg0 : ∀ y ∈ z0, good9 y) (hs0 : z0.length * 16 ≤ 140737488351232) (w1 : (Lit.int .i64 a1).wf = true) :
    Calls Try.prog 7 #[.slice a0 z0.length c0, .int .i64 a1] W fun e w' => e = .returned (.bool true) ∧ Below W.heap.size W w' :=
  walked0 a0 c0 z0 a1 W hc0 hC0 (bounds_i64 w1)
end Go.Proofs.Ytjgelmfkoefclaa.chainGroups

-- from YtjgelmfkoefclaaLawChainGroups
/- The law ChainGroups of the given program: every call of it answers true, and what it was handed reads behind the call as it did before. No condition. (The row, out of the walk; laid by wip/tools/rows.py.) -/
namespace Go.Proofs.Ytjgelmfkoefclaa.chainGroups
open Go.ChangeShapes Go.WideShapes Go.ChangeAt Go.RowKit
open Go.ChangeMaps (open_string shut_string)
open Go.Proofs.YtjgelmfkoefclaaW.PrintWords
open Go.Proofs.YtjgelmfkoefclaaW.PrintLast
open Go.Proofs.YtjgelmfkoefclaaW.PrintMore
open Go.Proofs.Ytjgelmfkoefclaa.PAll
open Go.Proofs.Ytjgelmfkoefclaa
set_option linter.unusedVariables false
set_option linter.unusedSimpArgs false
theorem own : ownKnob Try.prog.godebug = none := by kernel_rfl
theorem laidOut : laidOutB Try.prog = true := by kernel_rfl
set_option maxRecDepth 100000 in
set_option maxHeartbeats 1000000 in
theorem lifted (os : Os) (started : os.Started) (H : Type) (enc : TypeId × Value → H) :
    ReturnsInHanded {} Try.checked os 7 .any (Rows.chainGroupsSpec.pre6 enc Try.prog Try.f7 Rows.chainGroupsRow.domain false) (Rows.chainGroupsSpec.post enc Try.prog Try.f7 false true false false) := by
  refine returnsInHanded_of_change_sized (C := Try.checked) own started (by kernel_rfl) Try.func7
    (ChangeSpec.witness6 (enc := enc) (C := Try.checked) false ⟨#[], #[.slice none 0 0, .int .i64 0], []⟩ 8 (by kernel_rfl) (by kernel_rfl) (by kernel_rfl) (by kernel_rfl)) ?_
  intro W base args ds gs before hval0 hW hcnd hsz0 _
  have hsz : (DataW.weightsEach Try.prog (Try.f7.params.toList ++ Rows.chainGroupsSpec.plain.varTypes Try.prog) (ds ++ gs)).all (· ≤ reachBytes) = true := hsz0
  have hval : ∀ (j : Nat) t v, Try.f7.params[j]? = some t → args[j]? = some v → Value.okWide Try.prog W .any base t v := hval0
  have hW' := hW
  obtain ⟨p, q, hA0, hV, rfl, hfz, hnd⟩ := hW
  have hA : DataW.TrodAll enc Try.prog W 0 (fun _ => true) true Try.f7.params.toList args.toList ds p := hA0
  rw [Try.params7] at hA hval hsz
  obtain ⟨v0, vs0, d0, ds0, p0, q0, hargs, rfl, rfl, h0, r0⟩ := trodAll_cons hA
  obtain ⟨v1, vs1, d1, ds1, p1, q1, rfl, rfl, rfl, h1, r1⟩ := trodAll_cons r0
  obtain ⟨rfl, rfl, rfl⟩ := trodAll_nil r1
  obtain rfl : args = #[v0, v1] := by cases args; simp_all
  obtain ⟨rfl, rfl⟩ := trodVars_none hV
  obtain ⟨a0, len0, c0, rfl⟩ := okWide_slice Try.underlying36 (hval 0 36 v0 rfl rfl)
  have k0 := h0
  have lt0 : ∀ x ∈ p0, x.block < W.heap.size := by obtain ⟨m, hm⟩ := k0; exact DataW.trod_lt m _ _ _ hm
  have hs0 := Opens.sized_arg hsz (j := 0) (t := 36) rfl rfl Try.underlying36 (B := 16) (by kernel_rfl) h0
  obtain ⟨z0, rfl, hc0, hC0, hg0⟩ := Opens.opens_arg Try.underlying36 (d := Kd.string) (good := good9) (by kernel_rfl) opens9 h0
  obtain ⟨a1, rfl, rfl, rfl, w1⟩ := open_int Try.underlying3 (hval 1 3 v1 rfl rfl) h1
  clear hA0 hval0 hsz0 hsz
  refine (walked a0 c0 z0 a1 W hc0 hC0 hg0 hs0 w1).mono fun e W' ⟨he, bel⟩ => ?_
  subst he
  exact ⟨_, rfl, _, _, _, [], _, [], hW', trodAll_mk1 (shut_bool Try.underlying4 _), (trodAll_cons_mk (Below.trod laidOut (by kernel_rfl) (of_decide_eq_true (by kernel_rfl)) k0 bel lt0) (trodAll_cons_mk (shut_int Try.underlying3 w1) trodAll_mk0)), rfl, bel.frame _, fun h => by cases h⟩
theorem over : Rows.chainGroupsRow.holds Try.pinned (OpenSpec.ofChange Rows.chainGroupsSpec) :=
  OpenClaim.holds_of_wide 7 Try.f7 rfl rfl rfl rfl rfl rfl rfl ⟨rfl, rfl, rfl, rfl, rfl⟩ rfl rfl rfl rfl rfl (by kernel_rfl) Try.func7 (by kernel_rfl)
    (of_decide_eq_true (by kernel_rfl)) (by unfold Func.isWrapper; first | (rw [if_pos (by decide +kernel)]; kernel_rfl) | (rw [if_neg (by decide +kernel)]; exact ⟨rfl, rfl⟩))
    (fun os started H enc _ => lifted os started H enc)
theorem proved : Rows.ChainGroupsSaid := over
#print axioms proved
end Go.Proofs.Ytjgelmfkoefclaa.chainGroups
namespace Go.Proofs.Ytjgelmfkoefclaa
/-- The row, under a short name, for the claim. -/
theorem chainGroups_holds : Rows.ChainGroupsSaid := chainGroups.proved
end Go.Proofs.Ytjgelmfkoefclaa

