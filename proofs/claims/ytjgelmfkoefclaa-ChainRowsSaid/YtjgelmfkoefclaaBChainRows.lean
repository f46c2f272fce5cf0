/- The last part of the proof of the law ChainRows (texts of this session, joined by wip/tools/tail.py): every call of it answers true, and what it was handed reads behind the call as it did before. No condition. -/
import Derived.Test.YtjgelmfkoefclaaBase
import Derived.Test.YtjgelmfkoefclaaBasd
import Derived.Test.YtjgelmfkoefclaaRunLaw
import Derived.Test.YtjgelmfkoefclaaFlat
import Derived.BigQuiet
import Derived.Outline
import Derived.Deep.DeepMust
import Derived.RegionTactic
import Derived.Test.YtjgelmfkoefclaaGivLaid
import Derived.Test.YtjgelmfkoefclaaGivSearch
import Derived.Test.YtjgelmfkoefclaaPAllx11
import Derived.Deep.RegionHeld3
import Derived.Test.YtjgelmfkoefclaaPAllx0
import Derived.Test.YtjgelmfkoefclaaPathLaw
import Derived.IntWalk
import Derived.Test.YtjgelmfkoefclaaRead
import Derived.Test.YtjgelmfkoefclaaGivRow
import Derived.Test.YtjgelmfkoefclaaRows
import Derived.Test.YtjgelmfkoefclaaOpens
import Derived.WalkKit
import Derived.ProofKit
import Derived.OpenShut
import Derived.ShutString
import Derived.ChangeOld
import Derived.Below
import Derived.SizedLaws
import Derived.Lib.SmallJoins
-- from YtjgelmfkoefclaaLayLaw
/- Deltas as what they make byte by byte, and put together: the order is all one. -/
namespace Go.Proofs.Ytjgelmfkoefclaa.Pure
open Go.RowKit Go.Proofs.YtjgelmfkoefclaaW.PrintWords Go.Proofs.YtjgelmfkoefclaaW.PrintLast Go.Proofs.YtjgelmfkoefclaaW.PrintMore Go.Proofs.Ytjgelmfkoefclaa.PAll
set_option linter.unusedVariables false
set_option linter.unusedSimpArgs false

def cmp (x y : List S59) : List S59 := y.map (fun b => if b.f0 = true then b else rd_T59 x b.f1)
theorem cmp_app (x a b : List S59) : cmp x (a ++ b) = cmp x a ++ cmp x b := by unfold cmp; exact List.map_append
theorem cmp_len (x a : List S59) : (cmp x a).length = a.length := by unfold cmp; exact List.length_map _
theorem told_told (s : ByteArray) : ∀ b ∈ told s, b.f0 = true := fun b hb => by
  unfold told at hb
  obtain ⟨i, _, rfl⟩ := List.mem_map.1 hb
  rfl
theorem cmp_told (x : List S59) (s : ByteArray) : cmp x (told s) = told s := by
  unfold cmp
  conv => rhs; rw [← List.map_id (told s)]
  exact List.map_congr_left (fun b hb => by rw [if_pos (told_told s b hb)]; rfl)
theorem cmp_froms (x : List S59) (p n : Nat) (h : p + n ≤ x.length) (hx : x.length ≤ 2000000) : cmp x (froms (p : Nat) n) = (x.drop p).take n := by
  unfold cmp
  apply List.ext_getElem
  · rw [List.length_map, froms_len, List.length_take, List.length_drop]; omega
  · intro i h1 h2
    have h3 : i < n := by rw [List.length_map, froms_len] at h1; exact h1
    rw [List.getElem_map, froms_get, if_neg (by simp), List.getElem_take, List.getElem_drop]
    show rd_T59 x (wrap64 ((p : Nat) + (i : Nat))) = _
    rw [wrap_in (by unfold in64; omega), show ((p : Nat) : Int) + (i : Nat) = ((p + i : Nat) : Int) by omega]
    exact rd70_nat x (p + i) (by omega)
def Lay (m n : Nat) (l : List S54) : Prop := (∀ x ∈ l, okB m x) ∧ sumN l = n
theorem Lay.all {m n : Nat} {l : List S54} (h : Lay m n l) : AllOk l := fun x hx => (h.1 x hx).1
theorem bytes1_in {m : Nat} (hm : m ≤ 524288) {x : S54} (h : okB m x) : ∀ b ∈ bytes1 x, b.f0 = true ∨ (0 ≤ b.f1 ∧ b.f1 < m) := fun b hb => by
  obtain ⟨h1, h2⟩ := h
  unfold bytes1 at hb
  unfold stepOk at h1
  split at hb
  · exact .inl (told_told _ b hb)
  · rename_i h0
    have h0' : x.f2.size = 0 := by omega
    rw [if_pos h0'] at h1
    have h3 := h2 h0'
    unfold froms at hb
    obtain ⟨k, hk, rfl⟩ := List.mem_map.1 hb
    have hk := List.mem_range.1 hk
    right
    show 0 ≤ wrap64 _ ∧ wrap64 _ < _
    rw [wrap_in (by unfold in64; omega)]
    omega
theorem Lay.in {m n : Nat} {l : List S54} (h : Lay m n l) (hm : m ≤ 524288) : ∀ b ∈ bytesV l, b.f0 = true ∨ (0 ≤ b.f1 ∧ b.f1 < m) := fun b hb => by
  unfold bytesV at hb
  obtain ⟨x, hx, hb⟩ := List.mem_flatMap.1 hb
  exact bytes1_in hm (h.1 x hx) b hb
theorem Lay.len {m n : Nat} {l : List S54} (h : Lay m n l) : (bytesV l).length = n := (bytesV_len l h.all).trans h.2
theorem cut_ok {m : Nat} (hm : m ≤ 524288) {x : S54} (h : okB m x) (off k : Nat) (hk : off + k ≤ lenN x) (h0 : 0 < k) : okB m (cutV x off k) := by
  obtain ⟨h1, h2⟩ := h
  unfold stepOk at h1
  unfold cutV lenN at *
  by_cases h3 : x.f2.size = 0
  · rw [if_pos h3] at h1 ⊢
    have h4 := h2 h3
    refine ⟨?_, fun _ => ?_⟩
    · unfold stepOk
      rw [if_pos (show (⟨#[]⟩ : ByteArray).size = 0 from rfl)]
      show 0 < ((k : Nat) : Int) ∧ 0 ≤ wrap64 _ ∧ ((k : Nat) : Int) ≤ 524288 ∧ wrap64 _ ≤ 524288 - ((k : Nat) : Int)
      rw [wrap_in (by unfold in64; omega)]
      omega
    · show wrap64 _ + ((k : Nat) : Int) ≤ m
      rw [wrap_in (by unfold in64; omega)]
      omega
  · rw [if_neg h3] at h1 ⊢
    have hs : (x.f2.extract off (off + k)).size = k := by rw [ByteArray.size_extract]; omega
    refine ⟨?_, fun h5 => ?_⟩
    · unfold stepOk
      show if (x.f2.extract off (off + k)).size = 0 then _ else (0 : Int) = 0 ∧ (0 : Int) = 0 ∧ (x.f2.extract off (off + k)).size ≤ 4096
      rw [hs, if_neg (by omega)]
      omega
    · have h6 : (x.f2.extract off (off + k)).size = 0 := h5
      omega
theorem pieceN_ok {m : Nat} (hm : m ≤ 524288) (l : List S54) (h : ∀ x ∈ l, okB m x) (off n : Nat) (hs : off + n ≤ sumN l) (ho : 0 < n → ∀ x r, l = x :: r → off < lenN x) : ∀ y ∈ pieceN l off n, okB m y := by
  induction l generalizing off n with
  | nil => intro y hy; cases hy
  | cons x r ih =>
    intro y hy
    rw [pieceN] at hy
    split at hy
    · cases hy
    · rename_i h0
      have hx := h x (List.mem_cons_self ..)
      have hox := ho (by omega) x r rfl
      rw [sumN_cons] at hs
      have hr : ∀ x ∈ r, okB m x := fun y hy => h y (List.mem_cons_of_mem _ hy)
      rcases List.mem_cons.1 hy with rfl | hy
      · exact cut_ok hm hx _ _ (by omega) (by omega)
      · exact ih hr 0 _ (by omega) (fun hp z r' e => by have := (stepOk_len (hr z (by rw [e]; exact List.mem_cons_self ..)).1).1; omega) y hy
theorem pieceAt_ok {m : Nat} (hm : m ≤ 524288) (l : List S54) (h : ∀ x ∈ l, okB m x) (a n : Nat) (hs : a + n ≤ sumN l) : ∀ y ∈ pieceAt l a n, okB m y := by
  induction l generalizing a with
  | nil => intro y hy; cases hy
  | cons x r ih =>
    intro y hy
    rw [pieceAt] at hy
    split at hy
    · rename_i h0
      exact pieceN_ok hm (x :: r) h a n hs (fun _ z r' e => by injection e with e; subst e; exact h0) y hy
    · rename_i h0
      rw [sumN_cons] at hs
      exact ih (fun y hy => h y (List.mem_cons_of_mem _ hy)) _ (by omega) y hy
theorem comp_cmp {m n : Nat} (hm : m ≤ 524288) (hn : n ≤ 524288) {l0 : List S54} (h0 : Lay m n l0) (l1 : List S54) (h1 : ∀ x ∈ l1, okB n x) : ∀ out, (∀ y ∈ out, okB m y) →
    ∃ o, compF l0 (n : Int) l1 out = some o ∧ bytesV o = bytesV out ++ cmp (bytesV l0) (bytesV l1) ∧ ∀ y ∈ o, okB m y := by
  induction l1 with
  | nil => intro out ho; exact ⟨out, rfl, by rw [show bytesV [] = ([] : List S59) from rfl]; exact (List.append_nil _).symm, ho⟩
  | cons x r ih =>
    intro out ho
    have hx := h1 x (List.mem_cons_self ..)
    have hr : ∀ x ∈ r, okB n x := fun y hy => h1 y (List.mem_cons_of_mem _ hy)
    rw [compF, bytesV_cons, cmp_app]
    by_cases ht : x.f2.size = 0
    · rw [if_neg (fun h => h ht)]
      obtain ⟨hx2, hx3⟩ := hx
      have hx3 := hx3 ht
      unfold stepOk at hx2
      rw [if_pos ht] at hx2
      rw [if_neg (by omega)]
      have e1 : bytes1 x = froms x.f0 x.f1.toNat := by unfold bytes1; rw [if_neg (fun hh => hh ht)]
      obtain ⟨p, hp⟩ := Int.eq_ofNat_of_zero_le hx2.2.1
      have hpn : x.f0.toNat = p := by rw [hp]; rfl
      have hs0 := h0.2
      have hl0 := h0.len
      have hb := pieceAt_bytes l0 h0.all p x.f1.toNat (by omega)
      rw [hpn]
      obtain ⟨o, a1, a2, a3⟩ := ih hr (out ++ pieceAt l0 p x.f1.toNat) (fun y hy => by
        rcases List.mem_append.mp hy with hy | hy
        · exact ho y hy
        · exact pieceAt_ok hm l0 h0.1 p _ (by omega) y hy)
      refine ⟨o, a1, ?_, a3⟩
      rw [a2, bytesV_append, hb, e1, hp, cmp_froms _ p _ (by omega) (by omega), List.append_assoc]
    · rw [if_pos ht]
      have e1 : bytes1 x = told x.f2 := by unfold bytes1; rw [if_pos ht]
      obtain ⟨o, a1, a2, a3⟩ := ih hr (out ++ [x]) (fun y hy => by
        rcases List.mem_append.mp hy with hy | hy
        · exact ho y hy
        · rw [List.mem_singleton.mp hy]
          refine ⟨hx.1, fun h => absurd h ht⟩)
      refine ⟨o, a1, ?_, a3⟩
      rw [a2, bytesV_append, bytesV_one, e1, cmp_told, List.append_assoc]
theorem copy_ok {m : Nat} (hm : m ≤ 524288) (o : List S54) (ho : ∀ x ∈ o, okB m x) (x : S54) (hx : okB m x) (h2 : x.f2.size = 0) : ∀ y ∈ tidyCopy o x, okB m y := by
  obtain ⟨h3, h4⟩ := hx
  have h4 := h4 h2
  unfold stepOk at h3
  rw [if_pos h2] at h3
  have hnew : okB m ⟨x.f0, x.f1, ⟨#[]⟩⟩ := ⟨by unfold stepOk; rw [if_pos (show (⟨#[]⟩ : ByteArray).size = 0 from rfl)]; exact h3, fun _ => h4⟩
  rcases list_last o with rfl | ⟨o', y, rfl⟩
  · rw [copy_nil]
    intro z hz
    rw [List.mem_singleton.1 hz]
    exact hnew
  · by_cases hc : y.f2.size = 0 ∧ wrap64 (y.f0 + y.f1) = x.f0
    · rw [copy_merge o' y x hc.1 hc.2]
      intro z hz
      rcases List.mem_append.1 hz with hz | hz
      · exact ho z (List.mem_append_left _ hz)
      · rw [List.mem_singleton.1 hz]
        obtain ⟨y1, y2⟩ := ho y (List.mem_append_right _ (List.mem_singleton.2 rfl))
        have y2 := y2 hc.1
        unfold stepOk at y1
        rw [if_pos hc.1] at y1
        have e := hc.2
        rw [wrap_in (by unfold in64; omega)] at e
        refine ⟨?_, fun _ => ?_⟩
        · unfold stepOk
          rw [if_pos hc.1]
          show 0 < wrap64 _ ∧ 0 ≤ y.f0 ∧ wrap64 _ ≤ 524288 ∧ y.f0 ≤ 524288 - wrap64 _
          rw [wrap_in (by unfold in64; omega)]
          omega
        · show y.f0 + wrap64 _ ≤ m
          rw [wrap_in (by unfold in64; omega)]
          omega
    · rw [copy_new o' y x hc]
      intro z hz
      rcases List.mem_append.1 hz with hz | hz
      · exact ho z hz
      · rw [List.mem_singleton.1 hz]; exact hnew
theorem tidyS_ok {m : Nat} (hm : m ≤ 524288) (st : ByteArray × List S54) (ho : ∀ x ∈ st.2, okB m x) (x : S54) (hx : okB m x) : ∀ y ∈ (tidyS st x).2, okB m y := by
  unfold tidyS
  by_cases h2 : x.f2.size = 0
  · rw [if_neg (fun h => h h2)]
    split
    · exact ho
    · refine copy_ok hm _ (fun z hz => ?_) x hx h2
      rcases List.mem_append.1 hz with hz | hz
      · exact ho z hz
      · exact (flush_run [] m _ _ (Nat.le_refl _)).2 z hz
  · rw [if_pos h2]
    exact ho
theorem tidyF_ok {m : Nat} (hm : m ≤ 524288) (l : List S54) : ∀ st : ByteArray × List S54, (∀ x ∈ st.2, okB m x) → (∀ x ∈ l, okB m x) → ∀ y ∈ (l.foldl tidyS st).2, okB m y := by
  induction l with
  | nil => intro st ho _; exact ho
  | cons x r ih =>
    intro st ho hl
    exact ih _ (tidyS_ok hm st ho x (hl x (List.mem_cons_self ..))) (fun y hy => hl y (List.mem_cons_of_mem _ hy))
theorem tidy_ok {m : Nat} (hm : m ≤ 524288) (l : List S54) (h : ∀ x ∈ l, okB m x) : ∀ y ∈ tidyV l, okB m y := fun y hy => by
  unfold tidyV at hy
  rcases List.mem_append.1 hy with hy | hy
  · exact tidyF_ok hm l (⟨#[]⟩, []) (fun x hx => by cases hx) h y hy
  · exact (flush_run [] m _ _ (Nat.le_refl _)).2 y hy
theorem okB_fit {m : Nat} {l : List S54} (h : ∀ x ∈ l, okB m x) : FitS l := fun x hx => by
  have := (h x hx).1
  unfold stepOk at this
  unfold in64
  split at this <;> omega
theorem lay_tidy {m n : Nat} (hm : m ≤ 524288) (hn : n ≤ 524288) {l : List S54} (h : Lay m n l) : Lay m n (tidyV l) ∧ bytesV (tidyV l) = bytesV l ∧ tidyV l = stepsV (bytesV l) := by
  have hf := okB_fit h.1
  have hs := lenSum_le l
  have hs2 := h.2
  obtain ⟨b, _, _, _⟩ := tidy_bytes l (fun x hx => (hf x hx).1) (by omega)
  have hok := tidy_ok hm l h.1
  have hall : AllOk (tidyV l) := fun x hx => (hok x hx).1
  exact ⟨⟨hok, by rw [← bytesV_len _ hall, b]; exact h.len⟩, b, (steps_bytes l hf).symm⟩
theorem lay_comp {m n p : Nat} (hm : m ≤ 524288) (hn : n ≤ 524288) (hp : p ≤ 524288) {l0 l1 : List S54} (h0 : Lay m n l0) (h1 : Lay n p l1) :
    ∃ o, compF l0 (n : Int) l1 [] = some o ∧ Lay m p (tidyV o) ∧ bytesV (tidyV o) = cmp (bytesV l0) (bytesV l1) ∧ tidyV o = stepsV (cmp (bytesV l0) (bytesV l1)) := by
  obtain ⟨o, a1, a2, a3⟩ := comp_cmp hm hn h0 l1 h1.1 [] (fun y hy => by cases hy)
  have a2 : bytesV o = cmp (bytesV l0) (bytesV l1) := a2
  have hl : Lay m p o := ⟨a3, by rw [← bytesV_len o (fun x hx => (a3 x hx).1), a2, cmp_len]; exact h1.len⟩
  obtain ⟨b1, b2, b3⟩ := lay_tidy hm hp hl
  exact ⟨o, a1, b1, b2.trans a2, by rw [b3, a2]⟩
theorem lay_right {m n : Nat} (hn : n ≤ 524288) {l : List S54} (h : Lay m n l) {a b : ByteArray} (ha : a.size = 32) (hb : b.size = 32) : rightV a b (n : Int) l = true :=
  decide_eq_true ⟨ha, hb, by omega, by omega, fun x hx => (h.1 x hx).1, by rw [h.2]⟩
def compL (l0 l1 : List S54) : List S54 := stepsV (cmp (bytesV l0) (bytesV l1))
theorem lay_compL {m n p : Nat} (hm : m ≤ 524288) (hn : n ≤ 524288) (hp : p ≤ 524288) {l0 l1 : List S54} (h0 : Lay m n l0) (h1 : Lay n p l1) : Lay m p (compL l0 l1) ∧ bytesV (compL l0 l1) = cmp (bytesV l0) (bytesV l1) := by
  obtain ⟨o, _, a2, a3, a4⟩ := lay_comp hm hn hp h0 h1
  unfold compL
  rw [← a4]
  exact ⟨a2, a3⟩
theorem lay_compV {m n p : Nat} (hm : m ≤ 524288) (hn : n ≤ 524288) (hp : p ≤ 524288) {l0 l1 : List S54} (h0 : Lay m n l0) (h1 : Lay n p l1) {a b c : ByteArray} (ha : a.size = 32) (hb : b.size = 32) (hc : c.size = 32) :
    compV a b (n : Int) l0 b c (p : Int) l1 = (a, c, (p : Int), compL l0 l1, 0) := by
  obtain ⟨o, a1, _, _, a4⟩ := lay_comp hm hn hp h0 h1
  unfold compV
  rw [if_pos ⟨lay_right hn h0 ha hb, lay_right hp h1 hb hc⟩, if_pos rfl, a1]
  show (a, c, (p : Int), tidyV o, (0 : Int)) = _
  rw [a4]; rfl
theorem lay_compK (k : Nat) (hk : 1100000 ≤ k) {m n p : Nat} (hm : m ≤ 524288) (hn : n ≤ 524288) (hp : p ≤ 524288) {l0 l1 : List S54} (h0 : Lay m n l0) (h1 : Lay n p l1) {a b c : ByteArray} (ha : a.size = 32) (hb : b.size = 32) (hc : c.size = 32) :
    chain_Compose.f k a b (n : Int) l0 b c (p : Int) l1 = some (a, c, (p : Int), compL l0 l1, 0) := by
  unfold chain_Compose.f
  have e0 := len_le_sum l0 (fun y hy => (stepOk_len (h0.all y hy)).1)
  have e1 := len_le_sum l1 (fun y hy => (stepOk_len (h1.all y hy)).1)
  have s0 := h0.2
  have s1 := h1.2
  rw [if_pos ⟨by omega, by omega, by omega, (okB_fit h0.1).in, (okB_fit h1.1).in⟩, lay_compV hm hn hp h0 h1 ha hb hc]
end Go.Proofs.Ytjgelmfkoefclaa.Pure

-- from YtjgelmfkoefclaaGivDt
/- A delta in four cells. -/
namespace Go.Proofs.Ytjgelmfkoefclaa.PAll
open Go.RowKit Go.Proofs.YtjgelmfkoefclaaW.PrintWords Go.Proofs.YtjgelmfkoefclaaW.PrintLast Go.Proofs.YtjgelmfkoefclaaW.PrintMore Go.Proofs.Ytjgelmfkoefclaa.Pure
set_option linter.unusedVariables false

def Dt (w : World) (q o0 o1 o2 o3 : Nat) (a b : ByteArray) (n : Int) (A : Option Addr) (c : Nat) (l : List S54) : Prop :=
  (w.cell? ⟨q, o0, none⟩ = some (.string a) ∧ w.cell? ⟨q, o1, none⟩ = some (.string b) ∧ w.cell? ⟨q, o2, none⟩ = some (.int .i64 n) ∧ w.cell? ⟨q, o3, none⟩ = some (.slice A l.length c)) ∧ l.length ≤ c ∧ Kd.C k54 w A l.length l
theorem cell_b {w w' : World} {p : Addr} {v : Value} (h : w.cell? p = some v) (hb : Below w.heap.size w w') : w'.cell? p = some v := (hb.cell (p := p) (World.block_lt_of_cell? w p h)).trans h
theorem Dt.below {w w' : World} {q o0 o1 o2 o3 : Nat} {a b : ByteArray} {n : Int} {A : Option Addr} {c : Nat} {l : List S54} (h : Dt w q o0 o1 o2 o3 a b n A c l) (hb : Below w.heap.size w w') : Dt w' q o0 o1 o2 o3 a b n A c l := by
  obtain ⟨⟨h0, h1, h2, h3⟩, h4, h5⟩ := h
  exact ⟨⟨cell_b h0 hb, cell_b h1 hb, cell_b h2 hb, cell_b h3 hb⟩, h4, Kd.C_below h5 hb⟩
theorem Dt.blk {w : World} {g : Nat} {a b : ByteArray} {n : Int} {A : Option Addr} {c : Nat} {l : List S54} (h : w.heap[g]? = some (.cells #[.string a, .string b, .int .i64 n, .slice A l.length c] 24 (0, 0))) (hl : l.length ≤ c) (hC : Kd.C k54 w A l.length l) : Dt w g 0 1 2 3 a b n A c l := ⟨blk4 h, hl, hC⟩
theorem DeltaOf.lay {bk : List ByteArray} {s t : ByteArray} {d : S24} (h : DeltaOf bk s t d) : Lay s.size t.size d.f3 := by
  obtain ⟨_, _, _, _, _, h4, h5⟩ := h
  have e := run_len (L8 s) d.f3 (by rw [L8_len]; exact h4)
  rw [h5, L8_len] at e
  exact ⟨h4, e.symm⟩
end Go.Proofs.Ytjgelmfkoefclaa.PAll

-- from YtjgelmfkoefclaaGivPiece
namespace Go.Proofs.Ytjgelmfkoefclaa.PAll
open Go.RowKit Go.Proofs.YtjgelmfkoefclaaW.PrintWords Go.Proofs.YtjgelmfkoefclaaW.PrintLast Go.Proofs.YtjgelmfkoefclaaW.PrintMore
set_option linter.unusedVariables false
set_option linter.unusedSimpArgs false
attribute [local go_sem] max2_int min2_int max_two min_two

theorem cut_f (p q : Int) (t : ByteArray) (off k : Nat) (r1 r2 : Int) (r3 : ByteArray) (h1 : q = 0 ∨ t.size = 0) (h2 : off + k ≤ lenN ⟨p, q, t⟩) (h3 : off + k ≤ 1000000) (hc : cutV ⟨p, q, t⟩ off k = ⟨r1, r2, r3⟩) : chain_cut.f p q t off (k : Nat) = some (r1, r2, r3) := by
  unfold chain_cut.f
  unfold cutV at hc
  have hz : t.toList = ([] : List UInt8) ↔ t.size = 0 := by
    rw [← data_length t, ByteArray.toList_eq]; exact List.length_eq_zero_iff.symm
  unfold lenN at h2
  simp only at h2 hc
  by_cases h0 : t.size = 0
  · rw [if_pos (hz.2 h0)]
    rw [if_pos h0] at hc
    injection hc with e1 e2 e3
    rw [← e1, ← e2, ← e3]
  · rw [if_neg (fun h => h0 (hz.1 h))]
    rw [if_neg h0] at hc
    injection hc with e1 e2 e3
    have hw : wrap64 ((off : Int) + (k : Int)) = ((off + k : Nat) : Int) := by unfold wrap64; omega
    rw [hw, if_pos (by omega), if_pos (by omega), if_pos (by rcases h1 with h | h <;> omega), Int.toNat_natCast, Int.toNat_natCast]
    subst e1 e2 e3; rfl

set_option maxHeartbeats 2000000 in
set_option maxRecDepth 100000 in
theorem piece_calls (b : Nat) (A Af : Option Addr) (c cf : Nat) (l : List S54) (at_ n : Nat) (w : World) (hb : w.heap[b]? = some (.cells #[.slice A l.length c, .slice Af l.length cf] 82 (0, 0))) (hl : Kd.C k54 w A l.length l) (hf : Kd.C (Kd.int .i64) w Af l.length (fromT l l.length)) (hok : StepsOk l) (hn : 0 < n) (han : at_ + n ≤ sumN l) :
    Calls Try.prog 30 #[.pointer (some ⟨b, 0, none⟩), .int .i64 at_, .int .i64 n] w fun e w' => ∃ v : Value, e = .returned v ∧ Kd.R k54 54 w' w.heap.size (fun _ => True) v (pieceAt l at_ n) ∧ Below w.heap.size w w' := by
  have hc0 : w.cell? ⟨b, 0, none⟩ = some (.slice A l.length c) := (blk_cell hb 0).trans rfl
  have hc1 : w.cell? ⟨b, 1, none⟩ = some (.slice Af l.length cf) := (blk_cell hb 1).trans rfl
  have HB := Aside0.mk hb
  have HL := Aside0.mk hl
  have HF := Aside0.mk hf
  have HOK := Aside0.mk hok
  have hs2 := hok.2.1
  have hmono : ∀ p q : Nat, p ≤ q → q < l.length → rd (fromT l l.length) (p : Nat) ≤ rd (fromT l l.length) (q : Nat) := fun p q h1 h2 => by
    rw [rd_from l hok p (by omega), rd_from l hok q h2]
    have := sumN_take_mono l p q h1
    omega
  have hfl := fromT_length l l.length
  have HS := Aside0.mk (searchInts_calls Af cf (fromT l l.length) ((at_ + 1 : Nat) : Int) w (by rw [hfl]; exact hf) (by rw [hfl]; exact hok.1) (by rw [hfl]; exact hmono))
  rw [hfl] at HS
  clear hb hl hf hok hmono
  go_enter Try.func30, Try.ntmps30
  go_wp2_with (go_at_call 41; go_loud (refine HS.out.mono ?_; rintro _ wb ⟨r, rfl, hp, hbb⟩; have HP := Aside0.mk hp; have HBB := Aside0.mk hbb; clear hp hbb))
  have hl0 : 0 < l.length := by
    rcases Nat.eq_zero_or_pos l.length with h | h
    · rw [List.eq_nil_of_length_eq_zero h] at han
      simp [sumN] at han
      omega
    · exact h
  obtain ⟨i0, hr⟩ : ∃ i0, r = i0 + 1 := by
    obtain ⟨p1, p2, p3⟩ := HP.out
    rw [hfl] at p1 p3
    refine ⟨r - 1, ?_⟩
    rcases Nat.eq_zero_or_pos r with h | h
    · have := p3 0 (by omega) hl0
      rw [rd_from l HOK.out 0 hl0] at this
      simp [sumN] at this
      omega
    · omega
  subst hr
  have hi0 : i0 < l.length ∧ sumN (l.take i0) ≤ at_ ∧ at_ < sumN (l.take (i0 + 1)) := by
    obtain ⟨p1, p2, p3⟩ := HP.out
    rw [hfl] at p1 p3
    refine ⟨by omega, ?_, ?_⟩
    · have := p2 i0 (by omega)
      rw [rd_from l HOK.out i0 (by omega)] at this
      omega
    · rcases Nat.lt_or_ge (i0 + 1) l.length with h | h
      · have := p3 (i0 + 1) (by omega) h
        rw [rd_from l HOK.out (i0 + 1) h] at this
        omega
      · rw [List.take_of_length_le h]; omega
  have hwi : wrap64 (((i0 + 1 : Nat) : Int) - 1) = (i0 : Int) := by unfold wrap64; have := HOK.out.1; omega
  rw [hwi]
  clear hwi
  rw [show (((i0 + 1 : Nat) : Int)) = (i0 : Int) + 1 from by omega]
  have HI0 := Aside0.mk hi0
  clear hi0
  go_loopw [1, 2, 7, 8] (fun v1 v2 v7 v8 wr => ∃ (a m i : Nat) (out : List S54) (vo : Value), vo = v7 ∧ v1 = .int .i64 a ∧ v2 = .int .i64 m ∧ v8 = .int .i64 i ∧ a + m ≤ sumN l ∧ out.length ≤ i ∧ Aside0 (0 < m → i < l.length ∧ sumN (l.take i) ≤ a ∧ a < sumN (l.take (i + 1))) ∧ Aside0 (Kd.R k54 54 wr w.heap.size (fun _ => True) vo out) ∧ Aside0 (out ++ pieceN (l.drop i) (a - sumN (l.take i)) m = pieceN (l.drop i0) (at_ - sumN (l.take i0)) n) ∧ Aside0 (Below w.heap.size w wr)) (fun _ v2 _ _ _ => (intOf v2).toNat)
  case atStart => exact ⟨at_, n, i0, [], .slice none 0 0, rfl, rfl, rfl, rfl, han, Nat.zero_le _, ⟨fun _ => HI0.out⟩, ⟨Kd.R_nil _ _ _ _ _⟩, ⟨rfl⟩, HBB⟩
  case round =>
    obtain ⟨a, m, i, out, vo, rfl, rfl, rfl, rfl, ham, hoi, HIA, HR, HE, HBW⟩ := hrel
    by_cases hm : 0 < m
    · have hmb : decide (0 < m) = true := decide_eq_true hm
      obtain ⟨hil, hia, hib⟩ := HIA.out hm
      have hilb : decide (i < l.length) = true := decide_eq_true hil
      have hbc : wr.heap[b]? = some (.cells #[.slice A l.length c, .slice Af l.length cf] 82 (0, 0)) := blk_below HB.out HBW.out
      have hc0 : wr.cell? ⟨b, 0, none⟩ = some (.slice A l.length c) := (blk_cell hbc 0).trans rfl
      have hc1 : wr.cell? ⟨b, 1, none⟩ = some (.slice Af l.length cf) := (blk_cell hbc 1).trans rfl
      clear hbc
      obtain ⟨ad, rfl, g0, g1, g2⟩ := at_T54 (Kd.C_below HL.out HBW.out) (i : Nat) (by omega) (by omega)
      obtain ⟨af, rfl, f0⟩ := Kd.at_int (Kd.C_below HF.out HBW.out) (i : Nat) (by omega) (by omega)
      rw [rd_from l HOK.out i hil] at f0
      rw [Int.toNat_natCast] at f0 g0 g1 g2
      have HX := Aside0.mk (HOK.out.2.2 _ (rd68_mem l i hil))
      have HST := Aside0.mk (sumN_take_succ l i hil)
      have HPS := Aside0.mk (fun off => pieceN_step l i hil off m hm)
      obtain ⟨x, hx⟩ : ∃ x, x = rd_T54 l (i : Nat) := ⟨_, rfl⟩
      rw [← hx] at g0 g1 g2 HX HST HPS
      obtain ⟨p, q, t⟩ := x
      have HXE := Aside0.mk hx
      clear hx
      obtain ⟨ln, hln⟩ : ∃ ln, ln = lenN ⟨p, q, t⟩ := ⟨_, rfl⟩
      have hlw : chain_length.f p q t = some (ln : Int) := by
        have h1 := HX.out
        have h2 := HST.out
        have h3 := sumN_take_le l (i + 1)
        unfold chain_length.f
        rw [len_wrap ⟨p, q, t⟩ h1.2.1 (by omega), ← hln]
      rw [← hln] at HX HST HPS
      have HLN := Aside0.mk hln
      have HLW := Aside0.mk hlw
      clear hln hlw
      obtain ⟨fr, hfr⟩ : ∃ fr, fr = sumN (l.take i) := ⟨_, rfl⟩
      rw [← hfr] at f0 hia HST HE
      have HFR := Aside0.mk hfr
      clear hfr
      obtain ⟨off, hoff⟩ : ∃ off, off = a - fr := ⟨_, rfl⟩
      have ho2 : (a : Int) - (fr : Int) = (off : Int) := by omega
      have hob : off ≤ 1000000 := by omega
      rw [← hoff] at HE
      have HIA2 := Aside0.mk hia
      have HAM := Aside0.mk ham
      have HIB := Aside0.mk hib
      have HOI := Aside0.mk hoi
      have HOF := Aside0.mk hoff
      have HAN := Aside0.mk han
      have HS2 := Aside0.mk hs2
      clear hia ham hib hoi hoff han hs2 hfl hl0
      have hof2 : off < ln := by have := HST.out; have := HIA2.out; have := HIB.out; have := HOF.out; omega
      have hln2 : ln ≤ 1000000 := by have h3 := sumN_take_le l (i + 1); have := HST.out; have := HS2.out; omega
      obtain ⟨rs, hrs⟩ : ∃ rs, rs = ln - off := ⟨_, rfl⟩
      have hr2 : (ln : Int) - (off : Int) = (rs : Int) := by omega
      have hi9 : i ≤ 1000000 := by have := HOK.out.1; omega
      have ha9 : a ≤ 1000000 := by have := HAM.out; have := HS2.out; omega
      have hm9 : m ≤ 1000000 := by have := HAM.out; have := HS2.out; omega
      by_cases hmk : m ≤ rs
      · have hmi : ¬ (((ln : Int) - (off : Int)) < (m : Int)) := by omega
        have HKI : Aside0 ((m : Int) = (m : Nat)) := ⟨rfl⟩
        have HKN : Aside0 (min m (ln - off) = m) := ⟨by omega⟩
        have HKB : Aside0 (0 < m ∧ m ≤ m ∧ off + m ≤ ln ∧ (m = m ∨ off + m = ln)) := ⟨by omega⟩
        obtain ⟨r1, r2, r3, hcut⟩ : ∃ r1 r2 r3, cutV ⟨p, q, t⟩ off m = ⟨r1, r2, r3⟩ := ⟨_, _, _, rfl⟩
        have hcf : chain_cut.f p q t off (m : Int) = some (r1, r2, r3) := by
          rw [HKI.out]
          exact cut_f p q t off m r1 r2 r3 HX.out.2.2 (by have := HLN.out; have := HKB.out; omega) (by omega) hcut
        have HCF := Aside0.mk hcf
        have HCUT := Aside0.mk hcut
        have HOL : Aside0 (out.length ≤ 1000000) := ⟨by have := HOI.out; have := HOK.out.1; omega⟩
        have HHS : Aside0 (w.heap.size ≤ wr.heap.size) := ⟨HBW.out.size⟩
        clear hcf hcut
        go_wp2_with (first | (go_at_call 40; go_loud (refine (chain_length.calls p q t _ _ HLW.out).mono ?_; rintro _ wc ⟨rfl, hbb⟩; have HBC := Aside0.mk (below_step HBW.out hbb); have HRC := Aside0.mk (Kd.R_below HR.out hbb); clear hbb; have hc2 : wc.cell? ⟨b, 0, none⟩ = some (.slice (some ad) l.length c) := (blk_cell (blk_below HB.out HBC.out) 0).trans rfl; obtain ⟨ad2, e2, k0, k1, k2⟩ := at_T54 (Kd.C_below HL.out HBC.out) (i : Nat) (by omega) (by omega); obtain rfl := Option.some.inj e2; rw [← HXE.out, Int.toNat_natCast] at k0 k1 k2; clear e2)) | (go_at_call 42; go_loud (refine (chain_cut.calls p q t off (m : Int) r1 r2 r3 _ HCF.out).mono ?_; rintro _ wd ⟨rfl, hbb⟩; have HBD := Aside0.mk (below_step HBC.out hbb); have HRD := Aside0.mk (Kd.R_below HRC.out hbb); have HSD : Aside0 (w.heap.size ≤ wd.heap.size) := ⟨HBD.out.size⟩; clear hbb)) | ((with_reducible refine gate_builtin (b := .append) (xs := #[.tmp 44, .tmp 55]) rfl ?_); at_builtin; go_loud (refine Kd.R_append k54 (w0 := w) (W := wd) w.heap.size rfl (.tmp 44) (.tmp 55) 22 54 (.agg #[(.int .i64 0), (.int .i64 0), (.string ⟨#[]⟩)]) 32 rfl Try.underlying22 info54 rfl (by decide) (by omega) vo out (⟨r1, r2, r3⟩ : S54) [.int .i64 r1, .int .i64 r2, .string r3] (fun _ => True) (fun _ => False) rfl ?aX ?aP (fun _ hk => hk.elim) (fun _ _ => trivial) ?aO ?aB ?aS ?aL ?_; (case aX => (first | rfl | (simp; done))); (case aP => exact k54_mkM _ _ _ (⟨r1, r2, r3⟩ : S54)); (case aO => exact HRD.out); (case aB => exact HBD.out); (case aS => exact HSD.out); (case aL => have := HOL.out; omega); intro v1 w1 hR1 hB1 hG1 hO1; have HR1 := Aside0.mk hR1; have HB1 := Aside0.mk hB1; clear hR1 hB1 hG1 hO1)))
        go_roundw
        case rel =>
          refine ⟨a + m, m - m, i + 1, out ++ [⟨r1, r2, r3⟩], _, rfl, ?_, ?_, by go_num, ?_, ?_, ⟨?_⟩, HR1, ⟨?_⟩, HB1⟩
          · first | go_num | (rw [HKI.out]; go_num)
          · exact congrArg (Value.int .i64) (by have := HKB.out; have := HKI.out; omega)
          · have := HAM.out; have := HKB.out; omega
          · rw [List.length_append, List.length_singleton]; have := HOI.out; omega
          · intro h
            have hk := HKB.out
            have hst := HST.out
            have hle : off + m = ln := by omega
            have hof := HOF.out
            have h1 := HIA2.out
            have h2 := HIB.out
            have ham := HAM.out
            have hnx : i + 1 < l.length := by
              rcases Nat.lt_or_ge (i + 1) l.length with h | h
              · exact h
              · rw [List.take_of_length_le h] at hst; omega
            have hs3 := sumN_take_succ l (i + 1) hnx
            have hp := (HOK.out.2.2 _ (rd68_mem l (i + 1) hnx)).1
            exact ⟨hnx, by omega, by omega⟩
          · have e := HE.out
            have hk := HKB.out
            rw [HPS.out off, HKN.out, HCUT.out] at e
            rw [List.append_assoc, List.singleton_append]
            rcases Nat.eq_zero_or_pos (m - m) with h | h
            · rw [h, pieceN_zero] at e ⊢; exact e
            · have hz : a + m - sumN (l.take (i + 1)) = 0 := by have hst := HST.out; have hof := HOF.out; have h1 := HIA2.out; omega
              rw [hz]; exact e
        case measure => have := HKB.out; have := HKI.out; simp [intOf]; omega
      · have hmi : ((ln : Int) - (off : Int)) < (m : Int) := by omega
        have HKI : Aside0 (((ln - off : Nat) : Int) = (rs : Nat)) := ⟨by omega⟩
        have HKN : Aside0 (min m (ln - off) = rs) := ⟨by omega⟩
        have HKB : Aside0 (0 < rs ∧ rs ≤ m ∧ off + rs ≤ ln ∧ (rs = m ∨ off + rs = ln)) := ⟨by omega⟩
        obtain ⟨r1, r2, r3, hcut⟩ : ∃ r1 r2 r3, cutV ⟨p, q, t⟩ off rs = ⟨r1, r2, r3⟩ := ⟨_, _, _, rfl⟩
        have hcf : chain_cut.f p q t off ((ln - off : Nat) : Int) = some (r1, r2, r3) := by
          rw [HKI.out]
          exact cut_f p q t off rs r1 r2 r3 HX.out.2.2 (by have := HLN.out; have := HKB.out; omega) (by omega) hcut
        have HCF := Aside0.mk hcf
        have HCUT := Aside0.mk hcut
        have HOL : Aside0 (out.length ≤ 1000000) := ⟨by have := HOI.out; have := HOK.out.1; omega⟩
        have HHS : Aside0 (w.heap.size ≤ wr.heap.size) := ⟨HBW.out.size⟩
        clear hcf hcut
        go_wp2_with (first | (go_at_call 40; go_loud (refine (chain_length.calls p q t _ _ HLW.out).mono ?_; rintro _ wc ⟨rfl, hbb⟩; have HBC := Aside0.mk (below_step HBW.out hbb); have HRC := Aside0.mk (Kd.R_below HR.out hbb); clear hbb; have hc2 : wc.cell? ⟨b, 0, none⟩ = some (.slice (some ad) l.length c) := (blk_cell (blk_below HB.out HBC.out) 0).trans rfl; obtain ⟨ad2, e2, k0, k1, k2⟩ := at_T54 (Kd.C_below HL.out HBC.out) (i : Nat) (by omega) (by omega); obtain rfl := Option.some.inj e2; rw [← HXE.out, Int.toNat_natCast] at k0 k1 k2; clear e2)) | (go_at_call 42; go_loud (refine (chain_cut.calls p q t off ((ln - off : Nat) : Int) r1 r2 r3 _ HCF.out).mono ?_; rintro _ wd ⟨rfl, hbb⟩; have HBD := Aside0.mk (below_step HBC.out hbb); have HRD := Aside0.mk (Kd.R_below HRC.out hbb); have HSD : Aside0 (w.heap.size ≤ wd.heap.size) := ⟨HBD.out.size⟩; clear hbb)) | ((with_reducible refine gate_builtin (b := .append) (xs := #[.tmp 44, .tmp 55]) rfl ?_); at_builtin; go_loud (refine Kd.R_append k54 (w0 := w) (W := wd) w.heap.size rfl (.tmp 44) (.tmp 55) 22 54 (.agg #[(.int .i64 0), (.int .i64 0), (.string ⟨#[]⟩)]) 32 rfl Try.underlying22 info54 rfl (by decide) (by omega) vo out (⟨r1, r2, r3⟩ : S54) [.int .i64 r1, .int .i64 r2, .string r3] (fun _ => True) (fun _ => False) rfl ?aX ?aP (fun _ hk => hk.elim) (fun _ _ => trivial) ?aO ?aB ?aS ?aL ?_; (case aX => (first | rfl | (simp; done))); (case aP => exact k54_mkM _ _ _ (⟨r1, r2, r3⟩ : S54)); (case aO => exact HRD.out); (case aB => exact HBD.out); (case aS => exact HSD.out); (case aL => have := HOL.out; omega); intro v1 w1 hR1 hB1 hG1 hO1; have HR1 := Aside0.mk hR1; have HB1 := Aside0.mk hB1; clear hR1 hB1 hG1 hO1)))
        go_roundw
        case rel =>
          refine ⟨a + rs, m - rs, i + 1, out ++ [⟨r1, r2, r3⟩], _, rfl, ?_, ?_, by go_num, ?_, ?_, ⟨?_⟩, HR1, ⟨?_⟩, HB1⟩
          · first | go_num | (rw [HKI.out]; go_num)
          · exact congrArg (Value.int .i64) (by have := HKB.out; have := HKI.out; omega)
          · have := HAM.out; have := HKB.out; omega
          · rw [List.length_append, List.length_singleton]; have := HOI.out; omega
          · intro h
            have hk := HKB.out
            have hst := HST.out
            have hle : off + rs = ln := by omega
            have hof := HOF.out
            have h1 := HIA2.out
            have h2 := HIB.out
            have ham := HAM.out
            have hnx : i + 1 < l.length := by
              rcases Nat.lt_or_ge (i + 1) l.length with h | h
              · exact h
              · rw [List.take_of_length_le h] at hst; omega
            have hs3 := sumN_take_succ l (i + 1) hnx
            have hp := (HOK.out.2.2 _ (rd68_mem l (i + 1) hnx)).1
            exact ⟨hnx, by omega, by omega⟩
          · have e := HE.out
            have hk := HKB.out
            rw [HPS.out off, HKN.out, HCUT.out] at e
            rw [List.append_assoc, List.singleton_append]
            rcases Nat.eq_zero_or_pos (m - rs) with h | h
            · rw [h, pieceN_zero] at e ⊢; exact e
            · have hz : a + rs - sumN (l.take (i + 1)) = 0 := by have hst := HST.out; have hof := HOF.out; have h1 := HIA2.out; omega
              rw [hz]; exact e
        case measure => have := HKB.out; have := HKI.out; simp [intOf]; omega
    · have hmb : decide (0 < m) = false := decide_eq_false hm
      have hm0 : m = 0 := by omega
      subst hm0
      go_wp2_with fail
      go_ret
      refine ⟨_, rfl, ?_, HBW.out⟩
      have e := HE.out
      rw [pieceN_zero, List.append_nil] at e
      rw [pieceAt_eq l i0 at_ n HI0.out.1 HI0.out.2.1 HI0.out.2.2, ← e]
      exact HR.out
end Go.Proofs.Ytjgelmfkoefclaa.PAll

-- from YtjgelmfkoefclaaGivCompose
namespace Go.Proofs.Ytjgelmfkoefclaa.PAll
open Go.RowKit Go.Proofs.YtjgelmfkoefclaaW.PrintWords Go.Proofs.YtjgelmfkoefclaaW.PrintLast Go.Proofs.YtjgelmfkoefclaaW.PrintMore Go.Proofs.Ytjgelmfkoefclaa.Pure
set_option linter.unusedVariables false
set_option linter.unusedSimpArgs false
attribute [local go_sem] max2_int min2_int max_two min_two

set_option maxHeartbeats 2000000 in
set_option maxRecDepth 100000 in
theorem compose_calls (a0 a1 : ByteArray) (a2 : Int) (A0 : Option Addr) (c0 : Nat) (l0 : List S54) (b0 b1 : ByteArray) (b2 : Int) (A1 : Option Addr) (c1 : Nat) (l1 : List S54) (r1 r2 : ByteArray) (r3 : Int) (r4 : List S54) (r5 : Int) (w : World)
    (hr0 : Kd.C k54 w A0 l0.length l0) (hc0 : l0.length ≤ c0) (hr1 : Kd.C k54 w A1 l1.length l1) (hc1 : l1.length ≤ c1) (hk : CompOk (l0.length + l1.length + 10) l0 l1) (hv : compV a0 a1 a2 l0 b0 b1 b2 l1 = (r1, r2, r3, r4, r5)) :
    Calls Try.prog 12 #[.agg #[.string a0, .string a1, .int .i64 a2, .slice A0 l0.length c0], .agg #[.string b0, .string b1, .int .i64 b2, .slice A1 l1.length c1]] w fun e w' => ∃ v3_ : Value, e = .returned (.tuple #[.agg #[.string r1, .string r2, .int .i64 r3, v3_], .int .i64 r5]) ∧ Kd.R k54 54 w' w.heap.size (fun _ => True) v3_ r4 ∧ Below w.heap.size w w' := by
  have HRA := Aside0.mk (fun wx (h : Kd.C k54 wx A0 l0.length l0) => delta_Right.calls (l0.length + l1.length + 10) a0 a1 a2 A0 c0 l0 _ wx h hc0 (Right_f a0 a1 a2 l0 hk.2.2.2.1 hk.2.1 _ (by omega)))
  have HRB := Aside0.mk (fun wx (h : Kd.C k54 wx A1 l1.length l1) => delta_Right.calls (l0.length + l1.length + 10) b0 b1 b2 A1 c1 l1 _ wx h hc1 (Right_f b0 b1 b2 l1 hk.2.2.2.2 hk.2.2.1 _ (by omega)))
  have H0 := Aside0.mk hr0
  have H1 := Aside0.mk hr1
  have HC0 := Aside0.mk hc0
  have HC1 := Aside0.mk hc1
  have HK := Aside0.mk hk
  have HV := Aside0.mk hv
  clear hr0 hr1 hc0 hc1 hk hv
  obtain ⟨ra, hra⟩ : ∃ ra, ra = rightV a0 a1 a2 l0 := ⟨_, rfl⟩
  obtain ⟨rb, hrb⟩ : ∃ rb, rb = rightV b0 b1 b2 l1 := ⟨_, rfl⟩
  rw [← hra] at HRA
  rw [← hrb] at HRB
  have HRAE := Aside0.mk hra
  have HRBE := Aside0.mk hrb
  clear hra hrb
  obtain ⟨W3, hW3⟩ : ∃ W3, W3 = ((w.alloc (.cells #[.string a0, .string a1, .int .i64 a2, .slice A0 l0.length c0] 24 (0, 0))).alloc (.cells #[.string b0, .string b1, .int .i64 b2, .slice A1 l1.length c1] 24 (0, 0))).alloc (.cells #[.string ⟨#[]⟩, .string ⟨#[]⟩, .int .i64 0, .slice none 0 0] 24 (0, 0)) := ⟨_, rfl⟩
  have HA : Aside0 (W3.heap[w.heap.size]? = some (.cells #[.string a0, .string a1, .int .i64 a2, .slice A0 l0.length c0] 24 (0, 0))) := ⟨by rw [hW3]; exact blk_alloc (blk_alloc (blk_new _ _) _) _⟩
  have HB : Aside0 (W3.heap[w.heap.size + 1]? = some (.cells #[.string b0, .string b1, .int .i64 b2, .slice A1 l1.length c1] 24 (0, 0))) := ⟨by
    rw [hW3]; have := blk_new (w.alloc (.cells #[.string a0, .string a1, .int .i64 a2, .slice A0 l0.length c0] 24 (0, 0))) (.cells #[.string b0, .string b1, .int .i64 b2, .slice A1 l1.length c1] 24 (0, 0)); rw [World.size_alloc] at this; exact blk_alloc this _⟩
  have HZ : Aside0 (W3.heap[w.heap.size + 1 + 1]? = some (.cells #[.string ⟨#[]⟩, .string ⟨#[]⟩, .int .i64 0, .slice none 0 0] 24 (0, 0))) := ⟨by
    rw [hW3]; have := blk_new ((w.alloc (.cells #[.string a0, .string a1, .int .i64 a2, .slice A0 l0.length c0] 24 (0, 0))).alloc (.cells #[.string b0, .string b1, .int .i64 b2, .slice A1 l1.length c1] 24 (0, 0))) (.cells #[.string ⟨#[]⟩, .string ⟨#[]⟩, .int .i64 0, .slice none 0 0] 24 (0, 0)); rw [World.size_alloc, World.size_alloc] at this; exact this⟩
  have HBW : Aside0 (Below w.heap.size w W3) := ⟨by rw [hW3]; exact below_alloc (below_alloc (below_alloc (Below.refl _ _) _) _) _⟩
  have HW3 := Aside0.mk hW3
  clear hW3
  go_enter Try.func12, Try.ntmps12
  go_upto_region 1 with fail
  rw [← HW3.out]
  have hzero : ∀ (W : World), W.heap[w.heap.size + 1 + 1]? = some (.cells #[.string ⟨#[]⟩, .string ⟨#[]⟩, .int .i64 0, .slice none 0 0] 24 (0, 0)) → ((((W.setCell ⟨w.heap.size + 1 + 1, 0, none⟩ (.string ⟨#[]⟩)).setCell ⟨w.heap.size + 1 + 1, 1, none⟩ (.string ⟨#[]⟩)).setCell ⟨w.heap.size + 1 + 1, 2, none⟩ (.int .i64 0)).setCell ⟨w.heap.size + 1 + 1, 3, none⟩ (.slice none 0 0)).heap[w.heap.size + 1 + 1]? = some (.cells #[.string ⟨#[]⟩, .string ⟨#[]⟩, .int .i64 0, .slice none 0 0] 24 (0, 0)) := fun W h => by
    refine blk_put (cs := #[.string ⟨#[]⟩, .string ⟨#[]⟩, .int .i64 0, .slice none 0 0]) ?_ 3 _ rfl
    refine blk_put (cs := #[.string ⟨#[]⟩, .string ⟨#[]⟩, .int .i64 0, .slice none 0 0]) ?_ 2 _ rfl
    refine blk_put (cs := #[.string ⟨#[]⟩, .string ⟨#[]⟩, .int .i64 0, .slice none 0 0]) ?_ 1 _ rfl
    exact blk_put (cs := #[.string ⟨#[]⟩, .string ⟨#[]⟩, .int .i64 0, .slice none 0 0]) h 0 _ rfl
  have HZERO := Aside0.mk hzero
  clear hzero
  have HEND : ∀ (W : World) (c : Int), Aside0 (Below w.heap.size w W) → Aside0 (W.heap[w.heap.size + 1 + 1]? = some (.cells #[.string ⟨#[]⟩, .string ⟨#[]⟩, .int .i64 0, .slice none 0 0] 24 (0, 0))) → Below w.heap.size w ((((W.setCell ⟨w.heap.size + 1 + 1, 0, none⟩ (.string ⟨#[]⟩)).setCell ⟨w.heap.size + 1 + 1, 1, none⟩ (.string ⟨#[]⟩)).setCell ⟨w.heap.size + 1 + 1, 2, none⟩ (.int .i64 0)).setCell ⟨w.heap.size + 1 + 1, 3, none⟩ (.slice none 0 0)) := fun W c h _ => (((h.out.setCell (p := ⟨w.heap.size + 1 + 1, 0, none⟩) (by show w.heap.size ≤ w.heap.size + 1 + 1; omega) _).setCell (p := ⟨w.heap.size + 1 + 1, 1, none⟩) (by show w.heap.size ≤ w.heap.size + 1 + 1; omega) _).setCell (p := ⟨w.heap.size + 1 + 1, 2, none⟩) (by show w.heap.size ≤ w.heap.size + 1 + 1; omega) _).setCell (p := ⟨w.heap.size + 1 + 1, 3, none⟩) (by show w.heap.size ≤ w.heap.size + 1 + 1; omega) _
  have HE := Aside0.mk HEND
  clear HEND
  obtain ⟨p0, p1, p2, p3⟩ := blk4 HA.out
  have HC3 : Aside0 (Kd.C k54 W3 A0 l0.length l0) := ⟨Kd.C_below H0.out HBW.out⟩
  cases ra with
  | false =>
    go_wp2_with (go_at_call 24; go_loud (refine (HRA.out _ HC3.out).mono ?_; rintro _ wa ⟨rfl, hbb⟩; have HBA := Aside0.mk hbb; have HZA := Aside0.mk (blk_below HZ.out hbb); clear hbb; obtain ⟨z0, z1, z2, z3⟩ := blk4f HZA.out; obtain ⟨y0, y1, y2, y3⟩ := blk4 HZA.out))
    refine bodyPost_ret (results_ct rfl _ _ (w.heap.size + 1 + 1) 24 #[.string ⟨#[]⟩, .string ⟨#[]⟩, .int .i64 0, .slice none 0 0] (0, 0) _ rfl (HZERO.out _ HZA.out) Try.underlying24 rfl (by kernel_rfl)) rfl ?_
    have hv : compV a0 a1 a2 l0 b0 b1 b2 l1 = (⟨#[]⟩, ⟨#[]⟩, 0, [], 1) := by unfold compV; rw [if_neg (fun h => by rw [← HRAE.out] at h; exact absurd h.1 (by decide))]
    rw [HV.out] at hv
    injection hv with e1 hv; injection hv with e2 hv; injection hv with e3 hv; injection hv with e4 e5
    subst e1 e2 e3 e4 e5
    exact ⟨.slice none 0 0, rfl, Kd.R_nil _ _ _ _ _, HE.out _ 0 ⟨below_step HBW.out HBA.out⟩ ⟨HZA.out⟩⟩
  | true =>
    cases rb with
    | false =>
      go_wp2_with (go_at_call 24; go_loud (first | ((with_reducible refine (HRA.out _ HC3.out).mono ?_); rintro _ wa ⟨rfl, hbb⟩; have HBA := Aside0.mk (below_step HBW.out hbb); have HAA := Aside0.mk (blk_below HA.out hbb); have HBBA := Aside0.mk (blk_below HB.out hbb); have HZA := Aside0.mk (blk_below HZ.out hbb); clear hbb p0 p1 p2 p3; have HC4 : Aside0 (Kd.C k54 wa A1 l1.length l1) := ⟨Kd.C_below H1.out HBA.out⟩; obtain ⟨q0, q1, q2, q3⟩ := blk4 HBBA.out) | ((with_reducible refine (HRB.out _ HC4.out).mono ?_); rintro _ wb ⟨rfl, hbb⟩; have HBB := Aside0.mk (below_step HBA.out hbb); have HAB := Aside0.mk (blk_below HAA.out hbb); have HBBB := Aside0.mk (blk_below HBBA.out hbb); have HZB := Aside0.mk (blk_below HZA.out hbb); clear hbb q0 q1 q2 q3; obtain ⟨z0, z1, z2, z3⟩ := blk4f HZB.out; obtain ⟨y0, y1, y2, y3⟩ := blk4 HZB.out; obtain ⟨p0, p1, p2, p3⟩ := blk4 HAB.out; obtain ⟨q0, q1, q2, q3⟩ := blk4 HBBB.out)))
      refine bodyPost_ret (results_ct rfl _ _ (w.heap.size + 1 + 1) 24 #[.string ⟨#[]⟩, .string ⟨#[]⟩, .int .i64 0, .slice none 0 0] (0, 0) _ rfl (HZERO.out _ HZB.out) Try.underlying24 rfl (by kernel_rfl)) rfl ?_
      have hv : compV a0 a1 a2 l0 b0 b1 b2 l1 = (⟨#[]⟩, ⟨#[]⟩, 0, [], 1) := by unfold compV; rw [if_neg (fun h => by rw [← HRBE.out] at h; exact absurd h.2 (by decide))]
      rw [HV.out] at hv
      injection hv with e1 hv; injection hv with e2 hv; injection hv with e3 hv; injection hv with e4 e5
      subst e1 e2 e3 e4 e5
      exact ⟨.slice none 0 0, rfl, Kd.R_nil _ _ _ _ _, HE.out _ 0 ⟨HBB.out⟩ ⟨HZB.out⟩⟩
    | true =>
      by_cases hm : a1.toList = b0.toList
      · have hmb : (a1.toList != b0.toList) = false := bne_eq_false_iff_eq.mpr hm
        have hmc : (a1.toList == b0.toList) = true := beq_iff_eq.mpr hm
        have HM := Aside0.mk hm
        clear hm
        go_wp2_with (go_at_call 24; go_loud (first | ((with_reducible refine (HRA.out _ HC3.out).mono ?_); rintro _ wa ⟨rfl, hbb⟩; have HBA := Aside0.mk (below_step HBW.out hbb); have HAA := Aside0.mk (blk_below HA.out hbb); have HBBA := Aside0.mk (blk_below HB.out hbb); have HZA := Aside0.mk (blk_below HZ.out hbb); clear hbb p0 p1 p2 p3; have HC4 : Aside0 (Kd.C k54 wa A1 l1.length l1) := ⟨Kd.C_below H1.out HBA.out⟩; obtain ⟨q0, q1, q2, q3⟩ := blk4 HBBA.out) | ((with_reducible refine (HRB.out _ HC4.out).mono ?_); rintro _ wb ⟨rfl, hbb⟩; have HBB := Aside0.mk (below_step HBA.out hbb); have HAB := Aside0.mk (blk_below HAA.out hbb); have HBBB := Aside0.mk (blk_below HBBA.out hbb); have HZB := Aside0.mk (blk_below HZA.out hbb); clear hbb q0 q1 q2 q3; obtain ⟨z0, z1, z2, z3⟩ := blk4f HZB.out; obtain ⟨y0, y1, y2, y3⟩ := blk4 HZB.out; obtain ⟨p0, p1, p2, p3⟩ := blk4 HAB.out; obtain ⟨q0, q1, q2, q3⟩ := blk4 HBBB.out)))
        have hok0 : StepsOk l0 := (of_decide_eq_true HRAE.out.symm).ok
        have hok1 : StepsOk l1 := (of_decide_eq_true HRBE.out.symm).ok
        have HOK0 := Aside0.mk hok0
        have HOK1 := Aside0.mk hok1
        have HL := Aside0.mk (laid_calls A0 c0 l0 wb (Kd.C_below H0.out HBB.out) HC0.out hok0.1)
        clear hok0 hok1
        go_wp2_with (go_at_call 29; go_loud (refine HL.out.mono ?_; rintro _ wc ⟨bt, vt, rfl, hbt, htb, htr, hbb⟩; have HBC := Aside0.mk (below_step HBB.out hbb); have HAC := Aside0.mk (blk_below HAB.out hbb); have HBBC := Aside0.mk (blk_below HBBB.out hbb); have HZC := Aside0.mk (blk_below HZB.out hbb); have HBT := Aside0.mk hbt; have HTB := Aside0.mk htb; have HTR := Aside0.mk htr; have HSZ := Aside0.mk (blk_lt HZB.out); clear hbb hbt htb htr p0 p1 p2 p3 q0 q1 q2 q3 z0 z1 z2 z3 y0 y1 y2 y3; obtain ⟨p0, p1, p2, p3⟩ := blk4 HAC.out; obtain ⟨q0, q1, q2, q3⟩ := blk4 HBBC.out))
        have HWC : Aside0 (w.heap.size ≤ wc.heap.size) := ⟨HBC.out.size⟩
        have HZL := Aside0.mk (blk_lt HZC.out)
        go_loopw [7, 31] (fun v7 v31 wr => ∃ (i : Nat) (out : List S54) (vo : Value), vo = v7 ∧ v31 = .int .i64 i ∧ i ≤ l1.length ∧ Aside0 (compF l0 a2 (l1.drop i) out = compF l0 a2 l1 []) ∧ Aside0 (Gath l1 i out) ∧ Aside0 (Kd.R k54 54 wr wc.heap.size (fun _ => True) vo out) ∧ Aside0 (Below wc.heap.size wc wr)) (fun _ v31 _ => l1.length - (intOf v31).toNat)
        case atStart => exact ⟨0, [], .slice none 0 0, rfl, rfl, Nat.zero_le _, ⟨by rw [List.drop_zero]⟩, ⟨Gath.nil _⟩, ⟨Kd.R_nil _ _ _ _ _⟩, ⟨Below.refl _ _⟩⟩
        case round =>
          obtain ⟨i, out, vo, rfl, rfl, hil, HCF, HG, HR, HBR⟩ := hrel
          clear p0 p1 p2 p3 q0 q1 q2 q3
          by_cases hlt : i < l1.length
          · have hb1 : decide (i < l1.length) = true := decide_eq_true hlt
            have hi9 : l1.length ≤ 1000000 := HOK1.out.1
            obtain ⟨ad, rfl, g0, g1, g2⟩ := at_T54 (Kd.C_below (Kd.C_below H1.out HBC.out) HBR.out) (i : Int) (by omega) (by omega)
            rw [Int.toNat_natCast] at g0 g1 g2
            have HX := Aside0.mk ((of_decide_eq_true HRBE.out.symm : RightP b0 b1 b2 l1).2.2.2.2.1 _ (rd68_mem l1 i hlt))
            have HT := Aside0.mk (compF_step_text l0 a2 l1 i hlt out)
            have HN := Aside0.mk (compF_step_none l0 a2 l1 i hlt out)
            have HP := Aside0.mk (compF_step_copy l0 a2 l1 i hlt out)
            have HGT := Aside0.mk (fun hg => Gath.text HG.out hlt hg)
            have HGC := Aside0.mk (fun hg => Gath.copy (l0 := l0) HG.out hlt hg)
            obtain ⟨x, hx⟩ : ∃ x, x = rd_T54 l1 (i : Int) := ⟨_, rfl⟩
            rw [← hx] at g0 g1 g2 HX HT HN HP HGT HGC
            clear hx
            obtain ⟨p, q, t⟩ := x
            have htl : t.toList = ([] : List UInt8) ↔ t.size = 0 := nil_size t
            have HTL := Aside0.mk htl
            clear htl
            by_cases hz : t.size = 0
            · have hze : t.toList = [] := HTL.out.2 hz
              have hz1 : (t.toList != ([] : List UInt8)) = false := bne_eq_false_iff_eq.mpr hze
              have hz2 : (t.toList == ([] : List UInt8)) = true := beq_iff_eq.mpr hze
              have hz3 : t.toList.isEmpty = true := List.isEmpty_iff.mpr hze
              have HZE := Aside0.mk hze
              have HZ0 := Aside0.mk hz
              clear hze
              obtain ⟨hs1, hs2, hs3, hs4⟩ : 0 < q ∧ 0 ≤ p ∧ q ≤ 524288 ∧ p ≤ 524288 - q := by have := HX.out; unfold stepOk at this; rw [if_pos hz] at this; exact this
              obtain ⟨pn, rfl⟩ := Int.eq_ofNat_of_zero_le hs2
              obtain ⟨qn, rfl⟩ := Int.eq_ofNat_of_zero_le (Int.le_of_lt hs1)
              have hq0 : 0 < qn := by omega
              have hp9 : pn ≤ 524288 := by omega
              have hq9 : qn ≤ 524288 := by omega
              clear hz hs1 hs2 hs3 hs4
              have hAr := blk_below HAC.out HBR.out
              have hZr := blk_below HZC.out HBR.out
              have pa2 : ∀ X, (wr.alloc X).cell? ⟨w.heap.size, 2, none⟩ = some (.int .i64 a2) := fun X => (blk_cell (blk_alloc hAr X) 2).trans rfl
              have HZR := Aside0.mk hZr
              clear hAr hZr
              by_cases hgt : ((pn : Int) + (qn : Int)) > a2
              · have hgb : decide (a2 < (pn : Int) + (qn : Int)) = true := decide_eq_true hgt
                have HGB := Aside0.mk hgt
                clear hgt
                have pz0 : ∀ X, (wr.alloc X).cell? ⟨w.heap.size + 1 + 1, 0, none⟩ = some (.string ⟨#[]⟩) := fun X => (blk4 (blk_alloc HZR.out X)).1
                have pz1 : ∀ X, (wr.alloc X).cell? ⟨w.heap.size + 1 + 1, 1, none⟩ = some (.string ⟨#[]⟩) := fun X => (blk4 (blk_alloc HZR.out X)).2.1
                have pz2 : ∀ X, (wr.alloc X).cell? ⟨w.heap.size + 1 + 1, 2, none⟩ = some (.int .i64 0) := fun X => (blk4 (blk_alloc HZR.out X)).2.2.1
                have pz3 : ∀ X, (wr.alloc X).cell? ⟨w.heap.size + 1 + 1, 3, none⟩ = some (.slice none 0 0) := fun X => (blk4 (blk_alloc HZR.out X)).2.2.2
                have pf0 : ∀ X, (wr.alloc X).frozen? ⟨w.heap.size + 1 + 1, 0, none⟩ = false := fun X => (blk4f (blk_alloc HZR.out X)).1
                have pf1 : ∀ X, (wr.alloc X).frozen? ⟨w.heap.size + 1 + 1, 1, none⟩ = false := fun X => (blk4f (blk_alloc HZR.out X)).2.1
                have pf2 : ∀ X, (wr.alloc X).frozen? ⟨w.heap.size + 1 + 1, 2, none⟩ = false := fun X => (blk4f (blk_alloc HZR.out X)).2.2.1
                have pf3 : ∀ X, (wr.alloc X).frozen? ⟨w.heap.size + 1 + 1, 3, none⟩ = false := fun X => (blk4f (blk_alloc HZR.out X)).2.2.2
                go_wp2_with fail
                refine bodyPost_ret (results_ct rfl _ _ (w.heap.size + 1 + 1) 24 #[.string ⟨#[]⟩, .string ⟨#[]⟩, .int .i64 0, .slice none 0 0] (0, 0) _ rfl (HZERO.out _ (blk_alloc HZR.out _)) Try.underlying24 rfl (by kernel_rfl)) rfl ?_
                have hm := HM.out
                have hv : compV a0 a1 a2 l0 b0 b1 b2 l1 = (⟨#[]⟩, ⟨#[]⟩, 0, [], 2) := by unfold compV; rw [if_pos ⟨HRAE.out.symm, HRBE.out.symm⟩, if_pos hm, ← HCF.out, HN.out HZ0.out HGB.out]
                rw [HV.out] at hv
                injection hv with e1 hv; injection hv with e2 hv; injection hv with e3 hv; injection hv with e4 e5
                subst e1 e2 e3 e4 e5
                exact ⟨.slice none 0 0, rfl, Kd.R_nil _ _ _ _ _, HE.out _ 0 ⟨below_alloc (below_step HBC.out HBR.out) _⟩ ⟨blk_alloc HZR.out _⟩⟩
              · have hgb : decide (a2 < (pn : Int) + (qn : Int)) = false := decide_eq_false hgt
                have ha2 : (sumN l0 : Int) = a2 := (of_decide_eq_true HRAE.out.symm : RightP a0 a1 a2 l0).2.2.2.2.2
                have HPN : Aside0 (pn + qn ≤ sumN l0) := ⟨by omega⟩
                have HGB := Aside0.mk hgt
                clear hgt ha2
                have HOL : Aside0 (out.length + sumN l0 ≤ 2000000) := ⟨by have := HG.out.bound; have := HOK1.out.2.1; have := HOK0.out.2.1; omega⟩
                obtain ⟨At, ct, rfl, hct, hCt⟩ := Kd.R_reads HTR.out
                rw [fromT_length] at hCt
                have HPC := Aside0.mk (fun X => piece_calls bt A0 At c0 ct l0 pn qn (wr.alloc X) (blk_alloc (blk_below (by have := HTB.out; rw [fromT_length] at this; exact this) HBR.out) X) (Kd.C_below (Kd.C_below H0.out HBC.out) (below_alloc HBR.out X)) (Kd.C_below hCt (below_alloc HBR.out X)) HOK0.out hq0 HPN.out)
                have HWR : Aside0 (wc.heap.size ≤ wr.heap.size) := ⟨HBR.out.size⟩
                go_wp2_with (first | (go_at_call 30; go_loud ((with_reducible refine (HPC.out _).mono ?_); rintro _ wd ⟨vp, rfl, hrp, hbb⟩; have HBD := Aside0.mk (below_step (below_alloc HBR.out _) hbb); have HRD := Aside0.mk (Kd.R_below (Kd.R_alloc HR.out _) hbb); obtain ⟨Ap, cp, rfl, hcp, hCp⟩ := Kd.R_reads hrp; have HCP := Aside0.mk hCp; have HPL : Aside0 ((pieceAt l0 pn qn).length ≤ sumN l0) := ⟨(by have h9 := pieceAt_sum l0 HOK0.out.2.2 pn qn HPN.out; have h8 := len_le_sum _ h9.2; have h7 := HPN.out; omega)⟩; clear hbb hrp hcp hCp)) | ((with_reducible refine gate_builtin (b := .append) (xs := #[.tmp 35, .tmp 41]) rfl ?_); at_builtin; go_loud (refine Kd.R_append_rows k54 (Rr := k54.K wd) (w0 := wc) (W := wd) wc.heap.size rfl (.tmp 35) (.tmp 41) 22 54 (.agg #[(.int .i64 0), (.int .i64 0), (.string ⟨#[]⟩)]) 32 rfl Try.underlying22 info54 rfl (by decide) (by omega) vo out (pieceAt l0 pn qn) Ap (pieceAt l0 pn qn).length cp (fun _ => True) (fun _ => False) rfl rfl ?aO HCP.out ?aK (fun _ hk => hk.elim) (fun _ _ => trivial) ?aB ?aS ?aL ?_; (case aO => exact HRD.out); (case aK => exact (fun x_ cs_ h_ => by rw [k54_open h_]; exact k54_mkM _ _ _ x_)); (case aB => exact HBD.out); (case aS => exact HBD.out.size); (case aL => have := HOL.out; have := HPL.out; omega); intro v1 w1 hR1 hB1 hG1 hO1; have HR1 := Aside0.mk hR1; have HB1 := Aside0.mk hB1; clear hR1 hB1 hG1 hO1)))
                go_roundw
                case rel =>
                  exact ⟨i + 1, out ++ pieceAt l0 pn qn, _, rfl, by go_num, by omega, ⟨(HP.out HZ0.out HGB.out).symm.trans HCF.out⟩, ⟨HGC.out HOK0.out.2.2 HZ0.out HPN.out⟩, HR1, HB1⟩
                case measure => simp [intOf]; omega
            · have hze : ¬ t.toList = [] := fun h => hz (HTL.out.1 h)
              have hz1 : (t.toList != ([] : List UInt8)) = true := bne_iff_ne.mpr hze
              have hz2 : (t.toList == ([] : List UInt8)) = false := beq_eq_false_iff_ne.mpr hze
              have hz3 : t.toList.isEmpty = false := by rw [Bool.eq_false_iff, Ne, List.isEmpty_iff]; exact hze
              have HZE := Aside0.mk hze
              have HZ0 := Aside0.mk hz
              have HOL : Aside0 (out.length ≤ 1000000) := ⟨by have := HG.out.bound; have := HOK1.out.2.1; omega⟩
              have HSD : Aside0 (wc.heap.size ≤ wr.heap.size) := ⟨HBR.out.size⟩
              clear hze hz
              go_wp2_with ((with_reducible refine gate_builtin (b := .append) (xs := #[.tmp 47, .tmp 49]) rfl ?_); at_builtin; go_loud (refine Kd.R_append k54 (w0 := wc) wc.heap.size rfl (.tmp 47) (.tmp 49) 22 54 (.agg #[(.int .i64 0), (.int .i64 0), (.string ⟨#[]⟩)]) 32 rfl Try.underlying22 info54 rfl (by decide) (by omega) vo out (⟨p, q, t⟩ : S54) [.int .i64 p, .int .i64 q, .string t] (fun _ => True) (fun _ => False) rfl ?aX ?aP (fun _ hk => hk.elim) (fun _ _ => trivial) ?aO ?aB ?aS ?aL ?_; (case aX => (show (Value.slice (some ⟨wr.heap.size + 1, 0, none⟩) 1 1) = _; simp)); (case aP => exact k54_mkM _ _ _ (⟨p, q, t⟩ : S54)); (case aO => exact (by (with_reducible repeat (first | apply Kd.R_alloc | apply Kd.R_drewN | apply Kd.R_drew)); exact HR.out)); (case aB => exact (HBR.out.alloc HSD.out _)); (case aS => exact (Nat.le_trans HSD.out (by simp))); (case aL => have := HOL.out; omega); intro v1 w1 hR1 hB1 hG1 hO1; have HR1 := Aside0.mk hR1; have HB1 := Aside0.mk hB1; clear hR1 hB1 hG1 hO1))
              go_roundw
              case rel =>
                exact ⟨i + 1, out ++ [⟨p, q, t⟩], _, rfl, by go_num, by omega, ⟨(HT.out HZ0.out).symm.trans HCF.out⟩, ⟨HGT.out HOK1.out.2.2⟩, HR1, HB1⟩
              case measure => simp [intOf]; omega
          · have hie : i = l1.length := by omega
            subst hie
            rw [List.drop_of_length_le (Nat.le_refl _), compF] at HCF
            have hbd := HG.out.bound
            have hs9 := HOK1.out.2.1
            have HTD := Aside0.mk (tidy_calls · · out · · · (⟨by omega, by omega⟩ : TidyOk out))
            clear hbd hs9
            obtain ⟨Ao, co, rfl, hco, hCo⟩ := Kd.R_reads HR.out
            have HCO := Aside0.mk hCo
            have HCC := Aside0.mk hco
            clear hCo hco
            have hAr := blk_below HAC.out HBR.out
            have hBr := blk_below HBBC.out HBR.out
            have HZR := Aside0.mk (blk_below HZC.out HBR.out)
            have HAR := Aside0.mk hAr
            have HBRR := Aside0.mk hBr
            obtain ⟨p0, p1, p2, p3⟩ := blk4 hAr
            obtain ⟨q0, q1, q2, q3⟩ := blk4 hBr
            clear hAr hBr
            go_wp2_with fail
            have hn1 : ¬ w.heap.size = w.heap.size + 1 + 1 := by omega
            have hn2 : ¬ w.heap.size + 1 + 1 = w.heap.size := by omega
            go_region_held3 (fun w' => w'.cell? ⟨w.heap.size, 0, none⟩ = some (.string a0) ∧ w'.cell? ⟨w.heap.size + 1, 1, none⟩ = some (.string b1) ∧ w'.cell? ⟨w.heap.size + 1, 2, none⟩ = some (.int .i64 b2)) (go_keep) ((go_at_call 17; ((with_reducible refine (HTD.out Ao co _ ?hrt HCC.out).mono ?_); (case hrt => exact Kd.C_below HCO.out (below_drew1 (Below.refl _ _))); rintro _ we ⟨ve, rfl, hre, hbe⟩; obtain ⟨Ae, ce, rfl⟩ := Kd.R_slice hre; have HAE := Aside0.mk (blk_below (blk_drew HAR.out) hbe); have HBE := Aside0.mk (blk_below (blk_drew HBRR.out) hbe); have HZE := Aside0.mk (blk_below (blk_drew HZR.out) hbe); have HRE := Aside0.mk hre; have HBEE := Aside0.mk (below_step (below_drew1 HBR.out) hbe); clear hbe hre; clear p0 p1 p2 p3 q0 q1 q2 q3; obtain ⟨p0, p1, p2, p3⟩ := blk4 HAE.out; obtain ⟨q0, q1, q2, q3⟩ := blk4 HBE.out; obtain ⟨z0, z1, z2, z3⟩ := blk4 HZE.out; obtain ⟨f0, f1, f2, f3⟩ := blk4f HZE.out)))
            go_wp2_with fail
            refine bodyPost_ret (results_ct rfl _ _ (w.heap.size + 1 + 1) 24 #[.string a0, .string b1, .int .i64 b2, .slice Ae (tidyV out).length ce] (0, 0) _ rfl ?blk Try.underlying24 rfl (by kernel_rfl)) rfl ?_
            case blk =>
              refine blk_put (cs := #[.string a0, .string b1, .int .i64 b2, .slice none 0 0]) ?_ 3 _ rfl
              refine blk_put (cs := #[.string a0, .string b1, .int .i64 0, .slice none 0 0]) ?_ 2 _ rfl
              refine blk_put (cs := #[.string a0, .string ⟨#[]⟩, .int .i64 0, .slice none 0 0]) ?_ 1 _ rfl
              exact blk_put (cs := #[.string ⟨#[]⟩, .string ⟨#[]⟩, .int .i64 0, .slice none 0 0]) HZE.out 0 _ rfl
            have hm := HM.out
            have hv : compV a0 a1 a2 l0 b0 b1 b2 l1 = (a0, b1, b2, tidyV out, 0) := by unfold compV; rw [if_pos ⟨HRAE.out.symm, HRBE.out.symm⟩, if_pos hm, ← HCF.out]
            rw [HV.out] at hv
            injection hv with e1 hv; injection hv with e2 hv; injection hv with e3 hv; injection hv with e4 e5
            subst e1 e2 e3 e4 e5
            have hst : ∀ j : Nat, ∀ (u : Value) (X : World), Kd.R k54 54 X w.heap.size (fun k => wc.heap.size ≤ k) (.slice Ae (tidyV out).length ce) (tidyV out) → Kd.R k54 54 (X.setCell ⟨w.heap.size + 1 + 1, j, none⟩ u) w.heap.size (fun k => wc.heap.size ≤ k) (.slice Ae (tidyV out).length ce) (tidyV out) := fun j u X h => Kd.R_far h (fun k hk => by have := HZL.out; show k ≠ w.heap.size + 1 + 1; omega) u
            have hbs : ∀ j : Nat, ∀ (u : Value) (X : World), Below w.heap.size w X → Below w.heap.size w (X.setCell ⟨w.heap.size + 1 + 1, j, none⟩ u) := fun j u X h => h.setCell (p := ⟨w.heap.size + 1 + 1, j, none⟩) (by show w.heap.size ≤ w.heap.size + 1 + 1; omega) u
            have hwr : wc.heap.size ≤ wr.heap.size := HBR.out.size
            refine ⟨_, rfl, Kd.R_mono (hst 3 _ _ (hst 2 _ _ (hst 1 _ _ (hst 0 _ _ ?_)))) (fun _ _ => trivial), hbs 3 _ _ (hbs 2 _ _ (hbs 1 _ _ (hbs 0 _ _ (below_step HBC.out HBEE.out))))⟩
            exact Kd.R_mono (Kd.R_lower (Kd.R_bound HRE.out) (by have := HWC.out; show w.heap.size ≤ wr.heap.size; omega)) (fun k hk => Nat.le_trans hwr hk.2.1)
      · have hmb : (a1.toList != b0.toList) = true := bne_iff_ne.mpr hm
        have hmc : (a1.toList == b0.toList) = false := beq_eq_false_iff_ne.mpr hm
        have HM := Aside0.mk hm
        clear hm
        go_wp2_with (go_at_call 24; go_loud (first | ((with_reducible refine (HRA.out _ HC3.out).mono ?_); rintro _ wa ⟨rfl, hbb⟩; have HBA := Aside0.mk (below_step HBW.out hbb); have HAA := Aside0.mk (blk_below HA.out hbb); have HBBA := Aside0.mk (blk_below HB.out hbb); have HZA := Aside0.mk (blk_below HZ.out hbb); clear hbb p0 p1 p2 p3; have HC4 : Aside0 (Kd.C k54 wa A1 l1.length l1) := ⟨Kd.C_below H1.out HBA.out⟩; obtain ⟨q0, q1, q2, q3⟩ := blk4 HBBA.out) | ((with_reducible refine (HRB.out _ HC4.out).mono ?_); rintro _ wb ⟨rfl, hbb⟩; have HBB := Aside0.mk (below_step HBA.out hbb); have HAB := Aside0.mk (blk_below HAA.out hbb); have HBBB := Aside0.mk (blk_below HBBA.out hbb); have HZB := Aside0.mk (blk_below HZA.out hbb); clear hbb q0 q1 q2 q3; obtain ⟨z0, z1, z2, z3⟩ := blk4f HZB.out; obtain ⟨y0, y1, y2, y3⟩ := blk4 HZB.out; obtain ⟨p0, p1, p2, p3⟩ := blk4 HAB.out; obtain ⟨q0, q1, q2, q3⟩ := blk4 HBBB.out)))
        have hm := HM.out
        refine bodyPost_ret (results_ct rfl _ _ (w.heap.size + 1 + 1) 24 #[.string ⟨#[]⟩, .string ⟨#[]⟩, .int .i64 0, .slice none 0 0] (0, 0) _ rfl (HZERO.out _ HZB.out) Try.underlying24 rfl (by kernel_rfl)) rfl ?_
        have hv : compV a0 a1 a2 l0 b0 b1 b2 l1 = (⟨#[]⟩, ⟨#[]⟩, 0, [], 13) := by unfold compV; rw [if_pos ⟨HRAE.out.symm, HRBE.out.symm⟩, if_neg hm]
        rw [HV.out] at hv
        injection hv with e1 hv; injection hv with e2 hv; injection hv with e3 hv; injection hv with e4 e5
        subst e1 e2 e3 e4 e5
        exact ⟨.slice none 0 0, rfl, Kd.R_nil _ _ _ _ _, HE.out _ 0 ⟨HBB.out⟩ ⟨HZB.out⟩⟩
theorem chain_Compose.calls (k : Nat) (a0 a1 : ByteArray) (a2 : Int) (A0 : Option Addr) (c0 : Nat) (l0 : List S54) (b0 b1 : ByteArray) (b2 : Int) (A1 : Option Addr) (c1 : Nat) (l1 : List S54) (r1 r2 : ByteArray) (r3 : Int) (r4 : List S54) (r5 : Int) (w : World)
    (hr0 : Kd.C k54 w A0 l0.length l0) (hc0 : l0.length ≤ c0) (hr1 : Kd.C k54 w A1 l1.length l1) (hc1 : l1.length ≤ c1) (h : chain_Compose.f k a0 a1 a2 l0 b0 b1 b2 l1 = some (r1, r2, r3, r4, r5)) :
    Calls Try.prog 12 #[.agg #[.string a0, .string a1, .int .i64 a2, .slice A0 l0.length c0], .agg #[.string b0, .string b1, .int .i64 b2, .slice A1 l1.length c1]] w fun e w' => ∃ v3_ : Value, e = .returned (.tuple #[.agg #[.string r1, .string r2, .int .i64 r3, v3_], .int .i64 r5]) ∧ Kd.R k54 54 w' w.heap.size (fun _ => True) v3_ r4 ∧ Below w.heap.size w w' := by
  unfold chain_Compose.f at h
  by_cases hok : CompOk k l0 l1
  · rw [if_pos hok] at h
    exact compose_calls a0 a1 a2 A0 c0 l0 b0 b1 b2 A1 c1 l1 r1 r2 r3 r4 r5 w hr0 hc0 hr1 hc1 ⟨Nat.le_refl _, hok.2⟩ (Option.some.inj h)
  · rw [if_neg hok] at h; cases h
end Go.Proofs.Ytjgelmfkoefclaa.PAll

-- from YtjgelmfkoefclaaPAllx13
-- Written by a program of this session (wip/tools/hookprint.py, over the print); Lean checks it.
namespace Go.Proofs.Ytjgelmfkoefclaa.PAll
open Go.RowKit Go.Proofs.YtjgelmfkoefclaaW.PrintWords Go.Proofs.YtjgelmfkoefclaaW.PrintLast Go.Proofs.YtjgelmfkoefclaaW.PrintMore
attribute [local go_sem] max2_int min2_int max_two min_two max_three min_three max_four min_four   -- for this text's walks alone
set_option linter.unusedVariables false
set_option linter.unusedSimpArgs false

/- GIVEN: Derived.Test.YtjgelmfkoefclaaGivCompose
def chain_Compose.f
theorem chain_Compose.mono
theorem chain_Compose.calls
-/
end Go.Proofs.Ytjgelmfkoefclaa.PAll

-- from YtjgelmfkoefclaaPAllx24
-- Written by a program of this session (wip/tools/hookprint.py, over the print); Lean checks it.
namespace Go.Proofs.Ytjgelmfkoefclaa.PAll
open Go.RowKit Go.Proofs.YtjgelmfkoefclaaW.PrintWords Go.Proofs.YtjgelmfkoefclaaW.PrintLast Go.Proofs.YtjgelmfkoefclaaW.PrintMore
attribute [local go_sem] max2_int min2_int max_two min_two max_three min_three max_four min_four   -- for this text's walks alone
set_option linter.unusedVariables false
set_option linter.unusedSimpArgs false

/-! ### chain_Fold: function 15 -/
mutual
def chain_Fold.j0 : Nat → List (S24) → Bool → Option (ByteArray × ByteArray × Int × (List (S54)) × Int)
  | 0, _, _ => none
  | k + 1, x0, x17 => if x17 = true then (some ((⟨#[]⟩ : ByteArray), (⟨#[]⟩ : ByteArray), 0, ([] : List (S54)), 1)) else (if 0 < (x0.length : Int) then ((chain_Tidy.f k ((rd_T24 x0 0).f3)).bind fun t237 => (if 1 ≤ (x0.length : Int) then ((some (x0.drop 1 : List (S24))).bind fun y240 => (chain_Fold.l0 k y240 (y240.length : Int) 0 ((rd_T24 x0 0).f0) ((rd_T24 x0 0).f1) ((rd_T24 x0 0).f2) t237)) else (none))) else (none))
def chain_Fold.l0 : Nat → List (S24) → Int → Int → ByteArray → ByteArray → Int → List (S54) → Option (ByteArray × ByteArray × Int × (List (S54)) × Int)
  | 0, _, _, _, _, _, _, _ => none
  | k + 1, x27, x28, x29, x237000, x237001, x237002, x237003 => if x29 < x28 then (if 0 ≤ x29 then (if x29 < (x27.length : Int) then ((chain_Compose.f k x237000 x237001 x237002 x237003 ((rd_T24 x27 x29).f0) ((rd_T24 x27 x29).f1) ((rd_T24 x27 x29).f2) ((rd_T24 x27 x29).f3)).bind fun bt246 => (if bt246.2.2.2.2 = 0 then (chain_Fold.l0 k x27 x28 (wrap64 (x29 + 1)) bt246.1 bt246.2.1 bt246.2.2.1 bt246.2.2.2.1) else (some ((⟨#[]⟩ : ByteArray), (⟨#[]⟩ : ByteArray), 0, ([] : List (S54)), bt246.2.2.2.2)))) else (none)) else (none)) else (some (x237000, x237001, x237002, x237003, 0))
end
def chain_Fold.f (k : Nat) (l0 : List (S24)) : Option (ByteArray × ByteArray × Int × (List (S54)) × Int) := if (l0.length : Int) = 0 then (chain_Fold.j0 k l0 true) else (if 0 < (l0.length : Int) then ((delta_Right.f k ((rd_T24 l0 0).f0) ((rd_T24 l0 0).f1) ((rd_T24 l0 0).f2) ((rd_T24 l0 0).f3)).bind fun t234 => (chain_Fold.j0 k l0 (!t234))) else (none))
set_option maxHeartbeats 8000000 in
set_option maxRecDepth 100000 in
theorem chain_Fold.calls (k : Nat) (A0 : Option Addr) (c0 : Nat) (l0 : List (S24)) (r1 : ByteArray) (r2 : ByteArray) (r3 : Int) (r4 : List (S54)) (r5 : Int) (w : World) (hr0 : Kd.C k24 w A0 l0.length l0) (hc0 : l0.length ≤ c0) (h : chain_Fold.f k l0 = some (r1, r2, r3, r4, r5)) :
    Calls Try.prog 15 #[.slice A0 l0.length c0] w fun e w' => ∃ v3_ : Value, e = .returned (.tuple #[.agg #[.string r1, .string r2, .int .i64 r3, v3_], .int .i64 r5]) ∧ Kd.R k54 54 w' w.heap.size (fun _ => True) v3_ r4 ∧ Below w.heap.size w w' := by
  have hu24 := Try.underlying24
  have HR0 := Aside0.mk hr0
  have HC0 := Aside0.mk hc0
  clear hr0 hc0
  have HB := Aside0.mk (Below.refl w.heap.size w)
  have H : (if (l0.length : Int) = 0 then (chain_Fold.j0 k l0 true) else (if 0 < (l0.length : Int) then ((delta_Right.f k ((rd_T24 l0 0).f0) ((rd_T24 l0 0).f1) ((rd_T24 l0 0).f2) ((rd_T24 l0 0).f3)).bind fun t234 => (chain_Fold.j0 k l0 (!t234))) else (none))) = some (r1, r2, r3, r4, r5) := h
  clear h
  have HC2 := Aside0.mk H
  clear H
  go_enter Try.func15, Try.ntmps15
  go_upto_region 1 with (first | ((with_reducible refine gate_dst (N := 2) rfl ?_); refine box_event ?hg (N := 2) ?hd (cs := #[.string (⟨#[]⟩ : ByteArray), .string (⟨#[]⟩ : ByteArray), .int .i64 0, .slice none 0 0]) (t := 24) ?hr ?_; (case hd => rfl); (case hg => rfl); (case hr => first | (go_simp; done) | (go_simp; rfl)); intro gb232 hg w3 hbox hb; have n0_ := Aside0.mk (below_step (by repeat (first | (with_reducible first | exact HB.out | apply below_alloc | apply pw_below_drewN | apply below_drew1) | exact HB.out)) hb); have n1_ := Aside0.mk (hbox); have n2_ := Aside0.mk ((by rw [hg]; exact (below_size (by repeat (first | (with_reducible first | exact HB.out | apply below_alloc | apply pw_below_drewN | apply below_drew1) | exact HB.out))) : w.heap.size ≤ gb232)); have n3_ := Aside0.mk ((by rw [hg]; exact (below_size (by repeat (first | (with_reducible first | exact HB.out | apply below_alloc | apply pw_below_drewN | apply below_drew1) | exact HB.out))) : w.heap.size ≤ gb232)); clear HB; have HB := n0_; have BK232 := n1_; have GW232 := n2_; have GE232 := n3_; clear n0_ n1_ n2_ n3_; clear hb hbox hg))
  (try simp only [Act.put, List.setIfInBounds_toArray, List.set_cons_zero, List.set_cons_succ])
  go_cut [17] (fun v17 wc => ∃ (kq : Nat) (x17_1 : Bool), v17 = .bool x17_1 ∧ Aside0 (chain_Fold.j0 kq l0 x17_1 = some (r1, r2, r3, r4, r5)) ∧ Aside0 (kq ≤ k) ∧ Aside0 (wc.heap[gb232]? = some (.cells #[.string (⟨#[]⟩ : ByteArray), .string (⟨#[]⟩ : ByteArray), .int .i64 0, (.slice none 0 0)] 24 (0, 0))) ∧ Aside0 (Below w.heap.size w wc))
  case first =>
    have H := HC2.out
    clear HC2
    by_cases c4 : (l0.length : Int) = 0
    · rw [if_pos c4] at H
      have c4b0 : ((l0.length : Int) == 0) = true := beq_iff_eq.mpr c4
      have c4b1 : ((l0.length : Int) != 0) = false := bne_eq_false_iff_eq.mpr c4
      clear c4
      (first | rw [c4b0] | (simp only [i64_w, i32_w]; rw [c4b0]) | skip)
      have H' := Aside0.mk H
      clear H
      go_wp2
      go_meet
      case rel => exact ⟨_, (true), (by first | rfl | (simp; done) | (simp [*]; done)), H', ⟨by first | omega | exact Nat.le_refl _⟩, ⟨by (with_reducible repeat (first | refine blk_drewN ?_ _ | refine blk_drew ?_ | refine blk_alloc ?_ _)); exact BK232.out⟩, ⟨by repeat (first | (with_reducible first | exact HB.out | apply below_alloc | apply pw_below_drewN | apply below_drew1 | refine below_set ?_ GE232.out) | exact HB.out)⟩⟩
    · rw [if_neg c4] at H
      have c4b0 : ((l0.length : Int) == 0) = false := beq_eq_false_iff_ne.mpr c4
      have c4b1 : ((l0.length : Int) != 0) = true := bne_iff_ne.mpr c4
      have c4b2 : ¬ (l0 = []) := fun h_ => c4 (by rw [h_]; rfl)
      (first | rw [c4b0] | (simp only [i64_w, i32_w]; rw [c4b0]) | skip)
      by_cases c5 : 0 < (l0.length : Int)
      · rw [if_pos c5] at H
        have c5b0 : decide (0 < (l0.length : Int)) = true := decide_eq_true c5
        have c5b1 : decide (0 < l0.length) = true := decide_eq_true (by omega)
        clear c5
        replace H := Option.bind_eq_some_iff.mp H
        obtain ⟨t234, A60, H⟩ := H
        replace H : (chain_Fold.j0 k l0 (!t234)) = some (r1, r2, r3, r4, r5) := H
        have A6 := Aside0.mk A60
        clear A60
        have H' := Aside0.mk H
        clear H
        have p233 : 0 ≤ (0 : Int) := (by omega)
        have q233 : 0 < (l0.length : Int) := of_decide_eq_true (by first | (with_reducible assumption) | assumption)
        obtain ⟨ad233, A233_3, c233_3, e233, hx233_0, hx233_1, hx233_2, hx233_3, hl233_3, hi233_3⟩ := at_T24 HR0.out 0 p233 q233
        cases e233
        have qi233 : (0 < l0.length) = True := eq_true (by omega)
        (try rw [show ((0 : Int)).toNat = 0 from rfl] at hx233_0)
        (try rw [show 0 * 4 = 0 from rfl] at hx233_0)
        (try rw [Addr.add_zero'] at hx233_0)
        (try rw [show ((0 : Int)).toNat = 0 from rfl] at hx233_1)
        (try rw [show 0 * 4 = 0 from rfl] at hx233_1)
        (try rw [Addr.add_zero'] at hx233_1)
        (try rw [show ((0 : Int)).toNat = 0 from rfl] at hx233_2)
        (try rw [show 0 * 4 = 0 from rfl] at hx233_2)
        (try rw [Addr.add_zero'] at hx233_2)
        (try rw [show ((0 : Int)).toNat = 0 from rfl] at hx233_3)
        (try rw [show 0 * 4 = 0 from rfl] at hx233_3)
        (try rw [Addr.add_zero'] at hx233_3)
        replace hx233_0 := (HB.out.cell (World.block_lt_of_cell? w _ hx233_0)).trans hx233_0
        replace hx233_1 := (HB.out.cell (World.block_lt_of_cell? w _ hx233_1)).trans hx233_1
        replace hx233_2 := (HB.out.cell (World.block_lt_of_cell? w _ hx233_2)).trans hx233_2
        replace hx233_3 := (HB.out.cell (World.block_lt_of_cell? w _ hx233_3)).trans hx233_3
        have HR233_3 := Aside0.mk hi233_3
        have HC233_3 := Aside0.mk hl233_3
        clear hi233_3 hl233_3
        replace p233 := eq_true p233
        replace q233 := eq_true q233
        go_wp2_with (first | (go_at_call 24; (with_reducible refine (delta_Right.calls k ((rd_T24 l0 0).f0) ((rd_T24 l0 0).f1) ((rd_T24 l0 0).f2) _ _ ((rd_T24 l0 0).f3) t234 _ ?side1 ?side2 A6.out).mono ?_); (case side1 => repeat (first | exact (Kd.C_below HR233_3.out HB.out) | (with_reducible refine Kd.C_alloc ?_ _) | (with_reducible refine Kd.C_drewN ?_ _) | (with_reducible refine Kd.C_drew ?_))); (case side2 => exact HC233_3.out); rintro e w7 ⟨rfl, hb⟩; have n0_ := Aside0.mk (blk_below (g := gb232) (o := .cells #[.string (⟨#[]⟩ : ByteArray), .string (⟨#[]⟩ : ByteArray), .int .i64 0, .slice none 0 0] 24 (0, 0)) (by (with_reducible repeat (first | refine blk_drewN ?_ _ | refine blk_drew ?_ | refine blk_alloc ?_ _)); exact BK232.out) hb); have n1_ := Aside0.mk (below_step (by repeat (first | (with_reducible first | exact HB.out | apply below_alloc | apply pw_below_drewN | apply below_drew1 | refine below_set ?_ GE232.out) | exact HB.out)) hb); clear BK232; clear HB; have BK232 := n0_; have HB := n1_; clear n0_ n1_; (try clear hb); (try clear hb2); (try clear hk); (try clear hi)))
        go_meet
        case rel => exact ⟨_, (!t234), (by first | rfl | (simp; done) | (simp [*]; done)), H', ⟨by first | omega | exact Nat.le_refl _⟩, ⟨by (with_reducible repeat (first | refine blk_drewN ?_ _ | refine blk_drew ?_ | refine blk_alloc ?_ _)); exact BK232.out⟩, ⟨by repeat (first | (with_reducible first | exact HB.out | apply below_alloc | apply pw_below_drewN | apply below_drew1 | refine below_set ?_ GE232.out) | exact HB.out)⟩⟩
      · rw [if_neg c5] at H
        exact absurd H (by simp)
  case rest =>
    clear HC2
    try clear c1
    try clear c2
    try clear p2
    try clear q2
    try clear hx2
    try clear qi2
    try clear c4
    try clear c4b0
    try clear c4b1
    try clear c4b2
    try clear c5
    try clear c5b0
    try clear c5b1
    try clear hx233_0
    try clear hx233_1
    try clear hx233_2
    try clear hx233_3
    try clear p233
    try clear q233
    obtain ⟨kq, x17_1, rfl, HA, HJ1, BK232, HB⟩ := hcut
    cases kq with
    | zero => exact absurd HA.out (by simp [chain_Fold.j0])
    | succ kj1 =>
      have H := HA.out
      clear HA
      simp only [chain_Fold.j0] at H
      by_cases c8 : x17_1 = true
      · subst c8
        have H1 : (some ((⟨#[]⟩ : ByteArray), (⟨#[]⟩ : ByteArray), 0, ([] : List (S54)), 1)) = some (r1, r2, r3, r4, r5) := by rw [if_pos rfl] at H; exact H
        clear H
        have H := H1
        clear H1
        simp only [Option.some.injEq, Prod.mk.injEq] at H
        obtain ⟨rfl, rfl, rfl, rfl, rfl⟩ := H
        have hcz9_0 : wc.cell? ⟨gb232, 0, none⟩ = some (.string (⟨#[]⟩ : ByteArray)) := (blk_cell BK232.out 0).trans rfl
        have hcz9_1 : wc.cell? ⟨gb232, 1, none⟩ = some (.string (⟨#[]⟩ : ByteArray)) := (blk_cell BK232.out 1).trans rfl
        have hcz9_2 : wc.cell? ⟨gb232, 2, none⟩ = some (.int .i64 0) := (blk_cell BK232.out 2).trans rfl
        have hcz9_3 : wc.cell? ⟨gb232, 3, none⟩ = some (.slice none 0 0) := (blk_cell BK232.out 3).trans rfl
        have hfz9_0 := blk_frozen BK232.out 0
        have hfz9_1 := blk_frozen BK232.out 1
        have hfz9_2 := blk_frozen BK232.out 2
        have hfz9_3 := blk_frozen BK232.out 3
        go_wp2
        refine bodyPost_ret (results_ct rfl _ _ gb232 24 #[.string (⟨#[]⟩ : ByteArray), .string (⟨#[]⟩ : ByteArray), .int .i64 0, .slice none 0 0] (0, 0) _ rfl (by (with_reducible repeat (first | refine blk_drewN ?_ _ | refine blk_drew ?_ | refine blk_alloc ?_ _)); refine blk_put (cs := #[.string (⟨#[]⟩ : ByteArray), .string (⟨#[]⟩ : ByteArray), .int .i64 0, .slice none 0 0]) ?_ 3 _ rfl; (with_reducible repeat (first | refine blk_drewN ?_ _ | refine blk_drew ?_ | refine blk_alloc ?_ _)); refine blk_put (cs := #[.string (⟨#[]⟩ : ByteArray), .string (⟨#[]⟩ : ByteArray), .int .i64 0, .slice none 0 0]) ?_ 2 _ rfl; (with_reducible repeat (first | refine blk_drewN ?_ _ | refine blk_drew ?_ | refine blk_alloc ?_ _)); refine blk_put (cs := #[.string (⟨#[]⟩ : ByteArray), .string (⟨#[]⟩ : ByteArray), .int .i64 0, .slice none 0 0]) ?_ 1 _ rfl; (with_reducible repeat (first | refine blk_drewN ?_ _ | refine blk_drew ?_ | refine blk_alloc ?_ _)); refine blk_put (cs := #[.string (⟨#[]⟩ : ByteArray), .string (⟨#[]⟩ : ByteArray), .int .i64 0, .slice none 0 0]) ?_ 0 _ rfl; (with_reducible repeat (first | refine blk_drewN ?_ _ | refine blk_drew ?_ | refine blk_alloc ?_ _)); exact BK232.out) Try.underlying24 rfl (by kernel_rfl)) rfl ?_
        exact ⟨_, by first | rfl | (simp [errW_none, errW_some] <;> rfl) | (simp [*, errW_none, errW_some] <;> rfl), by first | exact Kd.R_nil _ _ _ _ _ | exact Kd.N_nil _ _ _ _ _ | exact Kd.V_nil _ _ _ _ _ | exact Kd.Q_nil _ _ _ _ _ | exact Kd.S_nil _ _ _ _ _, by repeat (first | (with_reducible first | exact HB.out | apply below_alloc | apply pw_below_drewN | apply below_drew1 | refine below_set ?_ GE232.out) | exact HB.out)⟩
      · replace c8 := Bool.eq_false_iff.mpr c8
        subst c8
        have H1 : (if 0 < (l0.length : Int) then ((chain_Tidy.f kj1 ((rd_T24 l0 0).f3)).bind fun t237 => (if 1 ≤ (l0.length : Int) then ((some (l0.drop 1 : List (S24))).bind fun y240 => (chain_Fold.l0 kj1 y240 (y240.length : Int) 0 ((rd_T24 l0 0).f0) ((rd_T24 l0 0).f1) ((rd_T24 l0 0).f2) t237)) else (none))) else (none)) = some (r1, r2, r3, r4, r5) := by rw [if_neg (show ¬ (false = true) by decide)] at H; exact H
        clear H
        have H := H1
        clear H1
        by_cases c10 : 0 < (l0.length : Int)
        · rw [if_pos c10] at H
          have c10b0 : decide (0 < (l0.length : Int)) = true := decide_eq_true c10
          have c10b1 : decide (0 < l0.length) = true := decide_eq_true (by omega)
          clear c10
          replace H := Option.bind_eq_some_iff.mp H
          obtain ⟨t237, A110, H⟩ := H
          replace H : (if 1 ≤ (l0.length : Int) then ((some (l0.drop 1 : List (S24))).bind fun y240 => (chain_Fold.l0 kj1 y240 (y240.length : Int) 0 ((rd_T24 l0 0).f0) ((rd_T24 l0 0).f1) ((rd_T24 l0 0).f2) t237)) else (none)) = some (r1, r2, r3, r4, r5) := H
          have A11 := Aside0.mk A110
          clear A110
          by_cases c12 : 1 ≤ (l0.length : Int)
          · rw [if_pos c12] at H
            have c12b0 := eq_true c12
            have c12b1 : decide (1 ≤ (l0.length : Int)) = true := decide_eq_true c12
            clear c12
            obtain ⟨y240, hy240⟩ : ∃ y_ : List (S24), y_ = (l0.drop 1) := ⟨_, rfl⟩
            replace H : (chain_Fold.l0 kj1 y240 (y240.length : Int) 0 ((rd_T24 l0 0).f0) ((rd_T24 l0 0).f1) ((rd_T24 l0 0).f2) t237) = some (r1, r2, r3, r4, r5) := by first | (rw [hy240]; with_reducible exact H) | (have H2_ := (Option.bind_some _ _).symm.trans H; rw [hy240]; with_reducible exact H2_) | (have H2_ := (Option.bind_some _ _).symm.trans H; with_reducible exact H2_) | with_reducible exact H | (rw [hy240]; exact H) | exact H
            have Ny240 := Aside0.mk hy240
            clear hy240
            have H' := Aside0.mk H
            clear H
            have p235 : 0 ≤ (0 : Int) := (by omega)
            have q235 : 0 < (l0.length : Int) := of_decide_eq_true (by first | (with_reducible assumption) | assumption)
            obtain ⟨ad235, A235_3, c235_3, e235, hx235_0, hx235_1, hx235_2, hx235_3, hl235_3, hi235_3⟩ := at_T24 HR0.out 0 p235 q235
            cases e235
            have qi235 : (0 < l0.length) = True := eq_true (by omega)
            (try rw [show ((0 : Int)).toNat = 0 from rfl] at hx235_0)
            (try rw [show 0 * 4 = 0 from rfl] at hx235_0)
            (try rw [Addr.add_zero'] at hx235_0)
            (try rw [show ((0 : Int)).toNat = 0 from rfl] at hx235_1)
            (try rw [show 0 * 4 = 0 from rfl] at hx235_1)
            (try rw [Addr.add_zero'] at hx235_1)
            (try rw [show ((0 : Int)).toNat = 0 from rfl] at hx235_2)
            (try rw [show 0 * 4 = 0 from rfl] at hx235_2)
            (try rw [Addr.add_zero'] at hx235_2)
            (try rw [show ((0 : Int)).toNat = 0 from rfl] at hx235_3)
            (try rw [show 0 * 4 = 0 from rfl] at hx235_3)
            (try rw [Addr.add_zero'] at hx235_3)
            replace hx235_0 := (HB.out.cell (World.block_lt_of_cell? w _ hx235_0)).trans hx235_0
            replace hx235_1 := (HB.out.cell (World.block_lt_of_cell? w _ hx235_1)).trans hx235_1
            replace hx235_2 := (HB.out.cell (World.block_lt_of_cell? w _ hx235_2)).trans hx235_2
            replace hx235_3 := (HB.out.cell (World.block_lt_of_cell? w _ hx235_3)).trans hx235_3
            have HR235_3 := Aside0.mk hi235_3
            have HC235_3 := Aside0.mk hl235_3
            clear hi235_3 hl235_3
            replace p235 := eq_true p235
            replace q235 := eq_true q235
            go_wp2_with (first | ((with_reducible refine gate_dst (N := 4) rfl ?_); refine box_event ?hg (N := 4) ?hd (cs := #[.string (⟨#[]⟩ : ByteArray), .string (⟨#[]⟩ : ByteArray), .int .i64 0, .slice none 0 0]) (t := 24) ?hr ?_; (case hd => rfl); (case hg => rfl); (case hr => first | (go_simp; done) | (go_simp; rfl)); intro gb236 hg w13 hbox hb; have n0_ := Aside0.mk (blk_below (g := gb232) (o := .cells #[.string (⟨#[]⟩ : ByteArray), .string (⟨#[]⟩ : ByteArray), .int .i64 0, .slice none 0 0] 24 (0, 0)) (by (with_reducible repeat (first | refine blk_drewN ?_ _ | refine blk_drew ?_ | refine blk_alloc ?_ _)); exact BK232.out) hb); have n1_ := Aside0.mk (below_step (by repeat (first | (with_reducible first | exact HB.out | apply below_alloc | apply pw_below_drewN | apply below_drew1 | refine below_set ?_ GE232.out) | exact HB.out)) hb); have n2_ := Aside0.mk (hbox); have n3_ := Aside0.mk ((by rw [hg]; exact (below_size (by repeat (first | (with_reducible first | exact HB.out | apply below_alloc | apply pw_below_drewN | apply below_drew1 | refine below_set ?_ GE232.out) | exact HB.out))) : w.heap.size ≤ gb236)); have n4_ := Aside0.mk ((by rw [hg]; exact (below_size (by repeat (first | (with_reducible first | exact HB.out | apply below_alloc | apply pw_below_drewN | apply below_drew1 | refine below_set ?_ GE232.out) | exact HB.out))) : w.heap.size ≤ gb236)); have n5_ := Aside0.mk ((by rw [hg]; exact Nat.ne_of_lt (blk_lt (g := gb232) (o := .cells #[.string (⟨#[]⟩ : ByteArray), .string (⟨#[]⟩ : ByteArray), .int .i64 0, .slice none 0 0] 24 (0, 0)) (by (with_reducible repeat (first | refine blk_drewN ?_ _ | refine blk_drew ?_ | refine blk_alloc ?_ _)); exact BK232.out)) : gb232 ≠ gb236)); have n6_ := Aside0.mk ((by rw [hg]; exact Nat.ne_of_gt (blk_lt (g := gb232) (o := .cells #[.string (⟨#[]⟩ : ByteArray), .string (⟨#[]⟩ : ByteArray), .int .i64 0, .slice none 0 0] 24 (0, 0)) (by (with_reducible repeat (first | refine blk_drewN ?_ _ | refine blk_drew ?_ | refine blk_alloc ?_ _)); exact BK232.out)) : gb236 ≠ gb232)); clear BK232; clear HB; have BK232 := n0_; have HB := n1_; have BK236 := n2_; have GW236 := n3_; have GE236 := n4_; have NB232_236 := n5_; have NB236_232 := n6_; clear n0_ n1_ n2_ n3_ n4_ n5_ n6_; clear hb hbox hg; have hnb14 := NB236_232.out; have hnc14 := NB232_236.out; have hcz15_0 : w13.cell? ⟨gb236, 0, none⟩ = some (.string (⟨#[]⟩ : ByteArray)) := (blk_cell BK236.out 0).trans rfl; have hcz15_1 : w13.cell? ⟨gb236, 1, none⟩ = some (.string (⟨#[]⟩ : ByteArray)) := (blk_cell BK236.out 1).trans rfl; have hcz15_2 : w13.cell? ⟨gb236, 2, none⟩ = some (.int .i64 0) := (blk_cell BK236.out 2).trans rfl; have hcz15_3 : w13.cell? ⟨gb236, 3, none⟩ = some (.slice none 0 0) := (blk_cell BK236.out 3).trans rfl; have hfz15_0 := blk_frozen BK236.out 0; have hfz15_1 := blk_frozen BK236.out 1; have hfz15_2 := blk_frozen BK236.out 2; have hfz15_3 := blk_frozen BK236.out 3) | ((with_reducible refine gate_callee (f := 17) rfl ?_); refine goesL_ (some 24) rfl rfl Try.func17 (by kernel_rfl) rfl #[.slice A235_3 ((rd_T24 l0 0).f3).length c235_3] rfl (by (try simp only [List.map_toArray, List.map_cons, List.map_nil]); first | done | rfl | (simp only [List.length_drop, List.length_take]; rfl)) ?_; (with_reducible refine (chain_Tidy.calls kj1 _ _ ((rd_T24 l0 0).f3) t237 _ ?side1 ?side2 A11.out).mono ?_); (case side1 => exact Kd.C_below HR235_3.out (by repeat (first | (with_reducible first | exact HB.out | apply below_alloc | apply pw_below_drewN | apply below_drew1 | refine below_set ?_ GE232.out | refine below_set ?_ GE236.out) | exact HB.out))); (case side2 => exact HC235_3.out); rintro e w16 ⟨v238, rfl, ho0, hb⟩; refine ⟨_, rfl, ?_⟩; have n0_ := Aside0.mk (Kd.R_lower ho0 (below_size (by repeat (first | (with_reducible first | exact HB.out | apply below_alloc | apply pw_below_drewN | apply below_drew1 | refine below_set ?_ GE232.out | refine below_set ?_ GE236.out) | exact HB.out)))); have n1_ := Aside0.mk (blk_below (g := gb232) (o := .cells #[.string (⟨#[]⟩ : ByteArray), .string (⟨#[]⟩ : ByteArray), .int .i64 0, .slice none 0 0] 24 (0, 0)) (by (with_reducible repeat (first | refine blk_drewN ?_ _ | refine blk_drew ?_ | refine blk_alloc ?_ _)); refine blk_far ?_ NB232_236.out _; (with_reducible repeat (first | refine blk_drewN ?_ _ | refine blk_drew ?_ | refine blk_alloc ?_ _)); refine blk_far ?_ NB232_236.out _; (with_reducible repeat (first | refine blk_drewN ?_ _ | refine blk_drew ?_ | refine blk_alloc ?_ _)); refine blk_far ?_ NB232_236.out _; (with_reducible repeat (first | refine blk_drewN ?_ _ | refine blk_drew ?_ | refine blk_alloc ?_ _)); refine blk_far ?_ NB232_236.out _; (with_reducible repeat (first | refine blk_drewN ?_ _ | refine blk_drew ?_ | refine blk_alloc ?_ _)); exact BK232.out) hb); have n2_ := Aside0.mk (blk_below (g := gb236) (o := .cells #[.string ((rd_T24 l0 0).f0), .string ((rd_T24 l0 0).f1), .int .i64 ((rd_T24 l0 0).f2), .slice A235_3 ((rd_T24 l0 0).f3).length c235_3] 24 (0, 0)) (by (with_reducible repeat (first | refine blk_drewN ?_ _ | refine blk_drew ?_ | refine blk_alloc ?_ _)); refine blk_put (cs := #[.string ((rd_T24 l0 0).f0), .string ((rd_T24 l0 0).f1), .int .i64 ((rd_T24 l0 0).f2), .slice none 0 0]) ?_ 3 _ rfl; (with_reducible repeat (first | refine blk_drewN ?_ _ | refine blk_drew ?_ | refine blk_alloc ?_ _)); refine blk_put (cs := #[.string ((rd_T24 l0 0).f0), .string ((rd_T24 l0 0).f1), .int .i64 0, .slice none 0 0]) ?_ 2 _ rfl; (with_reducible repeat (first | refine blk_drewN ?_ _ | refine blk_drew ?_ | refine blk_alloc ?_ _)); refine blk_put (cs := #[.string ((rd_T24 l0 0).f0), .string (⟨#[]⟩ : ByteArray), .int .i64 0, .slice none 0 0]) ?_ 1 _ rfl; (with_reducible repeat (first | refine blk_drewN ?_ _ | refine blk_drew ?_ | refine blk_alloc ?_ _)); refine blk_put (cs := #[.string (⟨#[]⟩ : ByteArray), .string (⟨#[]⟩ : ByteArray), .int .i64 0, .slice none 0 0]) ?_ 0 _ rfl; (with_reducible repeat (first | refine blk_drewN ?_ _ | refine blk_drew ?_ | refine blk_alloc ?_ _)); exact BK236.out) hb); have n3_ := Aside0.mk (below_step (by repeat (first | (with_reducible first | exact HB.out | apply below_alloc | apply pw_below_drewN | apply below_drew1 | refine below_set ?_ GE232.out | refine below_set ?_ GE236.out) | exact HB.out)) hb); clear BK232; clear BK236; clear HB; have HO239 := n0_; have BK232 := n1_; have BK236 := n2_; have HB := n3_; clear n0_ n1_ n2_ n3_; (try clear hb); (try clear hb2); (try clear hk); (try clear hi); (try clear ho0); obtain ⟨Ao17, co17, eo17⟩ := Kd.R_slice HO239.out; subst eo17; have hcz18_0 : w16.cell? ⟨gb236, 0, none⟩ = some (.string ((rd_T24 l0 0).f0)) := (blk_cell BK236.out 0).trans rfl; have hcz18_1 : w16.cell? ⟨gb236, 1, none⟩ = some (.string ((rd_T24 l0 0).f1)) := (blk_cell BK236.out 1).trans rfl; have hcz18_2 : w16.cell? ⟨gb236, 2, none⟩ = some (.int .i64 ((rd_T24 l0 0).f2)) := (blk_cell BK236.out 2).trans rfl; have hcz18_3 : w16.cell? ⟨gb236, 3, none⟩ = some (.slice A235_3 ((rd_T24 l0 0).f3).length c235_3) := (blk_cell BK236.out 3).trans rfl; have hfz18_0 := blk_frozen BK236.out 0; have hfz18_1 := blk_frozen BK236.out 1; have hfz18_2 := blk_frozen BK236.out 2; have hfz18_3 := blk_frozen BK236.out 3) | ((with_reducible refine gate_store (t := 22) (p := 25) rfl ?_); refine store_event (t := 22) (p := 25) (v := ?vo_w19) (w1 := (w16.setCell ⟨gb236, 3, none⟩ (.slice Ao17 t237.length co17))) ?hg ?ho ?hn ?hr ?_; (case ho => rfl); (case hg => rfl); (case hn => rfl); (case hr => first | (go_simp; done) | (go_simp; rfl)); intro w19 hw; have n0_ : Aside0 (Kd.R k54 54 w19 w.heap.size (fun _ => True) (.slice Ao17 t237.length co17) t237) := ⟨(by rw [hw]; exact (by (with_reducible repeat (first | apply Kd.R_alloc | apply Kd.R_drewN | apply Kd.R_drew)); exact Kd.R_mono (Kd.R_far (p := ⟨gb236, 3, none⟩) (Kd.R_types HO239.out BK236.out (by decide)) (fun _ hk => hk.2) (.slice Ao17 t237.length co17)) (fun _ hk => trivial)))⟩; have n1_ : Aside0 (w19.heap[gb232]? = some (.cells #[.string (⟨#[]⟩ : ByteArray), .string (⟨#[]⟩ : ByteArray), .int .i64 0, .slice none 0 0] 24 (0, 0))) := ⟨(by rw [hw]; exact (by (with_reducible repeat (first | refine blk_drewN ?_ _ | refine blk_drew ?_ | refine blk_alloc ?_ _)); refine blk_far ?_ NB232_236.out _; (with_reducible repeat (first | refine blk_drewN ?_ _ | refine blk_drew ?_ | refine blk_alloc ?_ _)); exact BK232.out))⟩; have n2_ : Aside0 (w19.heap[gb236]? = some (.cells #[.string ((rd_T24 l0 0).f0), .string ((rd_T24 l0 0).f1), .int .i64 ((rd_T24 l0 0).f2), .slice Ao17 t237.length co17] 24 (0, 0))) := ⟨(by rw [hw]; exact (by (with_reducible repeat (first | refine blk_drewN ?_ _ | refine blk_drew ?_ | refine blk_alloc ?_ _)); refine blk_put (cs := #[.string ((rd_T24 l0 0).f0), .string ((rd_T24 l0 0).f1), .int .i64 ((rd_T24 l0 0).f2), .slice A235_3 ((rd_T24 l0 0).f3).length c235_3]) ?_ 3 _ rfl; (with_reducible repeat (first | refine blk_drewN ?_ _ | refine blk_drew ?_ | refine blk_alloc ?_ _)); exact BK236.out))⟩; have n3_ : Aside0 (Below w.heap.size w w19) := ⟨(by rw [hw]; exact (by repeat (first | (with_reducible first | exact HB.out | apply below_alloc | apply pw_below_drewN | apply below_drew1 | refine below_set ?_ GE232.out | refine below_set ?_ GE236.out) | exact HB.out)))⟩; clear hw; clear HO239; clear BK232; clear BK236; clear HB; have HO239 := n0_; have BK232 := n1_; have BK236 := n2_; have HB := n3_; clear n0_ n1_ n2_ n3_; have q20 : (1 : Int) ≤ ((l0.length : Int) : Int) := of_decide_eq_true (by first | (with_reducible assumption) | assumption); obtain ⟨i020, hi020, _, hsz20, _⟩ := info_parts info24; have hroom20 : l0.length ≤ c0 := HC0.out; have hC20 : Kd.C k24 _ (some ad235) l0.length l0 := HR0.out; have hcut20 := cut_from (P := Try.prog) 31 24 .i64 Try.underlying31 hi020 4 hsz20 (some ad235) l0.length c0 1 (by omega) q20; have hr20 := Kd.C_drop (m := (1 : Int).toNat) (c := c0) hC20 (by omega) hroom20; obtain ⟨A20, hA20⟩ : ∃ A1, A1 = (if c0 = (1 : Int).toNat then (some ad235) else ((some ad235) : Option Addr).map (·.add ((1 : Int).toNat * 4))) := ⟨_, rfl⟩; obtain ⟨c20, hc20⟩ : ∃ c1, c1 = c0 - (1 : Int).toNat := ⟨_, rfl⟩; have hy20 : y240.length = l0.length - (1 : Int).toNat := (by rw [Ny240.out, List.length_drop] <;> omega); rw [show (l0).drop (1 : Int).toNat = y240 from Ny240.out.symm] at hr20; replace hr20 : Kd.C k24 _ A20 y240.length y240 := (by rw [hA20]; exact hr20); rw [← hy20, ← hA20, ← hc20] at hcut20; have HR243 := Aside0.mk hr20; have HC243 := Aside0.mk (show y240.length ≤ c20 from by rw [hy20, hc20]; exact Nat.sub_le_sub_right hroom20 _); clear hr20 hC20 hroom20 hi020 hsz20 hc20; have KY20 := Aside0.mk hy20; have KA20 := Aside0.mk hA20; clear hy20 hA20; replace q20 := eq_true q20))
            go_loopg [29] kj1 (fun kq v29 w' => ∃ (x29_2 : Int) (x233000_2 : ByteArray) (x233001_2 : ByteArray) (x233002_2 : Int) (x237000_2 : ByteArray) (x237001_2 : ByteArray) (x237002_2 : Int) (x237003_2 : List (S54)) (u237003 : Value), v29 = .int .i64 x29_2 ∧ Aside0 (chain_Fold.l0 kq y240 (y240.length : Int) x29_2 x237000_2 x237001_2 x237002_2 x237003_2 = some (r1, r2, r3, r4, r5)) ∧ Aside0 (kq ≤ kj1) ∧ Aside0 (Kd.R k54 54 w' w.heap.size (fun _ => True) u237003 x237003_2) ∧ Aside0 (w'.heap[gb232]? = some (.cells #[.string x233000_2, .string x233001_2, .int .i64 x233002_2, (.slice none 0 0)] 24 (0, 0))) ∧ Aside0 (w'.heap[gb236]? = some (.cells #[.string x237000_2, .string x237001_2, .int .i64 x237002_2, u237003] 24 (0, 0))) ∧ Aside0 (Below w.heap.size w w'))
            case atStart => exact ⟨(0), ((⟨#[]⟩ : ByteArray)), ((⟨#[]⟩ : ByteArray)), (0), ((rd_T24 l0 0).f0), ((rd_T24 l0 0).f1), ((rd_T24 l0 0).f2), (t237), (.slice Ao17 t237.length co17), (by first | rfl | (simp; done) | (simp [*]; done)), H', ⟨Nat.le_refl _⟩, ⟨by (with_reducible repeat (first | apply Kd.R_alloc | apply Kd.R_drewN | apply Kd.R_drew)); exact HO239.out⟩, ⟨by (with_reducible repeat (first | refine blk_drewN ?_ _ | refine blk_drew ?_ | refine blk_alloc ?_ _)); exact BK232.out⟩, ⟨by (with_reducible repeat (first | refine blk_drewN ?_ _ | refine blk_drew ?_ | refine blk_alloc ?_ _)); exact BK236.out⟩, ⟨by repeat (first | (with_reducible first | exact HB.out | apply below_alloc | apply pw_below_drewN | apply below_drew1 | refine below_set ?_ GE232.out | refine below_set ?_ GE236.out) | exact HB.out)⟩⟩
            case round =>
              clear H'
              try clear c1
              try clear c2
              try clear p2
              try clear q2
              try clear hx2
              try clear qi2
              try clear c4
              try clear c4b0
              try clear c4b1
              try clear c4b2
              try clear c5
              try clear c5b0
              try clear c5b1
              try clear c8
              try clear c10
              try clear c10b0
              try clear c10b1
              try clear c12
              try clear c12b0
              try clear c12b1
              try clear c14
              try clear c15
              try clear c17
              try clear c20
              try clear q20
              try clear hcz15_0
              try clear hcz15_1
              try clear hcz15_2
              try clear hcz15_3
              try clear hcz18_0
              try clear hcz18_1
              try clear hcz18_2
              try clear hcz18_3
              try clear hcz9_0
              try clear hcz9_1
              try clear hcz9_2
              try clear hcz9_3
              try clear hfz15_0
              try clear hfz15_1
              try clear hfz15_2
              try clear hfz15_3
              try clear hfz18_0
              try clear hfz18_1
              try clear hfz18_2
              try clear hfz18_3
              try clear hfz9_0
              try clear hfz9_1
              try clear hfz9_2
              try clear hfz9_3
              try clear hx233_0
              try clear hx233_1
              try clear hx233_2
              try clear hx233_3
              try clear hx235_0
              try clear hx235_1
              try clear hx235_2
              try clear hx235_3
              try clear p2
              try clear p233
              try clear p235
              try clear q2
              try clear q20
              try clear q233
              try clear q235
              obtain ⟨x29_2, x233000_2, x233001_2, x233002_2, x237000_2, x237001_2, x237002_2, x237003_2, u237003, rfl, HA, HK2, HO_237003, BK232, BK236, HB⟩ := hrel
              cases gk with
              | zero => exact absurd HA.out (by simp [chain_Fold.l0])
              | succ k2 =>
                have H := HA.out
                clear HA
                simp only [chain_Fold.l0] at H
                by_cases c21 : x29_2 < (y240.length : Int)
                · rw [if_pos c21] at H
                  have c21b0 : decide (x29_2 < (y240.length : Int)) = true := decide_eq_true c21
                  clear c21
                  by_cases c22 : 0 ≤ x29_2
                  · rw [if_pos c22] at H
                    have c22b0 : decide (0 ≤ x29_2) = true := decide_eq_true c22
                    clear c22
                    by_cases c23 : x29_2 < (y240.length : Int)
                    · rw [if_pos c23] at H
                      have c23b0 : decide (x29_2 < (y240.length : Int)) = true := decide_eq_true c23
                      clear c23
                      replace H := Option.bind_eq_some_iff.mp H
                      obtain ⟨⟨t246, t247, t248, t249, t252⟩, A240, H⟩ := H
                      replace H : (if t252 = 0 then (chain_Fold.l0 k2 y240 (y240.length : Int) (wrap64 (x29_2 + 1)) t246 t247 t248 t249) else (some ((⟨#[]⟩ : ByteArray), (⟨#[]⟩ : ByteArray), 0, ([] : List (S54)), t252))) = some (r1, r2, r3, r4, r5) := H
                      have A24 := Aside0.mk A240
                      clear A240
                      by_cases c25 : t252 = 0
                      · rw [if_pos c25] at H
                        have c25b0 : (t252 == 0) = true := beq_iff_eq.mpr c25
                        have c25b1 : (t252 != 0) = false := bne_eq_false_iff_eq.mpr c25
                        clear c25
                        have H' := Aside0.mk H
                        clear H
                        have p244 : 0 ≤ (x29_2 : Int) := of_decide_eq_true (by first | (with_reducible assumption) | assumption)
                        have q244 : x29_2 < (y240.length : Int) := of_decide_eq_true (by first | (with_reducible assumption) | assumption)
                        obtain ⟨ad244, A244_3, c244_3, e244, hx244_0, hx244_1, hx244_2, hx244_3, hl244_3, hi244_3⟩ := at_T24 HR243.out x29_2 p244 q244
                        cases e244
                        replace hx244_0 := (HB.out.cell (World.block_lt_of_cell? w _ hx244_0)).trans hx244_0
                        replace hx244_1 := (HB.out.cell (World.block_lt_of_cell? w _ hx244_1)).trans hx244_1
                        replace hx244_2 := (HB.out.cell (World.block_lt_of_cell? w _ hx244_2)).trans hx244_2
                        replace hx244_3 := (HB.out.cell (World.block_lt_of_cell? w _ hx244_3)).trans hx244_3
                        have HR244_3 := Aside0.mk hi244_3
                        have HC244_3 := Aside0.mk hl244_3
                        clear hi244_3 hl244_3
                        replace p244 := eq_true p244
                        replace q244 := eq_true q244
                        go_wp2_with (first | ((with_reducible refine gate_dst (N := 6) rfl ?_); refine box_event ?hg (N := 6) ?hd (cs := #[.string (⟨#[]⟩ : ByteArray), .string (⟨#[]⟩ : ByteArray), .int .i64 0, .slice none 0 0]) (t := 24) ?hr ?_; (case hd => rfl); (case hg => rfl); (case hr => first | (go_simp; done) | (go_simp; rfl)); intro gb245 hg w26 hbox hb; have n0_ := Aside0.mk (Kd.R_below (by (with_reducible repeat (first | apply Kd.R_alloc | apply Kd.R_drewN | apply Kd.R_drew)); exact HO_237003.out) hb); have n1_ := Aside0.mk (blk_below (g := gb232) (o := .cells #[.string x233000_2, .string x233001_2, .int .i64 x233002_2, .slice none 0 0] 24 (0, 0)) (by (with_reducible repeat (first | refine blk_drewN ?_ _ | refine blk_drew ?_ | refine blk_alloc ?_ _)); exact BK232.out) hb); have n2_ := Aside0.mk (blk_below (g := gb236) (o := .cells #[.string x237000_2, .string x237001_2, .int .i64 x237002_2, u237003] 24 (0, 0)) (by (with_reducible repeat (first | refine blk_drewN ?_ _ | refine blk_drew ?_ | refine blk_alloc ?_ _)); exact BK236.out) hb); have n3_ := Aside0.mk (below_step (by repeat (first | (with_reducible first | exact HB.out | apply below_alloc | apply pw_below_drewN | apply below_drew1 | refine below_set ?_ GE232.out | refine below_set ?_ GE236.out) | exact HB.out)) hb); have n4_ := Aside0.mk (hbox); have n5_ := Aside0.mk ((by rw [hg]; exact (below_size (by repeat (first | (with_reducible first | exact HB.out | apply below_alloc | apply pw_below_drewN | apply below_drew1 | refine below_set ?_ GE232.out | refine below_set ?_ GE236.out) | exact HB.out))) : w.heap.size ≤ gb245)); have n6_ := Aside0.mk ((by rw [hg]; exact (below_size (by repeat (first | (with_reducible first | exact HB.out | apply below_alloc | apply pw_below_drewN | apply below_drew1 | refine below_set ?_ GE232.out | refine below_set ?_ GE236.out) | exact HB.out))) : w.heap.size ≤ gb245)); have n7_ := Aside0.mk ((by rw [hg]; exact Nat.ne_of_lt (blk_lt (g := gb232) (o := .cells #[.string x233000_2, .string x233001_2, .int .i64 x233002_2, .slice none 0 0] 24 (0, 0)) (by (with_reducible repeat (first | refine blk_drewN ?_ _ | refine blk_drew ?_ | refine blk_alloc ?_ _)); exact BK232.out)) : gb232 ≠ gb245)); have n8_ := Aside0.mk ((by rw [hg]; exact Nat.ne_of_gt (blk_lt (g := gb232) (o := .cells #[.string x233000_2, .string x233001_2, .int .i64 x233002_2, .slice none 0 0] 24 (0, 0)) (by (with_reducible repeat (first | refine blk_drewN ?_ _ | refine blk_drew ?_ | refine blk_alloc ?_ _)); exact BK232.out)) : gb245 ≠ gb232)); have n9_ := Aside0.mk ((by rw [hg]; exact Nat.ne_of_lt (blk_lt (g := gb236) (o := .cells #[.string x237000_2, .string x237001_2, .int .i64 x237002_2, u237003] 24 (0, 0)) (by (with_reducible repeat (first | refine blk_drewN ?_ _ | refine blk_drew ?_ | refine blk_alloc ?_ _)); exact BK236.out)) : gb236 ≠ gb245)); have n10_ := Aside0.mk ((by rw [hg]; exact Nat.ne_of_gt (blk_lt (g := gb236) (o := .cells #[.string x237000_2, .string x237001_2, .int .i64 x237002_2, u237003] 24 (0, 0)) (by (with_reducible repeat (first | refine blk_drewN ?_ _ | refine blk_drew ?_ | refine blk_alloc ?_ _)); exact BK236.out)) : gb245 ≠ gb236)); clear HO_237003; clear BK232; clear BK236; clear HB; have HO_237003 := n0_; have BK232 := n1_; have BK236 := n2_; have HB := n3_; have BK245 := n4_; have GW245 := n5_; have GE245 := n6_; have NB232_245 := n7_; have NB245_232 := n8_; have NB236_245 := n9_; have NB245_236 := n10_; clear n0_ n1_ n2_ n3_ n4_ n5_ n6_ n7_ n8_ n9_ n10_; clear hb hbox hg; have hnb27 := NB245_232.out; have hnc27 := NB232_245.out; have hnb28 := NB245_236.out; have hnc28 := NB236_245.out; have hcz29_0 : w26.cell? ⟨gb245, 0, none⟩ = some (.string (⟨#[]⟩ : ByteArray)) := (blk_cell BK245.out 0).trans rfl; have hcz29_1 : w26.cell? ⟨gb245, 1, none⟩ = some (.string (⟨#[]⟩ : ByteArray)) := (blk_cell BK245.out 1).trans rfl; have hcz29_2 : w26.cell? ⟨gb245, 2, none⟩ = some (.int .i64 0) := (blk_cell BK245.out 2).trans rfl; have hcz29_3 : w26.cell? ⟨gb245, 3, none⟩ = some (.slice none 0 0) := (blk_cell BK245.out 3).trans rfl; have hfz29_0 := blk_frozen BK245.out 0; have hfz29_1 := blk_frozen BK245.out 1; have hfz29_2 := blk_frozen BK245.out 2; have hfz29_3 := blk_frozen BK245.out 3; have hnb30 := NB236_232.out; have hnc30 := NB232_236.out; have hcz31_0 : w26.cell? ⟨gb236, 0, none⟩ = some (.string x237000_2) := (blk_cell BK236.out 0).trans rfl; have hcz31_1 : w26.cell? ⟨gb236, 1, none⟩ = some (.string x237001_2) := (blk_cell BK236.out 1).trans rfl; have hcz31_2 : w26.cell? ⟨gb236, 2, none⟩ = some (.int .i64 x237002_2) := (blk_cell BK236.out 2).trans rfl; have hcz31_3 : w26.cell? ⟨gb236, 3, none⟩ = some (u237003) := (blk_cell BK236.out 3).trans rfl; have hfz31_0 := blk_frozen BK236.out 0; have hfz31_1 := blk_frozen BK236.out 1; have hfz31_2 := blk_frozen BK236.out 2; have hfz31_3 := blk_frozen BK236.out 3; obtain ⟨Ao32, co32, eo32⟩ := Kd.R_slice HO_237003.out; subst eo32) | ((with_reducible refine gate_callee (f := 12) rfl ?_); refine goesL_ (some 36) rfl rfl Try.func12 (by kernel_rfl) rfl #[.agg #[.string x237000_2, .string x237001_2, .int .i64 x237002_2, .slice Ao32 x237003_2.length co32], .agg #[.string ((rd_T24 y240 x29_2).f0), .string ((rd_T24 y240 x29_2).f1), .int .i64 ((rd_T24 y240 x29_2).f2), .slice A244_3 ((rd_T24 y240 x29_2).f3).length c244_3]] rfl (by (try simp only [List.map_toArray, List.map_cons, List.map_nil]); first | done | rfl | (simp only [List.length_drop, List.length_take]; rfl)) ?_; (with_reducible refine (chain_Compose.calls k2 x237000_2 x237001_2 x237002_2 _ _ x237003_2 ((rd_T24 y240 x29_2).f0) ((rd_T24 y240 x29_2).f1) ((rd_T24 y240 x29_2).f2) _ _ ((rd_T24 y240 x29_2).f3) t246 t247 t248 t249 t252 _ ?side1 ?side2 ?side3 ?side4 A24.out).mono ?_); (case side1 => refine (Kd.R_reads' (e := 54) (base := w.heap.size) (ok := fun k_ => True) (n := x237003_2.length) (c := co32) ?_).2.2; exact (by (with_reducible repeat (first | apply Kd.R_alloc | apply Kd.R_drewN | apply Kd.R_drew)); exact (Kd.R_mono (Kd.R_far (p := ⟨gb245, 3, none⟩) (Kd.R_far (p := ⟨gb245, 2, none⟩) (Kd.R_far (p := ⟨gb245, 1, none⟩) (Kd.R_far (p := ⟨gb245, 0, none⟩) (Kd.R_types HO_237003.out BK245.out (by decide)) (fun _ hk => hk.2) (.string ((rd_T24 y240 x29_2).f0))) (fun _ hk => hk.2) (.string ((rd_T24 y240 x29_2).f1))) (fun _ hk => hk.2) (.int .i64 ((rd_T24 y240 x29_2).f2))) (fun _ hk => hk.2) (.slice A244_3 ((rd_T24 y240 x29_2).f3).length c244_3)) (fun _ h_ => h_.1)))); (case side2 => exact (Kd.R_reads' HO_237003.out).2.1); (case side3 => exact Kd.C_below HR244_3.out (by repeat (first | (with_reducible first | exact HB.out | apply below_alloc | apply pw_below_drewN | apply below_drew1 | refine below_set ?_ GE232.out | refine below_set ?_ GE236.out | refine below_set ?_ GE245.out) | exact HB.out))); (case side4 => exact HC244_3.out); rintro e w33 ⟨v250, rfl, ho0, hb⟩; refine ⟨_, rfl, ?_⟩; have n0_ := Aside0.mk (Kd.R_elder' (by (with_reducible repeat (first | apply Kd.R_alloc | apply Kd.R_drewN | apply Kd.R_drew)); exact (Kd.R_mono (Kd.R_far (p := ⟨gb245, 3, none⟩) (Kd.R_far (p := ⟨gb245, 2, none⟩) (Kd.R_far (p := ⟨gb245, 1, none⟩) (Kd.R_far (p := ⟨gb245, 0, none⟩) (Kd.R_types HO_237003.out BK245.out (by decide)) (fun _ hk => hk.2) (.string ((rd_T24 y240 x29_2).f0))) (fun _ hk => hk.2) (.string ((rd_T24 y240 x29_2).f1))) (fun _ hk => hk.2) (.int .i64 ((rd_T24 y240 x29_2).f2))) (fun _ hk => hk.2) (.slice A244_3 ((rd_T24 y240 x29_2).f3).length c244_3)) (fun _ h_ => h_.1))) (Kd.R_base ho0) hb); have n1_ := Aside0.mk (Kd.R_lower (Kd.R_new' ho0 (Kd.R_lt (by (with_reducible repeat (first | apply Kd.R_alloc | apply Kd.R_drewN | apply Kd.R_drew)); exact (Kd.R_mono (Kd.R_far (p := ⟨gb245, 3, none⟩) (Kd.R_far (p := ⟨gb245, 2, none⟩) (Kd.R_far (p := ⟨gb245, 1, none⟩) (Kd.R_far (p := ⟨gb245, 0, none⟩) (Kd.R_types HO_237003.out BK245.out (by decide)) (fun _ hk => hk.2) (.string ((rd_T24 y240 x29_2).f0))) (fun _ hk => hk.2) (.string ((rd_T24 y240 x29_2).f1))) (fun _ hk => hk.2) (.int .i64 ((rd_T24 y240 x29_2).f2))) (fun _ hk => hk.2) (.slice A244_3 ((rd_T24 y240 x29_2).f3).length c244_3)) (fun _ h_ => h_.1))))) (below_size (by repeat (first | (with_reducible first | exact HB.out | apply below_alloc | apply pw_below_drewN | apply below_drew1 | refine below_set ?_ GE232.out | refine below_set ?_ GE236.out | refine below_set ?_ GE245.out) | exact HB.out)))); have n2_ := Aside0.mk (blk_below (g := gb232) (o := .cells #[.string x233000_2, .string x233001_2, .int .i64 x233002_2, .slice none 0 0] 24 (0, 0)) (by (with_reducible repeat (first | refine blk_drewN ?_ _ | refine blk_drew ?_ | refine blk_alloc ?_ _)); refine blk_far ?_ NB232_245.out _; (with_reducible repeat (first | refine blk_drewN ?_ _ | refine blk_drew ?_ | refine blk_alloc ?_ _)); refine blk_far ?_ NB232_245.out _; (with_reducible repeat (first | refine blk_drewN ?_ _ | refine blk_drew ?_ | refine blk_alloc ?_ _)); refine blk_far ?_ NB232_245.out _; (with_reducible repeat (first | refine blk_drewN ?_ _ | refine blk_drew ?_ | refine blk_alloc ?_ _)); refine blk_far ?_ NB232_245.out _; (with_reducible repeat (first | refine blk_drewN ?_ _ | refine blk_drew ?_ | refine blk_alloc ?_ _)); exact BK232.out) hb); have n3_ := Aside0.mk (blk_below (g := gb236) (o := .cells #[.string x237000_2, .string x237001_2, .int .i64 x237002_2, .slice Ao32 x237003_2.length co32] 24 (0, 0)) (by (with_reducible repeat (first | refine blk_drewN ?_ _ | refine blk_drew ?_ | refine blk_alloc ?_ _)); refine blk_far ?_ NB236_245.out _; (with_reducible repeat (first | refine blk_drewN ?_ _ | refine blk_drew ?_ | refine blk_alloc ?_ _)); refine blk_far ?_ NB236_245.out _; (with_reducible repeat (first | refine blk_drewN ?_ _ | refine blk_drew ?_ | refine blk_alloc ?_ _)); refine blk_far ?_ NB236_245.out _; (with_reducible repeat (first | refine blk_drewN ?_ _ | refine blk_drew ?_ | refine blk_alloc ?_ _)); refine blk_far ?_ NB236_245.out _; (with_reducible repeat (first | refine blk_drewN ?_ _ | refine blk_drew ?_ | refine blk_alloc ?_ _)); exact BK236.out) hb); have n4_ := Aside0.mk (blk_below (g := gb245) (o := .cells #[.string ((rd_T24 y240 x29_2).f0), .string ((rd_T24 y240 x29_2).f1), .int .i64 ((rd_T24 y240 x29_2).f2), .slice A244_3 ((rd_T24 y240 x29_2).f3).length c244_3] 24 (0, 0)) (by (with_reducible repeat (first | refine blk_drewN ?_ _ | refine blk_drew ?_ | refine blk_alloc ?_ _)); refine blk_put (cs := #[.string ((rd_T24 y240 x29_2).f0), .string ((rd_T24 y240 x29_2).f1), .int .i64 ((rd_T24 y240 x29_2).f2), .slice none 0 0]) ?_ 3 _ rfl; (with_reducible repeat (first | refine blk_drewN ?_ _ | refine blk_drew ?_ | refine blk_alloc ?_ _)); refine blk_put (cs := #[.string ((rd_T24 y240 x29_2).f0), .string ((rd_T24 y240 x29_2).f1), .int .i64 0, .slice none 0 0]) ?_ 2 _ rfl; (with_reducible repeat (first | refine blk_drewN ?_ _ | refine blk_drew ?_ | refine blk_alloc ?_ _)); refine blk_put (cs := #[.string ((rd_T24 y240 x29_2).f0), .string (⟨#[]⟩ : ByteArray), .int .i64 0, .slice none 0 0]) ?_ 1 _ rfl; (with_reducible repeat (first | refine blk_drewN ?_ _ | refine blk_drew ?_ | refine blk_alloc ?_ _)); refine blk_put (cs := #[.string (⟨#[]⟩ : ByteArray), .string (⟨#[]⟩ : ByteArray), .int .i64 0, .slice none 0 0]) ?_ 0 _ rfl; (with_reducible repeat (first | refine blk_drewN ?_ _ | refine blk_drew ?_ | refine blk_alloc ?_ _)); exact BK245.out) hb); have n5_ := Aside0.mk (below_step (by repeat (first | (with_reducible first | exact HB.out | apply below_alloc | apply pw_below_drewN | apply below_drew1 | refine below_set ?_ GE232.out | refine below_set ?_ GE236.out | refine below_set ?_ GE245.out) | exact HB.out)) hb); clear HO_237003; clear BK232; clear BK236; clear BK245; clear HB; have HO_237003 := n0_; have HO251 := n1_; have BK232 := n2_; have BK236 := n3_; have BK245 := n4_; have HB := n5_; clear n0_ n1_ n2_ n3_ n4_ n5_; (try clear hb); (try clear hb2); (try clear hk); (try clear hi); (try clear ho0); have hcz34_0 : w33.cell? ⟨gb236, 0, none⟩ = some (.string x237000_2) := (blk_cell BK236.out 0).trans rfl; have hcz34_1 : w33.cell? ⟨gb236, 1, none⟩ = some (.string x237001_2) := (blk_cell BK236.out 1).trans rfl; have hcz34_2 : w33.cell? ⟨gb236, 2, none⟩ = some (.int .i64 x237002_2) := (blk_cell BK236.out 2).trans rfl; have hcz34_3 : w33.cell? ⟨gb236, 3, none⟩ = some (.slice Ao32 x237003_2.length co32) := (blk_cell BK236.out 3).trans rfl; have hfz34_0 := blk_frozen BK236.out 0; have hfz34_1 := blk_frozen BK236.out 1; have hfz34_2 := blk_frozen BK236.out 2; have hfz34_3 := blk_frozen BK236.out 3; obtain ⟨Ao35, co35, eo35⟩ := Kd.R_slice HO251.out; subst eo35))
                        go_roundg k2
                        case measure => have := HJ1.out; have := HK2.out; omega
                        case rel => exact ⟨(wrap64 (x29_2 + 1)), (x233000_2), (x233001_2), (x233002_2), (t246), (t247), (t248), (t249), (.slice Ao35 t249.length co35), (by first | rfl | (simp; done) | (simp [*]; done)), H', ⟨by have := HJ1.out; have := HK2.out; omega⟩, ⟨by (with_reducible repeat (first | apply Kd.R_alloc | apply Kd.R_drewN | apply Kd.R_drew)); exact Kd.R_mono (Kd.R_far (p := ⟨gb236, 3, none⟩) (Kd.R_far (p := ⟨gb236, 2, none⟩) (Kd.R_far (p := ⟨gb236, 1, none⟩) (Kd.R_far (p := ⟨gb236, 0, none⟩) (Kd.R_types HO251.out BK236.out (by decide)) (fun _ hk => hk.2) (.string t246)) (fun _ hk => hk.2) (.string t247)) (fun _ hk => hk.2) (.int .i64 t248)) (fun _ hk => hk.2) (.slice Ao35 t249.length co35)) (fun _ hk => trivial)⟩, ⟨by (with_reducible repeat (first | refine blk_drewN ?_ _ | refine blk_drew ?_ | refine blk_alloc ?_ _)); refine blk_far ?_ NB232_236.out _; (with_reducible repeat (first | refine blk_drewN ?_ _ | refine blk_drew ?_ | refine blk_alloc ?_ _)); refine blk_far ?_ NB232_236.out _; (with_reducible repeat (first | refine blk_drewN ?_ _ | refine blk_drew ?_ | refine blk_alloc ?_ _)); refine blk_far ?_ NB232_236.out _; (with_reducible repeat (first | refine blk_drewN ?_ _ | refine blk_drew ?_ | refine blk_alloc ?_ _)); refine blk_far ?_ NB232_236.out _; (with_reducible repeat (first | refine blk_drewN ?_ _ | refine blk_drew ?_ | refine blk_alloc ?_ _)); exact BK232.out⟩, ⟨by (with_reducible repeat (first | refine blk_drewN ?_ _ | refine blk_drew ?_ | refine blk_alloc ?_ _)); refine blk_put (cs := #[.string t246, .string t247, .int .i64 t248, .slice Ao32 x237003_2.length co32]) ?_ 3 _ rfl; (with_reducible repeat (first | refine blk_drewN ?_ _ | refine blk_drew ?_ | refine blk_alloc ?_ _)); refine blk_put (cs := #[.string t246, .string t247, .int .i64 x237002_2, .slice Ao32 x237003_2.length co32]) ?_ 2 _ rfl; (with_reducible repeat (first | refine blk_drewN ?_ _ | refine blk_drew ?_ | refine blk_alloc ?_ _)); refine blk_put (cs := #[.string t246, .string x237001_2, .int .i64 x237002_2, .slice Ao32 x237003_2.length co32]) ?_ 1 _ rfl; (with_reducible repeat (first | refine blk_drewN ?_ _ | refine blk_drew ?_ | refine blk_alloc ?_ _)); refine blk_put (cs := #[.string x237000_2, .string x237001_2, .int .i64 x237002_2, .slice Ao32 x237003_2.length co32]) ?_ 0 _ rfl; (with_reducible repeat (first | refine blk_drewN ?_ _ | refine blk_drew ?_ | refine blk_alloc ?_ _)); exact BK236.out⟩, ⟨by repeat (first | (with_reducible first | exact HB.out | apply below_alloc | apply pw_below_drewN | apply below_drew1 | refine below_set ?_ GE232.out | refine below_set ?_ GE236.out | refine below_set ?_ GE245.out) | exact HB.out)⟩⟩
                      · rw [if_neg c25] at H
                        have c25b0 : (t252 == 0) = false := beq_eq_false_iff_ne.mpr c25
                        have c25b1 : (t252 != 0) = true := bne_iff_ne.mpr c25
                        simp only [Option.some.injEq, Prod.mk.injEq] at H
                        obtain ⟨rfl, rfl, rfl, rfl, rfl⟩ := H
                        have p244 : 0 ≤ (x29_2 : Int) := of_decide_eq_true (by first | (with_reducible assumption) | assumption)
                        have q244 : x29_2 < (y240.length : Int) := of_decide_eq_true (by first | (with_reducible assumption) | assumption)
                        obtain ⟨ad244, A244_3, c244_3, e244, hx244_0, hx244_1, hx244_2, hx244_3, hl244_3, hi244_3⟩ := at_T24 HR243.out x29_2 p244 q244
                        cases e244
                        replace hx244_0 := (HB.out.cell (World.block_lt_of_cell? w _ hx244_0)).trans hx244_0
                        replace hx244_1 := (HB.out.cell (World.block_lt_of_cell? w _ hx244_1)).trans hx244_1
                        replace hx244_2 := (HB.out.cell (World.block_lt_of_cell? w _ hx244_2)).trans hx244_2
                        replace hx244_3 := (HB.out.cell (World.block_lt_of_cell? w _ hx244_3)).trans hx244_3
                        have HR244_3 := Aside0.mk hi244_3
                        have HC244_3 := Aside0.mk hl244_3
                        clear hi244_3 hl244_3
                        replace p244 := eq_true p244
                        replace q244 := eq_true q244
                        go_wp2_with (first | ((with_reducible refine gate_dst (N := 6) rfl ?_); refine box_event ?hg (N := 6) ?hd (cs := #[.string (⟨#[]⟩ : ByteArray), .string (⟨#[]⟩ : ByteArray), .int .i64 0, .slice none 0 0]) (t := 24) ?hr ?_; (case hd => rfl); (case hg => rfl); (case hr => first | (go_simp; done) | (go_simp; rfl)); intro gb245 hg w36 hbox hb; have n0_ := Aside0.mk (Kd.R_below (by (with_reducible repeat (first | apply Kd.R_alloc | apply Kd.R_drewN | apply Kd.R_drew)); exact HO_237003.out) hb); have n1_ := Aside0.mk (blk_below (g := gb232) (o := .cells #[.string x233000_2, .string x233001_2, .int .i64 x233002_2, .slice none 0 0] 24 (0, 0)) (by (with_reducible repeat (first | refine blk_drewN ?_ _ | refine blk_drew ?_ | refine blk_alloc ?_ _)); exact BK232.out) hb); have n2_ := Aside0.mk (blk_below (g := gb236) (o := .cells #[.string x237000_2, .string x237001_2, .int .i64 x237002_2, u237003] 24 (0, 0)) (by (with_reducible repeat (first | refine blk_drewN ?_ _ | refine blk_drew ?_ | refine blk_alloc ?_ _)); exact BK236.out) hb); have n3_ := Aside0.mk (below_step (by repeat (first | (with_reducible first | exact HB.out | apply below_alloc | apply pw_below_drewN | apply below_drew1 | refine below_set ?_ GE232.out | refine below_set ?_ GE236.out) | exact HB.out)) hb); have n4_ := Aside0.mk (hbox); have n5_ := Aside0.mk ((by rw [hg]; exact (below_size (by repeat (first | (with_reducible first | exact HB.out | apply below_alloc | apply pw_below_drewN | apply below_drew1 | refine below_set ?_ GE232.out | refine below_set ?_ GE236.out) | exact HB.out))) : w.heap.size ≤ gb245)); have n6_ := Aside0.mk ((by rw [hg]; exact (below_size (by repeat (first | (with_reducible first | exact HB.out | apply below_alloc | apply pw_below_drewN | apply below_drew1 | refine below_set ?_ GE232.out | refine below_set ?_ GE236.out) | exact HB.out))) : w.heap.size ≤ gb245)); have n7_ := Aside0.mk ((by rw [hg]; exact Nat.ne_of_lt (blk_lt (g := gb232) (o := .cells #[.string x233000_2, .string x233001_2, .int .i64 x233002_2, .slice none 0 0] 24 (0, 0)) (by (with_reducible repeat (first | refine blk_drewN ?_ _ | refine blk_drew ?_ | refine blk_alloc ?_ _)); exact BK232.out)) : gb232 ≠ gb245)); have n8_ := Aside0.mk ((by rw [hg]; exact Nat.ne_of_gt (blk_lt (g := gb232) (o := .cells #[.string x233000_2, .string x233001_2, .int .i64 x233002_2, .slice none 0 0] 24 (0, 0)) (by (with_reducible repeat (first | refine blk_drewN ?_ _ | refine blk_drew ?_ | refine blk_alloc ?_ _)); exact BK232.out)) : gb245 ≠ gb232)); have n9_ := Aside0.mk ((by rw [hg]; exact Nat.ne_of_lt (blk_lt (g := gb236) (o := .cells #[.string x237000_2, .string x237001_2, .int .i64 x237002_2, u237003] 24 (0, 0)) (by (with_reducible repeat (first | refine blk_drewN ?_ _ | refine blk_drew ?_ | refine blk_alloc ?_ _)); exact BK236.out)) : gb236 ≠ gb245)); have n10_ := Aside0.mk ((by rw [hg]; exact Nat.ne_of_gt (blk_lt (g := gb236) (o := .cells #[.string x237000_2, .string x237001_2, .int .i64 x237002_2, u237003] 24 (0, 0)) (by (with_reducible repeat (first | refine blk_drewN ?_ _ | refine blk_drew ?_ | refine blk_alloc ?_ _)); exact BK236.out)) : gb245 ≠ gb236)); clear HO_237003; clear BK232; clear BK236; clear HB; have HO_237003 := n0_; have BK232 := n1_; have BK236 := n2_; have HB := n3_; have BK245 := n4_; have GW245 := n5_; have GE245 := n6_; have NB232_245 := n7_; have NB245_232 := n8_; have NB236_245 := n9_; have NB245_236 := n10_; clear n0_ n1_ n2_ n3_ n4_ n5_ n6_ n7_ n8_ n9_ n10_; clear hb hbox hg; have hnb37 := NB245_232.out; have hnc37 := NB232_245.out; have hnb38 := NB245_236.out; have hnc38 := NB236_245.out; have hcz39_0 : w36.cell? ⟨gb245, 0, none⟩ = some (.string (⟨#[]⟩ : ByteArray)) := (blk_cell BK245.out 0).trans rfl; have hcz39_1 : w36.cell? ⟨gb245, 1, none⟩ = some (.string (⟨#[]⟩ : ByteArray)) := (blk_cell BK245.out 1).trans rfl; have hcz39_2 : w36.cell? ⟨gb245, 2, none⟩ = some (.int .i64 0) := (blk_cell BK245.out 2).trans rfl; have hcz39_3 : w36.cell? ⟨gb245, 3, none⟩ = some (.slice none 0 0) := (blk_cell BK245.out 3).trans rfl; have hfz39_0 := blk_frozen BK245.out 0; have hfz39_1 := blk_frozen BK245.out 1; have hfz39_2 := blk_frozen BK245.out 2; have hfz39_3 := blk_frozen BK245.out 3; have hnb40 := NB236_232.out; have hnc40 := NB232_236.out; have hcz41_0 : w36.cell? ⟨gb236, 0, none⟩ = some (.string x237000_2) := (blk_cell BK236.out 0).trans rfl; have hcz41_1 : w36.cell? ⟨gb236, 1, none⟩ = some (.string x237001_2) := (blk_cell BK236.out 1).trans rfl; have hcz41_2 : w36.cell? ⟨gb236, 2, none⟩ = some (.int .i64 x237002_2) := (blk_cell BK236.out 2).trans rfl; have hcz41_3 : w36.cell? ⟨gb236, 3, none⟩ = some (u237003) := (blk_cell BK236.out 3).trans rfl; have hfz41_0 := blk_frozen BK236.out 0; have hfz41_1 := blk_frozen BK236.out 1; have hfz41_2 := blk_frozen BK236.out 2; have hfz41_3 := blk_frozen BK236.out 3; obtain ⟨Ao42, co42, eo42⟩ := Kd.R_slice HO_237003.out; subst eo42) | ((with_reducible refine gate_callee (f := 12) rfl ?_); refine goesL_ (some 36) rfl rfl Try.func12 (by kernel_rfl) rfl #[.agg #[.string x237000_2, .string x237001_2, .int .i64 x237002_2, .slice Ao42 x237003_2.length co42], .agg #[.string ((rd_T24 y240 x29_2).f0), .string ((rd_T24 y240 x29_2).f1), .int .i64 ((rd_T24 y240 x29_2).f2), .slice A244_3 ((rd_T24 y240 x29_2).f3).length c244_3]] rfl (by (try simp only [List.map_toArray, List.map_cons, List.map_nil]); first | done | rfl | (simp only [List.length_drop, List.length_take]; rfl)) ?_; (with_reducible refine (chain_Compose.calls k2 x237000_2 x237001_2 x237002_2 _ _ x237003_2 ((rd_T24 y240 x29_2).f0) ((rd_T24 y240 x29_2).f1) ((rd_T24 y240 x29_2).f2) _ _ ((rd_T24 y240 x29_2).f3) t246 t247 t248 t249 t252 _ ?side1 ?side2 ?side3 ?side4 A24.out).mono ?_); (case side1 => refine (Kd.R_reads' (e := 54) (base := w.heap.size) (ok := fun k_ => True) (n := x237003_2.length) (c := co42) ?_).2.2; exact (by (with_reducible repeat (first | apply Kd.R_alloc | apply Kd.R_drewN | apply Kd.R_drew)); exact (Kd.R_mono (Kd.R_far (p := ⟨gb245, 3, none⟩) (Kd.R_far (p := ⟨gb245, 2, none⟩) (Kd.R_far (p := ⟨gb245, 1, none⟩) (Kd.R_far (p := ⟨gb245, 0, none⟩) (Kd.R_types HO_237003.out BK245.out (by decide)) (fun _ hk => hk.2) (.string ((rd_T24 y240 x29_2).f0))) (fun _ hk => hk.2) (.string ((rd_T24 y240 x29_2).f1))) (fun _ hk => hk.2) (.int .i64 ((rd_T24 y240 x29_2).f2))) (fun _ hk => hk.2) (.slice A244_3 ((rd_T24 y240 x29_2).f3).length c244_3)) (fun _ h_ => h_.1)))); (case side2 => exact (Kd.R_reads' HO_237003.out).2.1); (case side3 => exact Kd.C_below HR244_3.out (by repeat (first | (with_reducible first | exact HB.out | apply below_alloc | apply pw_below_drewN | apply below_drew1 | refine below_set ?_ GE232.out | refine below_set ?_ GE236.out | refine below_set ?_ GE245.out) | exact HB.out))); (case side4 => exact HC244_3.out); rintro e w43 ⟨v250, rfl, ho0, hb⟩; refine ⟨_, rfl, ?_⟩; have n0_ := Aside0.mk (Kd.R_elder' (by (with_reducible repeat (first | apply Kd.R_alloc | apply Kd.R_drewN | apply Kd.R_drew)); exact (Kd.R_mono (Kd.R_far (p := ⟨gb245, 3, none⟩) (Kd.R_far (p := ⟨gb245, 2, none⟩) (Kd.R_far (p := ⟨gb245, 1, none⟩) (Kd.R_far (p := ⟨gb245, 0, none⟩) (Kd.R_types HO_237003.out BK245.out (by decide)) (fun _ hk => hk.2) (.string ((rd_T24 y240 x29_2).f0))) (fun _ hk => hk.2) (.string ((rd_T24 y240 x29_2).f1))) (fun _ hk => hk.2) (.int .i64 ((rd_T24 y240 x29_2).f2))) (fun _ hk => hk.2) (.slice A244_3 ((rd_T24 y240 x29_2).f3).length c244_3)) (fun _ h_ => h_.1))) (Kd.R_base ho0) hb); have n1_ := Aside0.mk (Kd.R_lower (Kd.R_new' ho0 (Kd.R_lt (by (with_reducible repeat (first | apply Kd.R_alloc | apply Kd.R_drewN | apply Kd.R_drew)); exact (Kd.R_mono (Kd.R_far (p := ⟨gb245, 3, none⟩) (Kd.R_far (p := ⟨gb245, 2, none⟩) (Kd.R_far (p := ⟨gb245, 1, none⟩) (Kd.R_far (p := ⟨gb245, 0, none⟩) (Kd.R_types HO_237003.out BK245.out (by decide)) (fun _ hk => hk.2) (.string ((rd_T24 y240 x29_2).f0))) (fun _ hk => hk.2) (.string ((rd_T24 y240 x29_2).f1))) (fun _ hk => hk.2) (.int .i64 ((rd_T24 y240 x29_2).f2))) (fun _ hk => hk.2) (.slice A244_3 ((rd_T24 y240 x29_2).f3).length c244_3)) (fun _ h_ => h_.1))))) (below_size (by repeat (first | (with_reducible first | exact HB.out | apply below_alloc | apply pw_below_drewN | apply below_drew1 | refine below_set ?_ GE232.out | refine below_set ?_ GE236.out | refine below_set ?_ GE245.out) | exact HB.out)))); have n2_ := Aside0.mk (blk_below (g := gb232) (o := .cells #[.string x233000_2, .string x233001_2, .int .i64 x233002_2, .slice none 0 0] 24 (0, 0)) (by (with_reducible repeat (first | refine blk_drewN ?_ _ | refine blk_drew ?_ | refine blk_alloc ?_ _)); refine blk_far ?_ NB232_245.out _; (with_reducible repeat (first | refine blk_drewN ?_ _ | refine blk_drew ?_ | refine blk_alloc ?_ _)); refine blk_far ?_ NB232_245.out _; (with_reducible repeat (first | refine blk_drewN ?_ _ | refine blk_drew ?_ | refine blk_alloc ?_ _)); refine blk_far ?_ NB232_245.out _; (with_reducible repeat (first | refine blk_drewN ?_ _ | refine blk_drew ?_ | refine blk_alloc ?_ _)); refine blk_far ?_ NB232_245.out _; (with_reducible repeat (first | refine blk_drewN ?_ _ | refine blk_drew ?_ | refine blk_alloc ?_ _)); exact BK232.out) hb); have n3_ := Aside0.mk (blk_below (g := gb236) (o := .cells #[.string x237000_2, .string x237001_2, .int .i64 x237002_2, .slice Ao42 x237003_2.length co42] 24 (0, 0)) (by (with_reducible repeat (first | refine blk_drewN ?_ _ | refine blk_drew ?_ | refine blk_alloc ?_ _)); refine blk_far ?_ NB236_245.out _; (with_reducible repeat (first | refine blk_drewN ?_ _ | refine blk_drew ?_ | refine blk_alloc ?_ _)); refine blk_far ?_ NB236_245.out _; (with_reducible repeat (first | refine blk_drewN ?_ _ | refine blk_drew ?_ | refine blk_alloc ?_ _)); refine blk_far ?_ NB236_245.out _; (with_reducible repeat (first | refine blk_drewN ?_ _ | refine blk_drew ?_ | refine blk_alloc ?_ _)); refine blk_far ?_ NB236_245.out _; (with_reducible repeat (first | refine blk_drewN ?_ _ | refine blk_drew ?_ | refine blk_alloc ?_ _)); exact BK236.out) hb); have n4_ := Aside0.mk (blk_below (g := gb245) (o := .cells #[.string ((rd_T24 y240 x29_2).f0), .string ((rd_T24 y240 x29_2).f1), .int .i64 ((rd_T24 y240 x29_2).f2), .slice A244_3 ((rd_T24 y240 x29_2).f3).length c244_3] 24 (0, 0)) (by (with_reducible repeat (first | refine blk_drewN ?_ _ | refine blk_drew ?_ | refine blk_alloc ?_ _)); refine blk_put (cs := #[.string ((rd_T24 y240 x29_2).f0), .string ((rd_T24 y240 x29_2).f1), .int .i64 ((rd_T24 y240 x29_2).f2), .slice none 0 0]) ?_ 3 _ rfl; (with_reducible repeat (first | refine blk_drewN ?_ _ | refine blk_drew ?_ | refine blk_alloc ?_ _)); refine blk_put (cs := #[.string ((rd_T24 y240 x29_2).f0), .string ((rd_T24 y240 x29_2).f1), .int .i64 0, .slice none 0 0]) ?_ 2 _ rfl; (with_reducible repeat (first | refine blk_drewN ?_ _ | refine blk_drew ?_ | refine blk_alloc ?_ _)); refine blk_put (cs := #[.string ((rd_T24 y240 x29_2).f0), .string (⟨#[]⟩ : ByteArray), .int .i64 0, .slice none 0 0]) ?_ 1 _ rfl; (with_reducible repeat (first | refine blk_drewN ?_ _ | refine blk_drew ?_ | refine blk_alloc ?_ _)); refine blk_put (cs := #[.string (⟨#[]⟩ : ByteArray), .string (⟨#[]⟩ : ByteArray), .int .i64 0, .slice none 0 0]) ?_ 0 _ rfl; (with_reducible repeat (first | refine blk_drewN ?_ _ | refine blk_drew ?_ | refine blk_alloc ?_ _)); exact BK245.out) hb); have n5_ := Aside0.mk (below_step (by repeat (first | (with_reducible first | exact HB.out | apply below_alloc | apply pw_below_drewN | apply below_drew1 | refine below_set ?_ GE232.out | refine below_set ?_ GE236.out | refine below_set ?_ GE245.out) | exact HB.out)) hb); clear HO_237003; clear BK232; clear BK236; clear BK245; clear HB; have HO_237003 := n0_; have HO251 := n1_; have BK232 := n2_; have BK236 := n3_; have BK245 := n4_; have HB := n5_; clear n0_ n1_ n2_ n3_ n4_ n5_; (try clear hb); (try clear hb2); (try clear hk); (try clear hi); (try clear ho0); have hcz44_0 : w43.cell? ⟨gb236, 0, none⟩ = some (.string x237000_2) := (blk_cell BK236.out 0).trans rfl; have hcz44_1 : w43.cell? ⟨gb236, 1, none⟩ = some (.string x237001_2) := (blk_cell BK236.out 1).trans rfl; have hcz44_2 : w43.cell? ⟨gb236, 2, none⟩ = some (.int .i64 x237002_2) := (blk_cell BK236.out 2).trans rfl; have hcz44_3 : w43.cell? ⟨gb236, 3, none⟩ = some (.slice Ao42 x237003_2.length co42) := (blk_cell BK236.out 3).trans rfl; have hfz44_0 := blk_frozen BK236.out 0; have hfz44_1 := blk_frozen BK236.out 1; have hfz44_2 := blk_frozen BK236.out 2; have hfz44_3 := blk_frozen BK236.out 3; obtain ⟨Ao45, co45, eo45⟩ := Kd.R_slice HO251.out; subst eo45; have hcz46_0 : w43.cell? ⟨gb232, 0, none⟩ = some (.string x233000_2) := (blk_cell BK232.out 0).trans rfl; have hcz46_1 : w43.cell? ⟨gb232, 1, none⟩ = some (.string x233001_2) := (blk_cell BK232.out 1).trans rfl; have hcz46_2 : w43.cell? ⟨gb232, 2, none⟩ = some (.int .i64 x233002_2) := (blk_cell BK232.out 2).trans rfl; have hcz46_3 : w43.cell? ⟨gb232, 3, none⟩ = some (.slice none 0 0) := (blk_cell BK232.out 3).trans rfl; have hfz46_0 := blk_frozen BK232.out 0; have hfz46_1 := blk_frozen BK232.out 1; have hfz46_2 := blk_frozen BK232.out 2; have hfz46_3 := blk_frozen BK232.out 3))
                        refine bodyPost_ret (results_ct rfl _ _ gb232 24 #[.string (⟨#[]⟩ : ByteArray), .string (⟨#[]⟩ : ByteArray), .int .i64 0, .slice none 0 0] (0, 0) _ rfl (by (with_reducible repeat (first | refine blk_drewN ?_ _ | refine blk_drew ?_ | refine blk_alloc ?_ _)); refine blk_put (cs := #[.string (⟨#[]⟩ : ByteArray), .string (⟨#[]⟩ : ByteArray), .int .i64 0, .slice none 0 0]) ?_ 3 _ rfl; (with_reducible repeat (first | refine blk_drewN ?_ _ | refine blk_drew ?_ | refine blk_alloc ?_ _)); refine blk_put (cs := #[.string (⟨#[]⟩ : ByteArray), .string (⟨#[]⟩ : ByteArray), .int .i64 x233002_2, .slice none 0 0]) ?_ 2 _ rfl; (with_reducible repeat (first | refine blk_drewN ?_ _ | refine blk_drew ?_ | refine blk_alloc ?_ _)); refine blk_put (cs := #[.string (⟨#[]⟩ : ByteArray), .string x233001_2, .int .i64 x233002_2, .slice none 0 0]) ?_ 1 _ rfl; (with_reducible repeat (first | refine blk_drewN ?_ _ | refine blk_drew ?_ | refine blk_alloc ?_ _)); refine blk_put (cs := #[.string x233000_2, .string x233001_2, .int .i64 x233002_2, .slice none 0 0]) ?_ 0 _ rfl; (with_reducible repeat (first | refine blk_drewN ?_ _ | refine blk_drew ?_ | refine blk_alloc ?_ _)); refine blk_far ?_ NB232_236.out _; (with_reducible repeat (first | refine blk_drewN ?_ _ | refine blk_drew ?_ | refine blk_alloc ?_ _)); refine blk_far ?_ NB232_236.out _; (with_reducible repeat (first | refine blk_drewN ?_ _ | refine blk_drew ?_ | refine blk_alloc ?_ _)); refine blk_far ?_ NB232_236.out _; (with_reducible repeat (first | refine blk_drewN ?_ _ | refine blk_drew ?_ | refine blk_alloc ?_ _)); refine blk_far ?_ NB232_236.out _; (with_reducible repeat (first | refine blk_drewN ?_ _ | refine blk_drew ?_ | refine blk_alloc ?_ _)); exact BK232.out) Try.underlying24 rfl (by kernel_rfl)) rfl ?_
                        exact ⟨_, by first | rfl | (simp [errW_none, errW_some] <;> rfl) | (simp [*, errW_none, errW_some] <;> rfl), by first | exact Kd.R_nil _ _ _ _ _ | exact Kd.N_nil _ _ _ _ _ | exact Kd.V_nil _ _ _ _ _ | exact Kd.Q_nil _ _ _ _ _ | exact Kd.S_nil _ _ _ _ _, by repeat (first | (with_reducible first | exact HB.out | apply below_alloc | apply pw_below_drewN | apply below_drew1 | refine below_set ?_ GE232.out | refine below_set ?_ GE236.out | refine below_set ?_ GE245.out) | exact HB.out)⟩
                    · rw [if_neg c23] at H
                      exact absurd H (by simp)
                  · rw [if_neg c22] at H
                    exact absurd H (by simp)
                · rw [if_neg c21] at H
                  have c21b0 : decide (x29_2 < (y240.length : Int)) = false := decide_eq_false c21
                  clear c21
                  simp only [Option.some.injEq, Prod.mk.injEq] at H
                  obtain ⟨rfl, rfl, rfl, rfl, rfl⟩ := H
                  have hnb47 := NB236_232.out
                  have hnc47 := NB232_236.out
                  have hcz48_0 : wr.cell? ⟨gb236, 0, none⟩ = some (.string x237000_2) := (blk_cell BK236.out 0).trans rfl
                  have hcz48_1 : wr.cell? ⟨gb236, 1, none⟩ = some (.string x237001_2) := (blk_cell BK236.out 1).trans rfl
                  have hcz48_2 : wr.cell? ⟨gb236, 2, none⟩ = some (.int .i64 x237002_2) := (blk_cell BK236.out 2).trans rfl
                  have hcz48_3 : wr.cell? ⟨gb236, 3, none⟩ = some (u237003) := (blk_cell BK236.out 3).trans rfl
                  have hfz48_0 := blk_frozen BK236.out 0
                  have hfz48_1 := blk_frozen BK236.out 1
                  have hfz48_2 := blk_frozen BK236.out 2
                  have hfz48_3 := blk_frozen BK236.out 3
                  have hcz49_0 : wr.cell? ⟨gb232, 0, none⟩ = some (.string x233000_2) := (blk_cell BK232.out 0).trans rfl
                  have hcz49_1 : wr.cell? ⟨gb232, 1, none⟩ = some (.string x233001_2) := (blk_cell BK232.out 1).trans rfl
                  have hcz49_2 : wr.cell? ⟨gb232, 2, none⟩ = some (.int .i64 x233002_2) := (blk_cell BK232.out 2).trans rfl
                  have hcz49_3 : wr.cell? ⟨gb232, 3, none⟩ = some (.slice none 0 0) := (blk_cell BK232.out 3).trans rfl
                  have hfz49_0 := blk_frozen BK232.out 0
                  have hfz49_1 := blk_frozen BK232.out 1
                  have hfz49_2 := blk_frozen BK232.out 2
                  have hfz49_3 := blk_frozen BK232.out 3
                  obtain ⟨Ao50, co50, eo50⟩ := Kd.R_slice HO_237003.out
                  subst eo50
                  go_wp2
                  refine bodyPost_ret (results_ct rfl _ _ gb232 24 #[.string x237000_2, .string x237001_2, .int .i64 x237002_2, .slice Ao50 x237003_2.length co50] (0, 0) _ rfl (by (with_reducible repeat (first | refine blk_drewN ?_ _ | refine blk_drew ?_ | refine blk_alloc ?_ _)); refine blk_put (cs := #[.string x237000_2, .string x237001_2, .int .i64 x237002_2, .slice none 0 0]) ?_ 3 _ rfl; (with_reducible repeat (first | refine blk_drewN ?_ _ | refine blk_drew ?_ | refine blk_alloc ?_ _)); refine blk_put (cs := #[.string x237000_2, .string x237001_2, .int .i64 x233002_2, .slice none 0 0]) ?_ 2 _ rfl; (with_reducible repeat (first | refine blk_drewN ?_ _ | refine blk_drew ?_ | refine blk_alloc ?_ _)); refine blk_put (cs := #[.string x237000_2, .string x233001_2, .int .i64 x233002_2, .slice none 0 0]) ?_ 1 _ rfl; (with_reducible repeat (first | refine blk_drewN ?_ _ | refine blk_drew ?_ | refine blk_alloc ?_ _)); refine blk_put (cs := #[.string x233000_2, .string x233001_2, .int .i64 x233002_2, .slice none 0 0]) ?_ 0 _ rfl; (with_reducible repeat (first | refine blk_drewN ?_ _ | refine blk_drew ?_ | refine blk_alloc ?_ _)); exact BK232.out) Try.underlying24 rfl (by kernel_rfl)) rfl ?_
                  exact ⟨_, by first | rfl | (simp [errW_none, errW_some] <;> rfl) | (simp [*, errW_none, errW_some] <;> rfl), by (with_reducible repeat (first | apply Kd.R_alloc | apply Kd.R_drewN | apply Kd.R_drew)); exact Kd.R_mono (Kd.R_far (p := ⟨gb232, 3, none⟩) (Kd.R_far (p := ⟨gb232, 2, none⟩) (Kd.R_far (p := ⟨gb232, 1, none⟩) (Kd.R_far (p := ⟨gb232, 0, none⟩) (Kd.R_types HO_237003.out BK232.out (by decide)) (fun _ hk => hk.2) (.string x237000_2)) (fun _ hk => hk.2) (.string x237001_2)) (fun _ hk => hk.2) (.int .i64 x237002_2)) (fun _ hk => hk.2) (.slice Ao50 x237003_2.length co50)) (fun _ hk => trivial), by repeat (first | (with_reducible first | exact HB.out | apply below_alloc | apply pw_below_drewN | apply below_drew1 | refine below_set ?_ GE232.out | refine below_set ?_ GE236.out) | exact HB.out)⟩
          · rw [if_neg c12] at H
            exact absurd H (by simp)
        · rw [if_neg c10] at H
          exact absurd H (by simp)

end Go.Proofs.Ytjgelmfkoefclaa.PAll

-- from YtjgelmfkoefclaaRowsLaw
/- Deltas between texts: to run them one behind the other, and to run what they come to, is one. -/
namespace Go.Proofs.Ytjgelmfkoefclaa.Pure
open Go.RowKit Go.Proofs.YtjgelmfkoefclaaW.PrintWords Go.Proofs.YtjgelmfkoefclaaW.PrintLast Go.Proofs.YtjgelmfkoefclaaW.PrintMore Go.Proofs.Ytjgelmfkoefclaa.PAll
set_option linter.unusedVariables false
set_option linter.unusedSimpArgs false

theorem DeltaOf.good {bk : List ByteArray} {s t : ByteArray} {d : S24} (h : DeltaOf bk s t d) (ht : t.size ≤ 1000000) : GoodD d := by
  have hL := h.lay
  have e := sumN_ge d.f3 hL.all
  have e2 := hL.2
  refine ⟨(okB_fit hL.1).in, by omega, fun x hx => ?_⟩
  have h1 := hL.all x hx
  unfold stepOk at h1
  unfold maxLen
  split at h1 <;> omega
def ev (B : List UInt8) (b : S59) : UInt8 := if b.f0 = true then UInt8.ofNat b.f2.toNat else B.getD b.f1.toNat 0
theorem told_ev (B : List UInt8) (s : ByteArray) : (told s).map (ev B) = L8 s := by
  apply List.ext_getElem
  · rw [List.length_map, told_len, L8_len]
  · intro i h1 h2
    have h3 : i < s.size := by rw [L8_len] at h2; exact h2
    rw [List.getElem_map, told_get, L8_get s i h3]
    unfold ev
    rw [if_pos rfl]
    have e := bt_at s (i : Nat) (by rw [Int.toNat_natCast]; exact h3)
    show UInt8.ofNat (bt s (i : Nat)).toNat = _
    rw [← e]
    simp
theorem froms_ev (B : List UInt8) (p n : Nat) (h : p + n ≤ B.length) (hB : B.length ≤ 2000000) : (froms (p : Nat) n).map (ev B) = (B.drop p).take n := by
  apply List.ext_getElem
  · rw [List.length_map, froms_len, List.length_take, List.length_drop]; omega
  · intro i h1 h2
    have h3 : i < n := by rw [List.length_map, froms_len] at h1; exact h1
    rw [List.getElem_map, froms_get, List.getElem_take, List.getElem_drop]
    unfold ev
    rw [if_neg (by simp)]
    show B.getD (wrap64 ((p : Nat) + (i : Nat))).toNat 0 = _
    rw [wrap_in (by unfold in64; omega), show (((p : Nat) : Int) + (i : Nat)).toNat = p + i by omega, List.getD_eq_getElem?_getD, List.getElem?_eq_getElem (by omega)]
    rfl
theorem run_ev (B : List UInt8) (hB : B.length ≤ 524288) (l : List S54) (h : ∀ x ∈ l, okB B.length x) : runL B l = (bytesV l).map (ev B) := by
  induction l with
  | nil => rfl
  | cons x r ih =>
    rw [runL_cons, bytesV_cons, List.map_append, ih (fun y hy => h y (List.mem_cons_of_mem _ hy))]
    congr 1
    obtain ⟨h1, h2⟩ := h x (List.mem_cons_self ..)
    unfold stepOk at h1
    unfold pieceL bytes1
    by_cases h0 : x.f2.size = 0
    · rw [if_neg (fun hh => hh h0), L8_nil h0, List.append_nil]
      rw [if_pos h0] at h1
      have h3 := h2 h0
      obtain ⟨p, hp⟩ := Int.eq_ofNat_of_zero_le h1.2.1
      rw [hp, Int.toNat_natCast]
      exact (froms_ev B p _ (by omega) (by omega)).symm
    · rw [if_pos h0]
      rw [if_neg h0] at h1
      rw [told_ev, h1.2.1]
      simp
theorem cmp_ev (B : List UInt8) (X Y : List S59) (h : ∀ b ∈ Y, b.f0 = true ∨ (0 ≤ b.f1 ∧ b.f1 < X.length)) : (cmp X Y).map (ev B) = Y.map (ev (X.map (ev B))) := by
  unfold cmp
  rw [List.map_map]
  refine List.map_congr_left (fun b hb => ?_)
  show ev B (if b.f0 = true then b else rd_T59 X b.f1) = _
  by_cases ht : b.f0 = true
  · rw [if_pos ht]
    unfold ev
    rw [if_pos ht, if_pos ht]
  · rw [if_neg ht]
    rcases h b hb with h | ⟨h1, h2⟩
    · exact absurd h ht
    · obtain ⟨n, hn⟩ := Int.eq_ofNat_of_zero_le h1
      rw [hn] at h2
      rw [hn, rd70_nat X n (by omega)]
      conv => rhs; unfold ev
      rw [if_neg ht, hn, Int.toNat_natCast, List.getD_eq_getElem?_getD, List.getElem?_map, List.getElem?_eq_getElem (by omega)]
      rfl
theorem delta_comp {bk : List ByteArray} {s m t : ByteArray} {d e : S24} (h0 : DeltaOf bk s m d) (h1 : DeltaOf bk m t e) (hs : s.size ≤ 524288) (hm : m.size ≤ 524288) (ht : t.size ≤ 524288) : DeltaOf bk s t ⟨d.f0, e.f1, e.f2, compL d.f3 e.f3⟩ := by
  have L0 := h0.lay
  have L1 := h1.lay
  obtain ⟨c1, c2⟩ := lay_compL hs hm ht L0 L1
  obtain ⟨a1, a2, a3, a4, a5, a6, a7⟩ := h0
  obtain ⟨b1, b2, b3, b4, b5, b6, b7⟩ := h1
  refine ⟨a1, b2, a3, b4, b5, c1.1, ?_⟩
  have e0 := run_ev (L8 s) (by rw [L8_len]; exact hs) d.f3 (by rw [L8_len]; exact a6)
  have e1 := run_ev (L8 m) (by rw [L8_len]; exact hm) e.f3 (by rw [L8_len]; exact b6)
  rw [run_ev (L8 s) (by rw [L8_len]; exact hs) (compL d.f3 e.f3) (by rw [L8_len]; exact c1.1), c2, cmp_ev _ _ _ (by rw [L0.len]; exact L1.in hm), ← e0, a7, ← e1, b7]
theorem delta_tidy {bk : List ByteArray} {s t : ByteArray} {d : S24} (h : DeltaOf bk s t d) (hs : s.size ≤ 524288) (ht : t.size ≤ 524288) : DeltaOf bk s t ⟨d.f0, d.f1, d.f2, tidyV d.f3⟩ := by
  obtain ⟨c1, c2, _⟩ := lay_tidy hs ht h.lay
  obtain ⟨a1, a2, a3, a4, a5, a6, a7⟩ := h
  refine ⟨a1, a2, a3, a4, a5, c1.1, ?_⟩
  rw [run_ev (L8 s) (by rw [L8_len]; exact hs) (tidyV d.f3) (by rw [L8_len]; exact c1.1), c2, ← run_ev (L8 s) (by rw [L8_len]; exact hs) d.f3 (by rw [L8_len]; exact a6)]
  exact a7
theorem rdDelta (l : List S24) (i : Nat) (h : i < l.length) : rd_T24 l (i : Int) = l[i] := by
  unfold rd_T24
  rw [Int.toNat_natCast, List.getD_eq_getElem?_getD, List.getElem?_eq_getElem h]; rfl
theorem fold_path (bk : List ByteArray) (s t : ByteArray) (hs : s.size ≤ 524288) (ht : t.size ≤ 524288) (l : List S24) (hl : l.length ≤ 1000) (n : Nat) : ∀ (k i : Nat) (m : ByteArray) (a0 a1 : ByteArray) (a2 : Int) (l0 : List S54), l.length - i = n → i ≤ l.length → m.size ≤ 524288 → DeltaOf bk s m ⟨a0, a1, a2, l0⟩ → PathD bk m (l.drop i) t → 2000000 + n < k →
    ∃ st, chain_Fold.l0 k l (l.length : Int) (i : Nat) a0 a1 a2 l0 = some (markV bk s, markV bk t, (t.size : Int), st, 0) ∧ DeltaOf bk s t ⟨markV bk s, markV bk t, (t.size : Int), st⟩ := by
  induction n with
  | zero =>
    intro k i m a0 a1 a2 l0 hd hi hm h0 hp hk
    obtain ⟨k, rfl⟩ : ∃ m, k = m + 1 := ⟨k - 1, by omega⟩
    rw [List.drop_of_length_le (by omega)] at hp
    obtain rfl : m = t := hp
    have e1 : a0 = markV bk s := h0.1
    have e2 : a1 = markV bk m := h0.2.1
    have e3 : a2 = (m.size : Nat) := h0.2.2.2.2.1
    rw [chain_Fold.l0, if_neg (by omega)]
    rw [e1, e2, e3] at h0 ⊢
    exact ⟨l0, rfl, h0⟩
  | succ n ih =>
    intro k i m a0 a1 a2 l0 hd hi hm h0 hp hk
    obtain ⟨k, rfl⟩ : ∃ m, k = m + 1 := ⟨k - 1, by omega⟩
    have hil : i < l.length := by omega
    rw [List.drop_eq_getElem_cons hil] at hp
    obtain ⟨u, hu, hd1, hp1⟩ := hp
    rw [chain_Fold.l0, if_pos (by omega), if_pos (by omega), if_pos (by omega), rdDelta l i hil]
    obtain ⟨y, hye⟩ : ∃ y, l[i] = y := ⟨_, rfl⟩
    rw [hye] at hd1 ⊢
    have e2 : a1 = markV bk m := h0.2.1
    have e3 : a2 = (m.size : Nat) := h0.2.2.2.2.1
    have f1 : y.f0 = markV bk m := hd1.1
    have f2 : y.f1 = markV bk u := hd1.2.1
    have f3 : y.f2 = (u.size : Nat) := hd1.2.2.2.2.1
    have e1 : a0 = markV bk s := h0.1
    have hc := lay_compK k (by omega) hs hm hu h0.lay hd1.lay (a := a0) (b := markV bk m) (c := markV bk u) (by rw [e1]; exact markV_size _ _) (markV_size _ _) (markV_size _ _)
    have hn := delta_comp h0 hd1 hs hm hu
    rw [e2, e3, f1, f2, f3, hc, Option.bind_some, if_pos rfl, show wrap64 ((i : Int) + 1) = ((i + 1 : Nat) : Int) from wrap_nat i 1 (by omega)]
    rw [f2, f3] at hn
    exact ih k (i + 1) u a0 (markV bk u) (u.size : Nat) (compL l0 y.f3) (by omega) (by omega) hu hn hp1 (by omega)
theorem fold_row (bk : List ByteArray) (s t : ByteArray) (hs : s.size ≤ 524288) (ht : t.size ≤ 524288) (l : List S24) (hl : l.length ≤ 1000) (h0 : 0 < l.length) (hp : PathD bk s l t) :
    ∃ st, chain_Fold.f 3000000 l = some (markV bk s, markV bk t, (t.size : Int), st, 0) ∧ DeltaOf bk s t ⟨markV bk s, markV bk t, (t.size : Int), st⟩ := by
  cases l with
  | nil => simp at h0
  | cons y r =>
    obtain ⟨m, hm, hd, hp⟩ := hp
    have hr0 : rd_T24 (y :: r) 0 = y := rdDelta (y :: r) 0 (by simp)
    have hL := hd.lay
    have e0 := len_le_sum y.f3 (fun z hz => (stepOk_len (hL.all z hz)).1)
    have e1 := hL.2
    have e2 := text_le_sum y.f3
    have hin : In64 y.f3 := (okB_fit hL.1).in
    unfold chain_Fold.f
    rw [if_neg (by rw [List.length_cons]; omega), if_pos (by rw [List.length_cons]; omega), hr0, Right_f y.f0 y.f1 y.f2 y.f3 hin (by omega) 3000000 (by omega), Option.bind_some]
    have hb : rightV y.f0 y.f1 y.f2 y.f3 = true := decide_eq_true (Go.Proofs.Ytjgelmfkoefclaa.Pure.DeltaOf.right hd hm)
    rw [hb, Bool.not_true]
    obtain ⟨K, hK⟩ : ∃ K, 3000000 = K + 1 := ⟨2999999, rfl⟩
    have hK2 : K = 2999999 := by omega
    rw [hK, chain_Fold.j0, if_neg (by decide), if_pos (by rw [List.length_cons]; omega), hr0]
    have htd : TidyOk y.f3 := ⟨by omega, by omega⟩
    unfold chain_Tidy.f
    rw [if_pos htd, Option.bind_some, if_pos (by rw [List.length_cons]; omega), Option.bind_some]
    have := fold_path bk s t hs ht r (by rw [List.length_cons] at hl; omega) r.length K 0 m y.f0 y.f1 y.f2 (tidyV y.f3) (by omega) (by omega) hm (delta_tidy hd hs hm) (by rw [List.drop_zero]; exact hp) (by rw [List.length_cons] at hl; omega)
    exact this
theorem rows_path {bk : List ByteArray} {l : List ByteArray} {ds : List S24} {s0 sl : ByteArray} (hl : ds.length = l.length - 1) (hs : ∀ x ∈ l, x.size ≤ 1000) (hD : ∀ i s t d, l[i]? = some s → l[i + 1]? = some t → ds[i]? = some d → DeltaOf bk s t d) (h2 : 2 ≤ l.length) (h0 : l[0]? = some s0) (h3 : l[l.length - 1]? = some sl) : PathD bk s0 ds sl := by
  have := path_of hl hs hD (l.length - 1) 0 s0 sl h0 (by rw [Nat.zero_add]; exact h3)
  rwa [List.drop_zero, List.take_of_length_le (by omega)] at this
theorem rows_run {bk bk' : List ByteArray} {ds : List S24} {s0 sl s' : ByteArray} {n er : Int} (hp : PathD bk s0 ds sl) (h : ChainR bk bk' s0 ds 0 s' n er) : er = 0 ∧ n = (ds.length : Nat) ∧ s' = sl := by
  have x4 : ChainR bk bk' s0 (ds ++ []) 0 s' n er := by rw [List.append_nil]; exact h
  obtain ⟨bk2, _, _, y3⟩ := chain_path [] ds bk s0 sl 0 hp x4
  obtain ⟨y4, y5, y6, _⟩ := y3
  exact ⟨y6, by rw [y5, Nat.zero_add], y4⟩
end Go.Proofs.Ytjgelmfkoefclaa.Pure

-- from YtjgelmfkoefclaaWalkChainRows
/- Chapter 7: rows of deltas, run and folded. -/
namespace Go.Proofs.Ytjgelmfkoefclaa.chainRows
open Go.RowKit Go.Proofs.YtjgelmfkoefclaaW.PrintWords Go.Proofs.YtjgelmfkoefclaaW.PrintLast Go.Proofs.YtjgelmfkoefclaaW.PrintMore Go.Proofs.Ytjgelmfkoefclaa.PAll Go.Proofs.Ytjgelmfkoefclaa Go.Proofs.Ytjgelmfkoefclaa.Pure
set_option linter.unusedVariables false
set_option linter.unusedSimpArgs false
set_option maxHeartbeats 8000000 in
set_option maxRecDepth 100000 in
theorem walked0 (A0 : Option Addr) (c0 : Nat) (l : List ByteArray) (bl : Int) (w : World) (hc0 : l.length ≤ c0) (hr0 : Kd.C Kd.string w A0 l.length l) (hbl : -9223372036854775808 ≤ bl ∧ bl ≤ 9223372036854775807) :
    Calls Try.prog 9 #[.slice A0 l.length c0, .int .i64 bl] w fun e w' => e = .returned (.bool true) ∧ Below w.heap.size w w' := by
  obtain ⟨r, hr, hr6, hr1⟩ := few_f l
  have HFW := Aside0.mk (barquelaw07_few.calls 20 A0 c0 l r w hr0 hc0 hr)
  have HAW := Aside0.mk (fun wx => barquelaw07_awake.calls 0 true wx (awake07 0))
  have HR1 := Aside0.mk hr1
  clear hr hr0 hr1
  go_enter Try.func9, Try.ntmps9
  go_upto_region 2 with (go_at_call 19; go_loud ((with_reducible refine HFW.out.mono ?_); rintro _ wa ⟨vf, rfl, hrr, hbb⟩; have HRF := Aside0.mk hrr; have HBA := Aside0.mk hbb; obtain ⟨Af, cf, hvf⟩ := Kd.R_slice hrr; subst hvf; clear hrr hbb))
  go_cut [26] (fun v26 wz => ∃ tb : Bool, v26 = .bool tb ∧ wa = wz ∧ Aside0 (tb = false → 2 ≤ r.length ∧ 16 ≤ bl ∧ bl ≤ 1024))
  case first =>
    by_cases b1 : r.length < 2
    · have d1 : decide (r.length < 2) = true := decide_eq_true b1
      have d2 : decide ((r.length : Int) < 2) = true := decide_eq_true (by omega)
      go_wp2_with fail
      go_meet
      case rel => exact ⟨true, rfl, rfl, ⟨fun h => by cases h⟩⟩
    · have d1 : decide (r.length < 2) = false := decide_eq_false b1
      have d2 : decide ((r.length : Int) < 2) = false := decide_eq_false (by omega)
      by_cases b2 : bl < 16
      · have e1 : decide (bl < 16) = true := decide_eq_true b2
        go_wp2_with fail
        go_meet
        case rel => exact ⟨true, rfl, rfl, ⟨fun h => by cases h⟩⟩
      · have e1 : decide (bl < 16) = false := decide_eq_false b2
        by_cases b3 : 1024 < bl
        · have e2 : decide (1024 < bl) = true := decide_eq_true b3
          go_wp2_with fail
          go_meet
          case rel => exact ⟨true, rfl, rfl, ⟨fun h => by cases h⟩⟩
        · have e2 : decide (1024 < bl) = false := decide_eq_false b3
          go_wp2_with fail
          go_meet
          case rel => exact ⟨false, rfl, rfl, ⟨fun _ => ⟨by omega, by omega, by omega⟩⟩⟩
  case rest =>
    obtain ⟨tb, rfl, rfl, HC⟩ := hcut
    cases tb with
    | true =>
      go_wp2_with (go_at_call 11; go_loud ((with_reducible refine (HAW.out _).mono ?_); rintro _ wx ⟨rfl, hbb⟩; have HBX := Aside0.mk (below_step HBA.out hbb); clear hbb))
      go_ret
      exact ⟨rfl, HBX.out⟩
    | false =>
      obtain ⟨k1, k2, k3⟩ := HC.out rfl
      obtain ⟨bn, rfl⟩ := Int.eq_ofNat_of_zero_le (by omega : 0 ≤ bl)
      obtain ⟨q, cq, hvq, _, _, _⟩ := Kd.R_form HRF.out (by omega)
      injection hvq with hvq _ hvc
      subst hvq hvc
      obtain ⟨_, hcl, hCl⟩ := Kd.R_reads' HRF.out
      have HCL := Aside0.mk hCl
      have HCC := Aside0.mk hcl
      clear hcl hCl
      go_upto_region 5 with (go_at_call 20; go_loud ((with_reducible refine (ideal_calls _).mono ?_); rintro _ wb ⟨b, M, rfl, hbk, hb1, hb2, hbb⟩; have HBKB := Aside0.mk hbk; have HBM := Aside0.mk (And.intro hb1 hb2); have HBB := Aside0.mk hbb; clear hbk hb1 hb2 hbb))
      have HCLB := Aside0.mk (Kd.C_below HCL.out HBB.out)
      have HRW := Aside0.mk (row_calls b M [] q _ r bn wb HCLB.out HCC.out HBKB.out (by decide) (by omega) HR1.out (by omega) (by omega))
      go_upto_region 6 with (go_at_call 21; go_loud ((with_reducible refine HRW.out.mono ?_); rintro _ wc ⟨Ad, cd, ds, bk1, rfl, hcd, hCd, hg, hbk, hx, hl1, hdl, hD, _⟩; have HCD := Aside0.mk hCd; have HG1 := Aside0.mk hg; have HBKC := Aside0.mk hbk; have HL1 := Aside0.mk hl1; have HDL := Aside0.mk hdl; have HD := Aside0.mk hD; have HCDC := Aside0.mk hcd; clear hCd hg hbk hx hl1 hdl hD hcd))
      have HS8 := Aside0.mk (C_gbS HCLB.out HBKB.out HG1.out)
      have hL : ∀ i, i < r.length → ∃ x, r[i]? = some x := fun i hi => ⟨_, List.getElem?_eq_getElem hi⟩
      obtain ⟨s0, hs0⟩ := hL 0 (by omega)
      obtain ⟨sl, hsl⟩ := hL (r.length - 1) (by omega)
      have hz0 : s0.size ≤ 1000 := HR1.out _ (List.mem_of_getElem? hs0)
      have hzl : sl.size ≤ 1000 := HR1.out _ (List.mem_of_getElem? hsl)
      have hcell : ∀ (wx : World), Kd.C Kd.string wx (some ⟨q, 0, none⟩) r.length r → ∀ (i : Nat) x, r[i]? = some x → wx.cell? ⟨q, i, none⟩ = some (.string x) := fun wx hC i x hx => by
        obtain ⟨ad, hA, g⟩ := Kd.at_string hC (i : Int) (by omega) (by have := (List.getElem?_eq_some_iff.1 hx).1; omega)
        injection hA with hA
        subst hA
        rw [Int.toNat_natCast, Addr.add_lit, Nat.zero_add] at g
        unfold rdOf at g
        rw [Int.toNat_natCast, List.getD_eq_getElem?_getD, hx] at g
        exact g
      have HCE := Aside0.mk hcell
      have HP := Aside0.mk (rows_path HDL.out HR1.out HD.out (by omega) hs0 hsl)
      obtain ⟨st, hfold, hdelta⟩ := fold_row bk1 s0 sl (by omega) (by omega) ds (by have := HDL.out; omega) (by have := HDL.out; omega) HP.out
      obtain ⟨m0, hm0⟩ : ∃ m0, m0 = markV bk1 s0 := ⟨_, rfl⟩
      obtain ⟨ml, hml⟩ : ∃ ml, ml = markV bk1 sl := ⟨_, rfl⟩
      rw [← hm0, ← hml] at hfold hdelta
      have HFO := Aside0.mk hfold
      have HDE := Aside0.mk hdelta
      have HGS := Aside0.mk (Go.Proofs.Ytjgelmfkoefclaa.Pure.DeltaOf.good hdelta (by omega))
      clear hfold hdelta hm0 hml
      have HGD : Aside0 (∀ d ∈ ds, GoodD d) := ⟨fun d hd => by
        obtain ⟨i, hi, he⟩ := List.mem_iff_getElem.1 hd
        have hle : i + 1 < r.length := by have := HDL.out; omega
        have h3 := HD.out i _ _ _ (List.getElem?_eq_getElem (by omega)) (List.getElem?_eq_getElem hle) (List.getElem?_eq_getElem hi)
        rw [he] at h3
        exact Go.Proofs.Ytjgelmfkoefclaa.Pure.DeltaOf.good h3 (Nat.le_trans (HR1.out _ (List.getElem_mem _)) (by decide))⟩
      have HRUN := Aside0.mk (crun_calls b M bk1 s0 Ad cd ds wc HCD.out HCDC.out HBKC.out (by have := HL1.out; have := HDL.out; rw [List.length_nil] at *; omega) (by have := HDL.out; omega) HGD.out (by omega))
      have HSS := Aside0.mk (And.intro hs0 hsl)
      have hld0 := hcell _ HS8.out 0 s0 hs0
      clear hL hs0 hsl hcell
      go_upto_region 7 with (go_at_call 22; go_loud ((with_reducible refine HRUN.out.mono ?_); rintro _ wd ⟨s', n, er, bk2, rfl, hch, hgd, hbd, hxd, hlb⟩; have HCH := Aside0.mk hch; have HGD2 := Aside0.mk hgd; have HBD := Aside0.mk hbd; have HXD := Aside0.mk hxd; have HLB := Aside0.mk hlb; clear hch hgd hbd hxd hlb))
      obtain ⟨f1, f2, f3⟩ := rows_run HP.out HCH.out
      have hnn : n = (r.length : Int) - 1 := by have := HDL.out; omega
      subst f1 f3 hnn
      clear f2 hld0
      have HSD := Aside0.mk (C_gbS HS8.out HBKC.out HGD2.out)
      have HFD := Aside0.mk (chain_Fold.calls 3000000 Ad cd ds m0 ml (s'.size : Int) st 0 wd (C_gb24 HCD.out HBKC.out HGD2.out) HCDC.out HFO.out)
      go_cut [10, 11] (fun v6 v7 wz => ∃ (g : Nat) (A3 : Option Addr) (c3 : Nat), v6 = .pointer (some ⟨g, 0, none⟩) ∧ v7 = .int .i64 0 ∧ Aside0 (Dt wz g 0 1 2 3 m0 ml (s'.size : Int) A3 c3 st) ∧ Aside0 (Below wd.heap.size wd wz))
      case first =>
        go_wp2_with (go_at_call 15; go_loud ((with_reducible refine HFD.out.mono ?_); rintro _ wa ⟨v3, rfl, hr, hbb⟩; have HRA := Aside0.mk hr; have HBA2 := Aside0.mk hbb; obtain ⟨A3, c3, hv3⟩ := Kd.R_slice hr; subst hv3; clear hr hbb))
        go_meet
        case rel =>
          obtain ⟨_, k1, k2⟩ := Kd.R_reads' HRA.out
          exact ⟨wa.heap.size, A3, c3, rfl, rfl, ⟨Dt.blk (blk_new wa _) k1 (Kd.C_below k2 (below_alloc (Below.refl _ _) _))⟩, ⟨below_step HBA2.out (below_alloc (Below.refl _ _) _)⟩⟩
      case rest =>
      obtain ⟨g, A3, c3, rfl, rfl, HZ, HBZ⟩ := hcut
      obtain ⟨⟨x0, x1, x2, x3⟩, xl, xc⟩ := HZ.out
      have HSZ := Aside0.mk (Kd.C_below HSD.out HBZ.out)
      have HBDZ := Aside0.mk (HBD.out.below HBZ.out)
      have HW : Aside0 (w.grownBy wc (some M)) := ⟨gb_trans (gb_trans (gb_trans (gb_trans (gb_of HBA.out (some M)) (gb_of HBB.out (some M))) HG1.out) HGD2.out) (gb_of HBZ.out (some M))⟩
      obtain ⟨e0, e1⟩ := HSS.out
      have g0 := HCE.out _ HSZ.out _ _ e0
      clear e0 e1
      have nx := World.new_ne wc _ x0
      have ny := World.new_ne wc _ g0
      have HXC := Aside0.mk xc
      have HAP := Aside0.mk (fun wx (hx : Below wc.heap.size wc wx) => apply_calls b M bk2 s0 m0 ml (s'.size : Int) A3 c3 st wx (Kd.C_below xc hx) xl HGS.out.1 HGS.out.2.1 (by omega) HGS.out.2.2 (HBDZ.out.below hx) (by have := HLB.out; have := HL1.out; have := HDL.out; rw [List.length_nil] at *; omega))
      clear xc xl
      have b00 : 0 < r.length := by omega
      have b01 : (0 : Int) < (r.length : Int) := by omega
      go_upto_region 8 with fail
      go_region_held3 (fun w' => w'.cell? ⟨q, 0, none⟩ = some (.string s0) ∧ w'.cell? ⟨g, 0, none⟩ = some (.string m0) ∧ w'.cell? ⟨g, 1, none⟩ = some (.string ml) ∧ w'.cell? ⟨g, 2, none⟩ = some (.int .i64 (s'.size : Int)) ∧ w'.cell? ⟨g, 3, none⟩ = some (.slice A3 st.length c3)) (go_keep) (first | (go_at_call 28; ((with_reducible refine (HAP.out _ ?hb).mono ?_); (case hb => exact (below_drew1 (Below.refl _ _))); rintro _ we ⟨s2, er2, bk3, rfl, hap, hge, hbe, hxe, hle⟩; have HAPR := Aside0.mk hap; have HGE := Aside0.mk (gb_trans (gb_of (show Below wc.heap.size wc wc.drew from (below_drew1 (Below.refl _ _))) (some M)) hge); have HXE := Aside0.mk hxe; have x0' := cell_gbM (cell_b x0 (below_drew1 (Below.refl _ _))) (HBDZ.out.below (below_drew1 (Below.refl _ _))) hge; have x1' := cell_gbM (cell_b x1 (below_drew1 (Below.refl _ _))) (HBDZ.out.below (below_drew1 (Below.refl _ _))) hge; have x2' := cell_gbM (cell_b x2 (below_drew1 (Below.refl _ _))) (HBDZ.out.below (below_drew1 (Below.refl _ _))) hge; have x3' := cell_gbM (cell_b x3 (below_drew1 (Below.refl _ _))) (HBDZ.out.below (below_drew1 (Below.refl _ _))) hge; have g0' := cell_gbM (cell_b g0 (below_drew1 (Below.refl _ _))) (HBDZ.out.below (below_drew1 (Below.refl _ _))) hge; clear hap hge hbe hxe hle)))
      obtain ⟨a1, a2⟩ := Go.Proofs.Ytjgelmfkoefclaa.Pure.apply_right (HDE.out.ext HXD.out) HAPR.out HXE.out (by omega)
      subst a1 a2
      have HSE := Aside0.mk (C_gbS HSZ.out HBDZ.out HGE.out)
      obtain ⟨e0, e1⟩ := HSS.out
      have h0 := HCE.out _ HSE.out _ _ e0
      have hl := HCE.out _ HSE.out _ _ e1
      have n1 := World.new_ne we _ h0
      have n2 := World.new_ne we _ hl
      have HWE : Aside0 (Below w.heap.size w we) := ⟨below_gb (gb_trans HW.out HGE.out) (Nat.le_trans HBA.out.size HBM.out.2) (Nat.le_refl _)⟩
      have m1 : (0 : Int) ≤ (r.length : Int) - 1 := by omega
      have m2 : (r.length : Int) - 1 < (r.length : Int) := by omega
      have m3 : ((r.length : Int) - 1).toNat = r.length - 1 := by omega
      clear e0 e1 x0 x1 x2 x3 x0' x1' x2' x3' g0 g0' nx ny
      go_wp2_with (go_at_call 11; go_loud ((with_reducible refine (HAW.out _).mono ?_); rintro _ wx ⟨rfl, hbb⟩; have HBX := Aside0.mk (below_step (by repeat (first | apply pw_below_drewN | apply below_drew1 | exact HWE.out)) hbb); clear hbb))
      go_ret
      exact ⟨rfl, HBX.out⟩
theorem walked (a0 : Option Addr) (c0 : Nat) (z0 : List ByteArray) (a1 : Int) (W : World) (hc0 : z0.length ≤ c0) (hC0 : Kd.C Kd.string W a0 z0.length z0) (hg0 : ∀ y ∈ z0, good9 y) (hs0 : z0.length * 16 ≤ 140737488351232) (w1 : (Lit.int .i64 a1).wf = true) :
    Calls Try.prog 9 #[.slice a0 z0.length c0, .int .i64 a1] W fun e w' => e = .returned (.bool true) ∧ Below W.heap.size W w' :=
  walked0 a0 c0 z0 a1 W hc0 hC0 (bounds_i64 w1)
end Go.Proofs.Ytjgelmfkoefclaa.chainRows

-- from YtjgelmfkoefclaaLawChainRows
/- The law ChainRows of the given program: every call of it answers true, and what it was handed reads behind the call as it did before. No condition. (The row, out of the walk; laid by wip/tools/rows.py.) -/
namespace Go.Proofs.Ytjgelmfkoefclaa.chainRows
open Go.ChangeShapes Go.WideShapes Go.ChangeAt Go.RowKit
open Go.ChangeMaps (open_string shut_string)
open Go.Proofs.YtjgelmfkoefclaaW.PrintWords
open Go.Proofs.YtjgelmfkoefclaaW.PrintLast
open Go.Proofs.YtjgelmfkoefclaaW.PrintMore
open Go.Proofs.Ytjgelmfkoefclaa.PAll
open Go.Proofs.Ytjgelmfkoefclaa
set_option linter.unusedVariables false
set_option linter.unusedSimpArgs false
theorem own : ownKnob Try.prog.godebug = none := by kernel_rfl
theorem laidOut : laidOutB Try.prog = true := by kernel_rfl
set_option maxRecDepth 100000 in
set_option maxHeartbeats 1000000 in
theorem lifted (os : Os) (started : os.Started) (H : Type) (enc : TypeId × Value → H) :
    ReturnsInHanded {} Try.checked os 9 .any (Rows.chainRowsSpec.pre6 enc Try.prog Try.f9 Rows.chainRowsRow.domain false) (Rows.chainRowsSpec.post enc Try.prog Try.f9 false true false false) := by
  refine returnsInHanded_of_change_sized (C := Try.checked) own started (by kernel_rfl) Try.func9
    (ChangeSpec.witness6 (enc := enc) (C := Try.checked) false ⟨#[], #[.slice none 0 0, .int .i64 0], []⟩ 8 (by kernel_rfl) (by kernel_rfl) (by kernel_rfl) (by kernel_rfl)) ?_
  intro W base args ds gs before hval0 hW hcnd hsz0 _
  have hsz : (DataW.weightsEach Try.prog (Try.f9.params.toList ++ Rows.chainRowsSpec.plain.varTypes Try.prog) (ds ++ gs)).all (· ≤ reachBytes) = true := hsz0
  have hval : ∀ (j : Nat) t v, Try.f9.params[j]? = some t → args[j]? = some v → Value.okWide Try.prog W .any base t v := hval0
  have hW' := hW
  obtain ⟨p, q, hA0, hV, rfl, hfz, hnd⟩ := hW
  have hA : DataW.TrodAll enc Try.prog W 0 (fun _ => true) true Try.f9.params.toList args.toList ds p := hA0
  rw [Try.params9] at hA hval hsz
  obtain ⟨v0, vs0, d0, ds0, p0, q0, hargs, rfl, rfl, h0, r0⟩ := trodAll_cons hA
  obtain ⟨v1, vs1, d1, ds1, p1, q1, rfl, rfl, rfl, h1, r1⟩ := trodAll_cons r0
  obtain ⟨rfl, rfl, rfl⟩ := trodAll_nil r1
  obtain rfl : args = #[v0, v1] := by cases args; simp_all
  obtain ⟨rfl, rfl⟩ := trodVars_none hV
  obtain ⟨a0, len0, c0, rfl⟩ := okWide_slice Try.underlying36 (hval 0 36 v0 rfl rfl)
  have k0 := h0
  have lt0 : ∀ x ∈ p0, x.block < W.heap.size := by obtain ⟨m, hm⟩ := k0; exact DataW.trod_lt m _ _ _ hm
  have hs0 := Opens.sized_arg hsz (j := 0) (t := 36) rfl rfl Try.underlying36 (B := 16) (by kernel_rfl) h0
  obtain ⟨z0, rfl, hc0, hC0, hg0⟩ := Opens.opens_arg Try.underlying36 (d := Kd.string) (good := good9) (by kernel_rfl) opens9 h0
  obtain ⟨a1, rfl, rfl, rfl, w1⟩ := open_int Try.underlying3 (hval 1 3 v1 rfl rfl) h1
  clear hA0 hval0 hsz0 hsz
  refine (walked a0 c0 z0 a1 W hc0 hC0 hg0 hs0 w1).mono fun e W' ⟨he, bel⟩ => ?_
  subst he
  exact ⟨_, rfl, _, _, _, [], _, [], hW', trodAll_mk1 (shut_bool Try.underlying4 _), (trodAll_cons_mk (Below.trod laidOut (by kernel_rfl) (of_decide_eq_true (by kernel_rfl)) k0 bel lt0) (trodAll_cons_mk (shut_int Try.underlying3 w1) trodAll_mk0)), rfl, bel.frame _, fun h => by cases h⟩
theorem over : Rows.chainRowsRow.holds Try.pinned (OpenSpec.ofChange Rows.chainRowsSpec) :=
  OpenClaim.holds_of_wide 9 Try.f9 rfl rfl rfl rfl rfl rfl rfl ⟨rfl, rfl, rfl, rfl, rfl⟩ rfl rfl rfl rfl rfl (by kernel_rfl) Try.func9 (by kernel_rfl)
    (of_decide_eq_true (by kernel_rfl)) (by unfold Func.isWrapper; first | (rw [if_pos (by decide +kernel)]; kernel_rfl) | (rw [if_neg (by decide +kernel)]; exact ⟨rfl, rfl⟩))
    (fun os started H enc _ => lifted os started H enc)
theorem proved : Rows.ChainRowsSaid := over
#print axioms proved
end Go.Proofs.Ytjgelmfkoefclaa.chainRows
namespace Go.Proofs.Ytjgelmfkoefclaa
/-- The row, under a short name, for the claim. -/
theorem chainRows_holds : Rows.ChainRowsSaid := chainRows.proved
end Go.Proofs.Ytjgelmfkoefclaa

