/- The argument types of this seat's laws, opened. -/
import Derived.Test.YtjgelmfkoefclaaOpens
import Derived.Test.YtjgelmfkoefclaaPAllx0
import Derived.Test.YtjgelmfkoefclaaChecked
namespace Go.Proofs.Ytjgelmfkoefclaa
open Go.RowKit Go.ChangeShapes Go.WideShapes Go.Deep Go.Proofs.YtjgelmfkoefclaaW.PrintWords Go.Proofs.Ytjgelmfkoefclaa.PAll Go.Proofs.Ytjgelmfkoefclaa.Opens
set_option linter.unusedVariables false
set_option linter.unusedSimpArgs false
theorem cells3 : Try.prog.cellsOf 3 = 1 := by kernel_rfl
theorem cells9 : Try.prog.cellsOf 9 = 1 := by kernel_rfl
theorem cells22 : Try.prog.cellsOf 22 = 1 := by kernel_rfl
theorem cells54 : Try.prog.cellsOf 54 = 3 := by kernel_rfl
theorem cells24 : Try.prog.cellsOf 24 = 4 := by kernel_rfl
def good3 (n : Int) : Prop := (Lit.int .i64 n).wf = true
theorem opens3 : Opens Try.prog 3 (Kd.int .i64) good3 := opens_int Try.underlying3
def good9 (s : ByteArray) : Prop := s.size ≤ maxLen
theorem opens9 : Opens Try.prog 9 Kd.string good9 := opens_string Try.underlying9
theorem list4 {α : Type} {cs : List α} (h : cs.length = 4) : ∃ a b c d, cs = [a, b, c, d] := by
  match cs, h with
  | [a, b, c, d], _ => exact ⟨a, b, c, d, rfl⟩
theorem list3 {α : Type} {cs : List α} (h : cs.length = 3) : ∃ a b c, cs = [a, b, c] := by
  match cs, h with
  | [a, b, c], _ => exact ⟨a, b, c, rfl⟩
def good54 (x : S54) : Prop := good3 x.f0 ∧ good3 x.f1 ∧ x.f2.size ≤ maxLen
theorem opens54 : Opens Try.prog 54 k54 good54 := by
  intro H enc w base spare held fuel cs x h
  obtain ⟨y0, y1, y2, n, _, hl, h0, h1, h2⟩ := trod_struct3 Try.underlying54 h
  rw [cells54] at hl
  obtain ⟨c0, c1, c2, rfl⟩ := list3 hl
  simp only [cells3, cells9] at h0 h1 h2
  obtain ⟨a0, e0, _, w0⟩ := DataW.trod_int Try.underlying3 h0
  obtain ⟨a1, e1, _, w1⟩ := DataW.trod_int Try.underlying3 h1
  obtain ⟨a2, e2, _, w2⟩ := DataW.trod_string Try.underlying9 h2
  simp at e0 e1 e2
  subst e0 e1 e2
  exact ⟨⟨a0, a1, a2⟩, k54_mk _ _, w0, w1, w2⟩
def good24 (x : S24) : Prop := x.f0.size ≤ maxLen ∧ x.f1.size ≤ maxLen ∧ good3 x.f2 ∧ ∀ y ∈ x.f3, good54 y
theorem opens24 : Opens Try.prog 24 k24 good24 := by
  intro H enc w base spare held fuel cs x h
  obtain ⟨y0, y1, y2, y3, n, _, hl, h0, h1, h2, h3⟩ := Go.Joins.trod_struct4 Try.underlying24 h
  rw [cells24] at hl
  obtain ⟨c0, c1, c2, c3, rfl⟩ := list4 hl
  simp only [cells3, cells9, cells22] at h0 h1 h2 h3
  obtain ⟨a0, e0, _, w0⟩ := DataW.trod_string Try.underlying9 h0
  obtain ⟨a1, e1, _, w1⟩ := DataW.trod_string Try.underlying9 h1
  obtain ⟨a2, e2, _, w2⟩ := DataW.trod_int Try.underlying3 h2
  obtain ⟨z, ⟨A, c, e3, hc, hC⟩, w3⟩ := opens_slice Try.underlying22 (by rw [cells54]; rfl) opens54 _ _ _ _ _ _ _ _ _ h3
  simp at e0 e1 e2 e3
  subst e0 e1 e2 e3
  exact ⟨⟨a0, a1, a2, z⟩, k24_mk w ⟨a0, a1, a2, z⟩ hc hC, w0, w1, w2, w3⟩
end Go.Proofs.Ytjgelmfkoefclaa
