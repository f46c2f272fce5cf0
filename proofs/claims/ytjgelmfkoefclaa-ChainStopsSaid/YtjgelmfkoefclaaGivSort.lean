/- Go's stable sort of whole numbers, as far as it is wanted: it ends, it stays in its bounds, and what lies in the row behind it lay there before (by a predicate). -/
import Derived.BigQuiet
import Derived.Outline
import Derived.Deep.DeepMust
import Derived.RegionTactic
import Derived.Test.YtjgelmfkoefclaaMarkLaw
namespace Go.Proofs.Ytjgelmfkoefclaa.PAll
open Go.RowKit Go.Proofs.YtjgelmfkoefclaaW.PrintWords Go.Proofs.YtjgelmfkoefclaaW.PrintLast Go.Proofs.YtjgelmfkoefclaaW.PrintMore
set_option linter.unusedVariables false
set_option linter.unusedSimpArgs false

/-- Every element of the row in block g is a number of P. -/
def Ar (w : World) (g n : Nat) (P : Int → Prop) : Prop := ∀ i, i < n → (∃ x, w.cell? ⟨g, i, none⟩ = some (.int .i64 x) ∧ P x) ∧ w.frozen? ⟨g, i, none⟩ = false
theorem Ar.at {w : World} {g n : Nat} {P : Int → Prop} (h : Ar w g n P) (i : Nat) (hi : i < n) : ∃ x, w.cell? ⟨g, i, none⟩ = some (.int .i64 x) ∧ P x ∧ w.frozen? ⟨g, i, none⟩ = false := by
  obtain ⟨⟨x, h1, h2⟩, h3⟩ := h i hi
  exact ⟨x, h1, h2, h3⟩
theorem Ar.below {w w' : World} {g n : Nat} {P : Int → Prop} (h : Ar w g n P) (hg : g < w.heap.size) (hb : Below w.heap.size w w') : Ar w' g n P := fun i hi => by
  obtain ⟨⟨x, h1, h2⟩, h3⟩ := h i hi
  exact ⟨⟨x, (hb.cell (p := ⟨g, i, none⟩) hg).trans h1, h2⟩, (hb.frozen (p := ⟨g, i, none⟩) hg).trans h3⟩
theorem Ar.set {w : World} {g n : Nat} {P : Int → Prop} (h : Ar w g n P) (j : Nat) (hj : j < n) (x : Int) (hx : P x) : Ar (w.setCell ⟨g, j, none⟩ (.int .i64 x)) g n P := fun i hi => by
  obtain ⟨⟨y, h1, h2⟩, h3⟩ := h i hi
  obtain ⟨⟨z, k1, k2⟩, k3⟩ := h j hj
  have hblk : ∃ cs t fr, w.heap[g]? = some (.cells cs t fr) := by
    unfold World.cell? at h1
    simp only at h1
    cases e : w.heap[g]? with
    | none => rw [e] at h1; cases h1
    | some o =>
      rw [e] at h1
      cases o with
      | cells cs t fr => exact ⟨cs, t, fr, rfl⟩
      | _ => cases h1
  obtain ⟨cs, t, fr, hb⟩ := hblk
  have hb2 : (w.setCell ⟨g, j, none⟩ (.int .i64 x)).heap[g]? = some (.cells (cs.setIfInBounds j (.int .i64 x)) t fr) := by
    simp [World.setCell, Array.getElem?_modify, hb]
  have c1 : ∀ i, w.cell? ⟨g, i, none⟩ = cs[i]? := fun i => by simp [World.cell?, hb]
  have c2 : ∀ i, (w.setCell ⟨g, j, none⟩ (.int .i64 x)).cell? ⟨g, i, none⟩ = (cs.setIfInBounds j (.int .i64 x))[i]? := fun i => by simp [World.cell?, hb2]
  refine ⟨?_, ?_⟩
  · rw [c2]
    by_cases e : j = i
    · subst e
      rw [c1] at k1
      have hlt : j < cs.size := (Array.getElem?_eq_some_iff.1 k1).1
      exact ⟨x, by rw [Array.getElem?_setIfInBounds_self_of_lt hlt], hx⟩
    · rw [Array.getElem?_setIfInBounds_ne e, ← c1]
      exact ⟨y, h1, h2⟩
  · have f1 : w.frozen? ⟨g, i, none⟩ = (fr.1 ≤ i && i < fr.2) := by simp [World.frozen?, hb]
    have f2 : (w.setCell ⟨g, j, none⟩ (.int .i64 x)).frozen? ⟨g, i, none⟩ = (fr.1 ≤ i && i < fr.2) := by simp [World.frozen?, hb2]
    rw [f2, ← f1]; exact h3
theorem Ar.lt {w : World} {g n : Nat} {P : Int → Prop} (h : Ar w g n P) (hn : 0 < n) : g < w.heap.size := by
  obtain ⟨x, h1, _⟩ := h.at 0 hn
  exact World.block_lt_of_cell? w ⟨g, 0, none⟩ h1
theorem gb_setg (w : World) (g j : Nat) (u : Value) : w.grownBy (w.setCell ⟨g, j, none⟩ u) (some g) := ⟨rfl, rfl, rfl, by simp [World.setCell], fun i hi hn => Below.heap_setCell w ⟨g, j, none⟩ u i (fun e => hn (by rw [e]))⟩
theorem gb_drew {a b : World} {row : Option Nat} (h : a.grownBy b row) : a.grownBy b.drew row := ⟨h.os, h.tape, h.output, h.size, h.block⟩
theorem gb_drewN {a b : World} {row : Option Nat} (h : a.grownBy b row) (m : Nat) : a.grownBy (b.drewN m) row := ⟨h.os, h.tape, h.output, h.size, h.block⟩
theorem Ar.drewN {w : World} {g n : Nat} {P : Int → Prop} (h : Ar w g n P) (m : Nat) : Ar (w.drewN m) g n P := h
theorem Ar.drew {w : World} {g n : Nat} {P : Int → Prop} (h : Ar w g n P) : Ar w.drew g n P := h

set_option maxHeartbeats 2000000 in
set_option maxRecDepth 100000 in
theorem swapRange_calls (g n c : Nat) (P : Int → Prop) (a b k : Nat) (cmp : Value) (w : World) (hA : Ar w g n P) (ha : a + k ≤ n) (hb : b + k ≤ n) (hab : a ≠ b) (hn : n ≤ 1000000) :
    Calls Try.prog 89 #[.slice (some ⟨g, 0, none⟩) n c, .int .i64 a, .int .i64 b, .int .i64 k, cmp] w fun e w' => e = .returned (.tuple #[]) ∧ Ar w' g n P ∧ w.grownBy w' (some g) := by
  have HA := Aside0.mk hA
  clear hA
  go_enter Try.func89, Try.ntmps89
  go_wp2_with fail
  go_loopw [10] (fun v10 wr => ∃ i : Nat, v10 = .int .i64 i ∧ i ≤ k ∧ Aside0 (Ar wr g n P) ∧ Aside0 (w.grownBy wr (some g))) (fun v10 _ => k - (intOf v10).toNat)
  case atStart => exact ⟨0, rfl, Nat.zero_le _, HA, ⟨gb_refl _ _⟩⟩
  case round =>
    obtain ⟨i, rfl, hi, HR, HG⟩ := hrel
    by_cases hlt : i < k
    · have hb1 : decide (i < k) = true := decide_eq_true hlt
      obtain ⟨x, hx, px, fx⟩ := HR.out.at (a + i) (by omega)
      obtain ⟨y, hy, py, fy⟩ := HR.out.at (b + i) (by omega)
      have q1 : (0 : Int) ≤ (a : Int) + (i : Int) := by omega
      have q2 : (a : Int) + (i : Int) < (n : Int) := by omega
      have q3 : (0 : Int) ≤ (b : Int) + (i : Int) := by omega
      have q4 : (b : Int) + (i : Int) < (n : Int) := by omega
      have HPX := Aside0.mk px
      have HPY := Aside0.mk py
      have hne1 : ¬ a + i = b + i := by omega
      have hne2 : ¬ b + i = a + i := by omega
      clear px py
      go_wp2_with fail
      go_region
      all_goals
        go_wp2_with fail
        go_roundw
        case rel =>
          exact ⟨i + 1, by go_num, by omega, ⟨(HR.out.drew.set (a + i) (by omega) y HPY.out).set (b + i) (by omega) x HPX.out⟩, ⟨gb_trans (gb_trans (gb_drew HG.out) (gb_setg _ _ _ _)) (gb_setg _ _ _ _)⟩⟩
        case measure => simp [intOf]; omega
    · have hb1 : decide (i < k) = false := decide_eq_false hlt
      go_wp2_with fail
      go_end0
      exact ⟨rfl, HR.out, HG.out⟩

theorem swapRange_any (g n c : Nat) (P : Int → Prop) (a b k : Nat) (a' b' k' : Int) (ea : a' = (a : Nat)) (eb : b' = (b : Nat)) (ek : k' = (k : Nat)) (cmp : Value) (w : World) (hA : Ar w g n P) (ha : a + k ≤ n) (hb : b + k ≤ n) (hab : a ≠ b) (hn : n ≤ 1000000) :
    Calls Try.prog 89 #[.slice (some ⟨g, 0, none⟩) n c, .int .i64 a', .int .i64 b', .int .i64 k', cmp] w fun e w' => e = .returned (.tuple #[]) ∧ Ar w' g n P ∧ w.grownBy w' (some g) := by
  subst ea eb ek
  exact swapRange_calls g n c P a b k cmp w hA ha hb hab hn
/-- What the comparing function does, wherever it is called from: it answers some number, reading alone. -/
def Cmp (f : FuncId) (cap : Value) (w0 : World) (g : Nat) (P : Int → Prop) (zf : Int → Int → Int) : Prop := ∀ wx x y, w0.grownBy wx (some g) → P x → P y → Calls Try.prog f #[.int .i64 x, .int .i64 y, cap] wx fun e w' => e = .returned (.int .i64 (zf x y)) ∧ ∃ m, w' = wx.drewN m

set_option maxHeartbeats 2000000 in
set_option maxRecDepth 100000 in
theorem insertion_calls (g n c : Nat) (P : Int → Prop) (a b : Nat) (w0 : World) (cap : Value) (zf : Int → Int → Int) (hC : Cmp 69 cap w0 g P zf) (w : World) (hw : w0.grownBy w (some g)) (hA : Ar w g n P) (hb : b ≤ n) (hn : n ≤ 1000000) (ha : a ≤ 1000000) :
    Calls Try.prog 82 #[.slice (some ⟨g, 0, none⟩) n c, .int .i64 a, .int .i64 b, .func (.func 69) #[] #[cap]] w fun e w' => e = .returned (.tuple #[]) ∧ Ar w' g n P ∧ w.grownBy w' (some g) := by
  have HA := Aside0.mk hA
  have HC := Aside0.mk hC
  have HW := Aside0.mk hw
  clear hA hC hw
  go_enter Try.func82, Try.ntmps82
  go_wp2_with fail
  go_loopw [8, 9] (fun v8 v9 wr => ∃ i : Nat, v8 = .int .i64 i ∧ a + 1 ≤ i ∧ i ≤ max b (a + 1) ∧ Aside0 (Ar wr g n P) ∧ Aside0 (w.grownBy wr (some g))) (fun v8 _ _ => b - (intOf v8).toNat)
  case atStart => exact ⟨a + 1, by go_num, Nat.le_refl _, by omega, HA, ⟨gb_refl _ _⟩⟩
  case round =>
    obtain ⟨i, rfl, hi0, hi, HR, HG⟩ := hrel
    by_cases hlt : i < b
    · have hb1 : decide (i < b) = true := decide_eq_true hlt
      obtain ⟨wo, rfl⟩ : ∃ wo : World, wo = wr := ⟨_, rfl⟩
      go_upto_region 4 with fail
      go_loopw [9] (fun v9 wi => ∃ j : Nat, v9 = .int .i64 j ∧ a ≤ j ∧ j ≤ i ∧ Aside0 (Ar wi g n P) ∧ Aside0 (w.grownBy wi (some g))) (fun v9 _ => (intOf v9).toNat)
      case atStart => exact ⟨i, rfl, by omega, Nat.le_refl _, HR, HG⟩
      case round =>
        obtain ⟨j, rfl, hja, hji, HRI, HGI⟩ := hrel
        by_cases hja2 : a < j
        · have hg1 : decide ((a : Int) < (j : Int)) = true := decide_eq_true (by omega)
          have hg2 : decide (a < j) = true := decide_eq_true hja2
          obtain ⟨x, hx, px, fx⟩ := HRI.out.at j (by omega)
          obtain ⟨y, hy, py, fy⟩ := HRI.out.at (j - 1) (by omega)
          obtain ⟨j1, rfl⟩ : ∃ j1, j = j1 + 1 := ⟨j - 1, by omega⟩
          rw [Nat.add_sub_cancel] at hy fy
          have q1 : (0 : Int) ≤ (j1 : Int) + 1 := by omega
          have q2 : (j1 : Int) + 1 < (n : Int) := by omega
          have q3 : (0 : Int) ≤ (j1 : Int) := by omega
          have q4 : (j1 : Int) < (n : Int) := by omega
          have hg3 : decide ((a : Int) < (j1 : Int) + 1) = true := decide_eq_true (by omega)
          have hne1 : ¬ j1 + 1 = j1 := by omega
          have hne2 : ¬ j1 = j1 + 1 := by omega
          have HCX := Aside0.mk (fun m => HC.out (wr.drewN m) x y (gb_drewN (gb_trans HW.out HGI.out) m) px py)
          have HPX := Aside0.mk px
          have HPY := Aside0.mk py
          clear px py
          by_cases hz : zf x y < 0
          · have hzb : decide (zf x y < 0) = true := decide_eq_true hz
            go_wp2_with fail
            go_quiet ((go_at_call 69; exact Calls.quiet_of (HCX.out _)))
            go_wp2_with fail
            go_region
            all_goals
              go_wp2_with fail
              go_roundw
              case rel =>
                exact ⟨j1, rfl, by omega, by omega, ⟨by first | exact ((HRI.out.drewN _).drew.set (j1 + 1) (by omega) y HPY.out).set j1 (by omega) x HPX.out⟩, ⟨gb_trans (gb_trans (gb_drew (gb_drewN HGI.out _)) (gb_setg _ _ _ _)) (gb_setg _ _ _ _)⟩⟩
              case measure => simp [intOf]
          · have hzb : decide (zf x y < 0) = false := decide_eq_false hz
            go_wp2_with fail
            go_quiet ((go_at_call 69; exact Calls.quiet_of (HCX.out _)))
            go_wp2_with fail
            go_roundw
            case rel => exact ⟨i + 1, by go_num, by omega, by omega, ⟨HRI.out.drewN _⟩, ⟨gb_drewN HGI.out _⟩⟩
            case measure => simp [intOf]; omega
        · have hg1 : decide ((a : Int) < (j : Int)) = false := decide_eq_false (by omega)
          have hg2 : decide (a < j) = false := decide_eq_false hja2
          go_wp2_with fail
          go_quiet (fail)
          go_wp2_with fail
          go_roundw
          case rel => exact ⟨i + 1, by go_num, by omega, by omega, ⟨HRI.out.drewN _⟩, ⟨gb_drewN HGI.out _⟩⟩
          case measure => simp [intOf]; omega
    · have hb1 : decide (i < b) = false := decide_eq_false hlt
      go_wp2_with fail
      go_end0
      exact ⟨rfl, HR.out, HG.out⟩

end Go.Proofs.Ytjgelmfkoefclaa.PAll
