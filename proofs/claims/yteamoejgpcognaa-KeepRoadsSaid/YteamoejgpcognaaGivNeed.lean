import Derived.Test.YteamoejgpcognaaProg
import Derived.Below
import Derived.Deep.Draws
import Derived.Deep.AppendLies
import Derived.Maps.AppendAt
import Derived.OwnWalk
import Derived.Laws.BytesArg
import Derived.Laws.MakeOwn
import Derived.Laws.OwnMore
import Derived.Deep.OwnRows
import Derived.Tactics
import Derived.Lib.ConvBytes
import Derived.Laws.Slices
import Derived.WalkKit
import Derived.KernelRfl
import Derived.RowKit3
import Derived.Deep.LoopGhost
import Derived.Deep.QuietTactic
import Derived.BigQuiet
import Derived.WideLaws
import Derived.Deep.DeepCutAuto
import Derived.Deep.CutBlock
import Derived.Deep.RegionHeld3
import Derived.Laws.Rows
import Derived.Lib.AppendStr
import Derived.ArgAppend
import Derived.Laws.IdiomCopy
import Derived.OrdersHeld
import Derived.Laws.BitsLemmas
import Derived.RowKit
import Derived.Test.YteamoejgpcognaaWWords
import Derived.Test.YteamoejgpcognaaWLast
import Derived.Test.YteamoejgpcognaaWTab
import Derived.Test.YteamoejgpcognaaWFour
import Derived.Test.YteamoejgpcognaaWQPut
import Derived.Test.YteamoejgpcognaaWApart
import Derived.Test.YteamoejgpcognaaWArr
import Derived.Test.YteamoejgpcognaaWZeros
import Derived.Test.YteamoejgpcognaaWFoot
import Derived.Test.YteamoejgpcognaaWKept
import Derived.Test.YteamoejgpcognaaWShare
import Derived.Test.YteamoejgpcognaaWN
import Derived.Test.YteamoejgpcognaaWFootNe
import Derived.Test.YteamoejgpcognaaWAt
import Derived.Test.YteamoejgpcognaaWEqStruct
import Derived.Test.YteamoejgpcognaaWRepsOne
import Derived.Test.YteamoejgpcognaaWInv
import Derived.Test.YteamoejgpcognaaWInvWords
import Derived.Test.YteamoejgpcognaaWGuard
import Derived.Test.YteamoejgpcognaaWNEv
import Derived.Test.YteamoejgpcognaaWMore
import Derived.Test.YteamoejgpcognaaPAllx15
import Derived.Test.YteamoejgpcognaaGivMap
namespace Go.Proofs.Yteamoejgpcognaa.PAll
open Go.RowKit Go.Proofs.YteamoejgpcognaaW.PrintWords Go.Proofs.YteamoejgpcognaaW.PrintLast Go.Proofs.YteamoejgpcognaaW.PrintMore
set_option linter.unusedVariables false
set_option linter.unusedSimpArgs false
open Go.Maps

def wf64 (x : Int) : Prop := (Lit.int .i64 x).wf = true
instance (x : Int) : Decidable (wf64 x) := inferInstanceAs (Decidable (_ = true))
/-- What the map's keys want. -/
def NeedOk (l : List S50) (ws : List Int) : Prop := l.length < 17592186044416 ∧ ws.length < 17592186044416 ∧ (∀ g ∈ l, wf64 g.f0 ∧ wf64 g.f1) ∧ (∀ x ∈ ws, wf64 x)
instance (l : List S50) (ws : List Int) : Decidable (NeedOk l ws) := by unfold NeedOk; exact inferInstance
/-- Those that are needed. -/
def needV (l : List S50) (ws : List Int) : List Int := (l.filter fun g => ws.contains g.f0 && !ws.contains g.f1).map fun g => g.f0
def keep_Need.f (k : Nat) (l0 : List S50) (l1 : List Int) : Option (List Int × Int) :=
  (keep_Check.f k l0).bind fun e => if e = 0 then (if NeedOk l0 l1 then (if l1.all (fun g => decide (0 ≤ placeV l0 g)) = true then some (needV l0 l1, 0) else some (([] : List Int), 8)) else none) else some (([] : List Int), e)
theorem keep_Need.mono : ∀ a0 a1 k, LeO (keep_Need.f k a0 a1) (keep_Need.f (k + 1) a0 a1) := by
  intro a0 a1 k
  unfold keep_Need.f
  exact LeO.bind (keep_Check.mono _ _) (fun _ => LeO.refl _)

def cntI (ws : List Int) (x : Int) : Int := (ws.count x : Nat)
theorem cntI_snoc (ws : List Int) (k : Nat) (h : k < ws.length) : (fun z => if z = ws.getD k 0 then cntI (ws.take k) (ws.getD k 0) + 1 else cntI (ws.take k) z) = cntI (ws.take (k + 1)) := by
  funext z
  have e : ws.take (k + 1) = ws.take k ++ [ws.getD k 0] := by
    rw [List.take_succ_eq_append_getElem h]; simp [List.getD_eq_getElem?_getD, h]
  rw [e]
  unfold cntI
  rw [List.count_append]
  by_cases hz : z = ws.getD k 0
  · rw [if_pos hz, hz]; simp
  · rw [if_neg hz]
    have : List.count z [ws.getD k 0] = 0 := by simp [List.count_cons]; intro h; exact hz h.symm
    omega
theorem cntI_le (ws : List Int) (x : Int) : 0 ≤ cntI ws x ∧ cntI ws x ≤ ws.length := by
  unfold cntI; have := List.count_le_length (a := x) (l := ws); omega

def allIn (l0 : List S50) (l1 : List Int) : Bool := l1.all fun g => decide (0 ≤ placeV l0 g)
theorem allIn_iff (l0 : List S50) (l1 : List Int) : allIn l0 l1 = true ↔ ∀ j, j < l1.length → 0 ≤ placeV l0 (l1.getD j 0) := by
  unfold allIn
  rw [List.all_eq_true]
  constructor
  · intro h j hj
    have := h (l1.getD j 0) (by rw [List.getD_eq_getElem?_getD, List.getElem?_eq_getElem hj]; exact List.getElem_mem hj)
    simpa using this
  · intro h x hx
    obtain ⟨j, hj, rfl⟩ := List.getElem_of_mem hx
    have := h j hj
    rw [List.getD_eq_getElem?_getD, List.getElem?_eq_getElem hj] at this
    simpa using this
def NeedPost (l0 : List S50) (l1 : List Int) (w : World) (e : Ending) (w' : World) : Prop :=
  ∃ v0_ : Value, e = .returned (.tuple #[v0_, .int .i64 (if allIn l0 l1 = true then 0 else 8)]) ∧ Kd.R (Kd.int .i64) 3 w' w.heap.size (fun _ => True) v0_ (if allIn l0 l1 = true then needV l0 l1 else []) ∧ Below w.heap.size w w'
theorem needPost_no {l0 : List S50} {l1 : List Int} {w w' : World} {k : Nat} (hk : k < l1.length) (h : placeV l0 (l1.getD k 0) < 0) (hb : Below w.heap.size w w') : NeedPost l0 l1 w (.returned (.tuple #[.slice none 0 0, .int .i64 8])) w' := by
  have hn : ¬ allIn l0 l1 = true := fun e => by have := (allIn_iff l0 l1).1 e k hk; omega
  exact ⟨_, by rw [if_neg hn], by rw [if_neg hn]; exact Kd.R_nil _ _ _ _ _, hb⟩
theorem needPost_yes {l0 : List S50} {l1 : List Int} {w w' : World} {v : Value} {ok : Nat → Prop} (h : ∀ j, j < l1.length → 0 ≤ placeV l0 (l1.getD j 0)) (ho : Kd.R (Kd.int .i64) 3 w' w.heap.size ok v (needV l0 l1)) (hb : Below w.heap.size w w') : NeedPost l0 l1 w (.returned (.tuple #[v, .int .i64 0])) w' := by
  have hn : allIn l0 l1 = true := (allIn_iff l0 l1).2 h
  exact ⟨_, by rw [if_pos hn], by rw [if_pos hn]; exact Kd.R_mono ho (fun _ _ => trivial), hb⟩

theorem wf_at {l1 : List Int} (h : ∀ x ∈ l1, wf64 x) {k : Nat} (hk : k < l1.length) : (Lit.int .i64 (l1.getD k 0)).wf = true := by
  rw [List.getD_eq_getElem?_getD, List.getElem?_eq_getElem hk]; exact h _ (List.getElem_mem hk)
theorem wf_small {x : Int} (h : 0 ≤ x) (h2 : x ≤ 17592186044416) : (Lit.int .i64 x).wf = true := WalkArith.wf_i64 (by omega)

theorem take_snoc_S (l : List S50) (k : Nat) (h : k < l.length) : l.take (k + 1) = l.take k ++ [l.getD k z50] := by
  rw [List.take_succ_eq_append_getElem h]; simp [List.getD_eq_getElem?_getD, h]
theorem needV_yes {l : List S50} {ws : List Int} {k : Nat} {el : S50} (h : k < l.length) (he : el = l.getD k z50) (h1 : 0 < cntI ws el.f0) (h2 : cntI ws el.f1 = 0) : needV (l.take (k + 1)) ws = needV (l.take k) ws ++ [el.f0] := by
  unfold needV; rw [take_snoc_S l k h, List.filter_append, List.map_append, ← he]
  have e1 : ws.contains el.f0 = true := by unfold cntI at h1; rw [List.contains_iff_mem]; exact List.count_pos_iff.1 (by omega)
  have e2 : ws.contains el.f1 = false := by unfold cntI at h2; rw [Bool.eq_false_iff]; intro e; rw [List.contains_iff_mem] at e; have := List.count_pos_iff.2 e; omega
  have e3 : List.filter (fun g : S50 => ws.contains g.f0 && !ws.contains g.f1) [el] = [el] := by simp only [List.filter_cons, e1, e2]; rfl
  rw [e3]; rfl
theorem needV_no {l : List S50} {ws : List Int} {k : Nat} {el : S50} (h : k < l.length) (he : el = l.getD k z50) (h1 : ¬ (0 < cntI ws el.f0 ∧ cntI ws el.f1 = 0)) : needV (l.take (k + 1)) ws = needV (l.take k) ws := by
  unfold needV; rw [take_snoc_S l k h, List.filter_append, List.map_append, ← he]
  have e : (ws.contains el.f0 && !ws.contains el.f1) = false := by
    rw [Bool.eq_false_iff]
    intro e
    rw [Bool.and_eq_true, List.contains_iff_mem, Bool.not_eq_true', Bool.eq_false_iff] at e
    apply h1
    unfold cntI
    exact ⟨by have := List.count_pos_iff.2 e.1; omega, by have : ws.count el.f1 = 0 := List.count_eq_zero.2 (fun hm => e.2 (List.contains_iff_mem.2 hm)); omega⟩
  have e3 : List.filter (fun g : S50 => ws.contains g.f0 && !ws.contains g.f1) [el] = [] := by simp only [List.filter_cons, e]; rfl
  rw [e3]; exact List.append_nil _
theorem needV_le (l : List S50) (ws : List Int) (k : Nat) : (needV (l.take k) ws).length ≤ k := by
  unfold needV; rw [List.length_map]
  exact Nat.le_trans (List.length_filter_le _ _) (List.length_take_le _ _)

theorem own_ne_of {w : World} {base B : Nat} {v : Value} {xs : List Int} (h : Kd.R (Kd.int .i64) 3 w base (fun b => b ≠ B) v xs) : some B ≠ v.ownBlock := by
  intro e
  exact h.1 B e.symm rfl

set_option maxHeartbeats 1600000 in
set_option maxRecDepth 100000 in
theorem need_ok (k : Nat) (A0 : Option Addr) (c0 : Nat) (l0 : List S50) (A1 : Option Addr) (c1 : Nat) (l1 : List Int) (w : World) (hr0 : Kd.C k50 w A0 l0.length l0) (hc0 : l0.length ≤ c0) (hr1 : Kd.C (Kd.int .i64) w A1 l1.length l1) (hc1 : l1.length ≤ c1)
    (hck : keep_Check.f k l0 = some 0) (hok : NeedOk l0 l1) :
    Calls Try.prog 21 #[.slice A0 l0.length c0, .slice A1 l1.length c1] w (NeedPost l0 l1 w) := by
  have HR0 := Aside0.mk hr0
  have HC0 := Aside0.mk hc0
  have HR1 := Aside0.mk hr1
  have HC1 := Aside0.mk hc1
  have HK := Aside0.mk hck
  have HO := Aside0.mk hok
  clear hr0 hc0 hr1 hc1 hck hok
  have hmm := @run_makeMap Try.prog
  go_enter Try.func21, Try.ntmps21
  go_wp2_with (go_at_call 39; refine (keep_Check.calls k _ _ l0 0 _ HR0.out HC0.out HK.out).mono ?_; rintro e wa ⟨rfl, hb⟩)
  have HBC := Aside0.mk hb
  clear hb
  go_wp2_with fail
  go_loopw [21] (fun v21 wr => ∃ k : Nat, k ≤ l1.length ∧ v21 = .int .i64 k ∧ Aside0 (∀ j, j < k → 0 ≤ placeV l0 (l1.getD j 0)) ∧ Aside0 (Cnt wr wa.heap.size k (cntI (l1.take k))) ∧ Aside0 (Below w.heap.size w wr)) (fun v21 _ => l1.length - (intOf v21).toNat)
  case atStart => exact ⟨0, by omega, rfl, ⟨fun j hj => absurd hj (by omega)⟩, ⟨cnt_made _⟩, ⟨HBC.out.alloc HBC.out.size _⟩⟩
  case round =>
    obtain ⟨k, hk, rfl, HP, HM, HB⟩ := hrel
    by_cases hlt : k < l1.length
    · obtain ⟨ad, e, q1⟩ := Kd.at_int HR1.out (k : Nat) (by omega) (by omega)
      replace q1 := (HB.out.cell (World.block_lt_of_cell? w _ q1)).trans q1
      subst e
      rw [Int.toNat_natCast] at q1
      have EL : Aside0 (rd l1 ((k : Nat) : Int) = l1.getD k 0) := ⟨by unfold rd; rw [Int.toNat_natCast]⟩
      have WF : Aside0 ((Lit.int .i64 (rd l1 ((k : Nat) : Int))).wf = true) := ⟨by rw [EL.out]; exact wf_at HO.out.2.2.2 hlt⟩
      have HS : Aside0 ((fun z => if z = rd l1 ((k : Nat) : Int) then cntI (l1.take k) (rd l1 ((k : Nat) : Int)) + 1 else cntI (l1.take k) z) = cntI (l1.take (k + 1))) := ⟨by rw [EL.out]; exact cntI_snoc l1 k hlt⟩
      generalize rd l1 ((k : Nat) : Int) = el at q1 EL WF HS
      by_cases hp : placeV l0 el < 0
      · go_wp2_with (go_at_call 48; refine (keep_place.calls _ _ l0 el (placeV l0 el) _ (Kd.C_below HR0.out HB.out) HC0.out rfl).mono ?_; rintro e wb ⟨rfl, hb⟩)
        go_ret2
        exact needPost_no hlt (by rw [← EL.out]; exact hp) (HB.out.trans (hb.mono HB.out.size))
      · have hcl := cntI_le (l1.take k) el
        have htl : (l1.take k).length ≤ k := List.length_take_le _ _
        have hll := HO.out.2.1
        obtain ⟨c, HCE⟩ : ∃ c, Aside0 (cntI (l1.take k) el = c) := ⟨_, ⟨rfl⟩⟩
        rw [HCE.out] at hcl HS
        go_wp2_with (first | (go_at_call 48; refine (keep_place.calls _ _ l0 el (placeV l0 el) _ (Kd.C_below HR0.out HB.out) HC0.out rfl).mono ?_; rintro e wb ⟨rfl, hb⟩; have hL := (HM.out.below hb).look el WF.out; rw [HCE.out] at hL; obtain ⟨wc, hput, hcn, hgr⟩ := (HM.out.below hb).put (by unfold maxLen; omega) el WF.out (c + 1) (wf_small (by omega) (by omega)); have HCN := Aside0.mk hcn; have HGR := Aside0.mk hgr; have HBB := Aside0.mk hb; clear hcn hgr hb))
        go_roundw
        case rel => exact ⟨k + 1, by omega, by go_num, ⟨fun j hj => by by_cases e : j = k; subst e; rw [← EL.out]; omega; exact HP.out j (by omega)⟩, ⟨by rw [← HS.out]; exact HCN.out⟩, ⟨(HB.out.trans (HBB.out.mono HB.out.size)).grown HGR.out (Nat.le_trans HB.out.size HBB.out.size) (fun j hj => by cases hj; exact HBC.out.size)⟩⟩
        case measure => simp [intOf]; omega
    · have hke : k = l1.length := by omega
      subst hke
      rw [List.take_length] at HM
      have HALL := HP
      clear HP
      obtain ⟨B, HBE⟩ : ∃ B, Aside0 (wa.heap.size = B) := ⟨_, ⟨rfl⟩⟩
      have HWB : Aside0 (w.heap.size ≤ B) := ⟨by rw [← HBE.out]; exact HBC.out.size⟩
      rw [HBE.out] at HM ⊢
      generalize hn : l1.length = n at HM
      have HN := Aside0.mk hn
      clear hn
      go_wp2_with fail
      go_loopw [10, 36] (fun v10 v36 wr => ∃ k : Nat, k ≤ l0.length ∧ v36 = .int .i64 k ∧ Aside0 (Kd.R (Kd.int .i64) 3 wr w.heap.size (fun b => b ≠ B) v10 (needV (l0.take k) l1)) ∧ Aside0 (Cnt wr B n (cntI l1)) ∧ Aside0 (Below w.heap.size w wr)) (fun _ v36 _ => l0.length - (intOf v36).toNat)
      case atStart => exact ⟨0, by omega, rfl, ⟨Kd.R_nil _ _ _ _ _⟩, HM, HB⟩
      case round =>
        clear HM HB
        obtain ⟨k, hk, rfl, HO10, HM, HB⟩ := hrel
        by_cases hlt : k < l0.length
        · have hx0 : 0 ≤ ((k : Nat) : Int) := by omega
          have hx1 : ((k : Nat) : Int) < (l0.length : Int) := by omega
          obtain ⟨ad, e, q1, q2, q3, q4⟩ := cells_T50 HR0.out HB.out _ hx0 hx1
          have EL : Aside0 (rd_T50 l0 ((k : Nat) : Int) = l0.getD k z50) := ⟨by unfold rd_T50; rw [Int.toNat_natCast]⟩
          have WF : Aside0 (wf64 (rd_T50 l0 ((k : Nat) : Int)).f0 ∧ wf64 (rd_T50 l0 ((k : Nat) : Int)).f1) := ⟨by rw [EL.out, List.getD_eq_getElem?_getD, List.getElem?_eq_getElem hlt]; exact HO.out.2.2.1 _ (List.getElem_mem hlt)⟩
          generalize rd_T50 l0 ((k : Nat) : Int) = el at q1 q2 q3 q4 EL WF
          subst e
          rw [Int.toNat_natCast] at q1 q2 q3 q4
          have hlk := (HM.out.alloc (.cells #[.int .i64 el.f0, .int .i64 el.f1, .int .i64 el.f2, .string el.f3] 50)).look el.f0 WF.out.1
          have hlj := (HM.out.alloc (.cells #[.int .i64 el.f0, .int .i64 el.f1, .int .i64 el.f2, .string el.f3] 50)).look el.f1 WF.out.2
          have hll := HO.out.1
          have hnl := needV_le l0 l1 k
          have HOB := Aside0.mk (own_ne_of HO10.out)
          by_cases h1 : 0 < cntI l1 el.f0
          · have h1b : decide (0 < cntI l1 el.f0) = true := decide_eq_true h1
            by_cases h2 : cntI l1 el.f1 = 0
            · have HSN := Aside0.mk (needV_yes hlt EL.out h1 h2)
              have h2b : (cntI l1 el.f1 == 0) = true := beq_iff_eq.mpr h2
              clear h2 h1
              generalize cntI l1 el.f0 = x1 at *
              generalize cntI l1 el.f1 = x2 at *
              go_wp2_with (first | ((with_reducible refine gate_builtin (b := .append) (xs := #[.tmp 52, .tmp 55]) rfl ?_); at_builtin; refine Kd.R_append (Kd.int .i64) (w0 := w) w.heap.size rfl (.tmp 52) (.tmp 55) 34 3 (.int .i64 0) 8 rfl Try.underlying34 info3 rfl (by decide) (by omega) u10 (needV (l0.take k) l1) el.f0 [.int .i64 el.f0] (fun b => b ≠ B) (fun _ => False) rfl ?aX ?aP (fun _ hk => hk.elim) ?aF ?aO ?aB ?aS ?aL ?_; (case aX => (show (Value.slice (some ⟨wr.heap.size + 1, 0, none⟩) 1 1) = _; simp)); (case aP => exact rfl); (case aF => exact (fun q hq => by have := HM.out.lt; simp at hq; omega)); (case aO => exact (Kd.R_alloc HO10.out _)); (case aB => exact (HB.out.alloc HB.out.size _)); (case aS => exact (Nat.le_trans HB.out.size (by simp))); (case aL => omega); intro v290 w19 ho hb hg hat; rw [← HSN.out] at ho; have n0_ := Aside0.mk hb; have n1_ := Aside0.mk ho; have n2_ := Aside0.mk (((HM.out.alloc _).grown hg HOB.out)); clear ho hb hg hat))
              go_roundw
              case rel => exact ⟨k + 1, by omega, by go_num, n1_, n2_, n0_⟩
              case measure => simp [intOf]; omega
            · have HSN := Aside0.mk (needV_no hlt EL.out (fun h => h2 h.2))
              have h2b : (cntI l1 el.f1 == 0) = false := beq_eq_false_iff_ne.mpr h2
              clear h2 h1
              go_wp2_with fail
              go_roundw
              case rel => exact ⟨k + 1, by omega, by go_num, ⟨by rw [HSN.out]; exact Kd.R_alloc HO10.out _⟩, ⟨HM.out.alloc _⟩, ⟨HB.out.alloc HB.out.size _⟩⟩
              case measure => simp [intOf]; omega
          · have HSN := Aside0.mk (needV_no hlt EL.out (fun h => h1 h.1))
            have h1b : decide (0 < cntI l1 el.f0) = false := decide_eq_false h1
            clear h1
            go_wp2_with fail
            go_roundw
            case rel => exact ⟨k + 1, by omega, by go_num, ⟨by rw [HSN.out]; exact Kd.R_alloc HO10.out _⟩, ⟨HM.out.alloc _⟩, ⟨HB.out.alloc HB.out.size _⟩⟩
            case measure => simp [intOf]; omega
        · have hke : k = l0.length := by omega
          subst hke
          rw [List.take_length] at HO10
          go_wp2_with fail
          go_ret2
          exact needPost_yes HALL.out HO10.out HB.out

set_option maxHeartbeats 1600000 in
set_option maxRecDepth 100000 in
theorem keep_Need.calls (k : Nat) (A0 : Option Addr) (c0 : Nat) (l0 : List S50) (A1 : Option Addr) (c1 : Nat) (l1 : List Int) (r1 : List Int) (r2 : Int) (w : World) (hr0 : Kd.C k50 w A0 l0.length l0) (hc0 : l0.length ≤ c0) (hr1 : Kd.C (Kd.int .i64) w A1 l1.length l1) (hc1 : l1.length ≤ c1) (h : keep_Need.f k l0 l1 = some (r1, r2)) :
    Calls Try.prog 21 #[.slice A0 l0.length c0, .slice A1 l1.length c1] w fun e w' => ∃ v0_ : Value, e = .returned (.tuple #[v0_, .int .i64 r2]) ∧ Kd.R (Kd.int .i64) 3 w' w.heap.size (fun _ => True) v0_ r1 ∧ Below w.heap.size w w' := by
  unfold keep_Need.f at h
  obtain ⟨e, hck, h⟩ := Option.bind_eq_some_iff.mp h
  by_cases he : e = 0
  · subst he
    rw [if_pos rfl] at h
    by_cases hok : NeedOk l0 l1
    · rw [if_pos hok] at h
      refine (need_ok k A0 c0 l0 A1 c1 l1 w hr0 hc0 hr1 hc1 hck hok).mono ?_
      rintro e w' ⟨v, he, ho, hb⟩
      change (if allIn l0 l1 = true then some (needV l0 l1, 0) else some (([] : List Int), 8)) = some (r1, r2) at h
      by_cases ha : allIn l0 l1 = true
      · rw [if_pos ha] at h he ho
        obtain ⟨rfl, rfl⟩ := Prod.mk.injEq .. ▸ (Option.some.inj h)
        exact ⟨v, he, ho, hb⟩
      · rw [if_neg ha] at h he ho
        obtain ⟨rfl, rfl⟩ := Prod.mk.injEq .. ▸ (Option.some.inj h)
        exact ⟨v, he, ho, hb⟩
    · rw [if_neg hok] at h; cases h
  · rw [if_neg he] at h
    obtain ⟨rfl, rfl⟩ := Prod.mk.injEq .. ▸ (Option.some.inj h)
    have HR0 := Aside0.mk hr0
    have HK := Aside0.mk hck
    have hb1 : (e == 0) = false := beq_eq_false_iff_ne.mpr he
    have hb2 : (e != 0) = true := by rw [bne_iff_ne]; exact he
    clear hr0 hr1 hck he h
    go_enter Try.func21, Try.ntmps21
    go_wp2_with (go_at_call 39; refine (keep_Check.calls k _ _ l0 e _ HR0.out hc0 HK.out).mono ?_; rintro e' wa ⟨rfl, hb⟩)
    go_ret2
    exact ⟨_, rfl, Kd.R_nil _ _ _ _ _, hb⟩
end Go.Proofs.Yteamoejgpcognaa.PAll
