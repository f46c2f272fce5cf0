/- The deltas between texts, one behind the other. -/
import Derived.BigQuiet
import Derived.Deep.DeepMust
import Derived.RegionTactic
import Derived.Deep.RegionHeld3
import Derived.IntWalk
import Derived.Test.YtjgelmfkoefclaaFlat
namespace Go.Proofs.Ytjgelmfkoefclaa.PAll
open Go.RowKit Go.Proofs.YtjgelmfkoefclaaW.PrintWords Go.Proofs.YtjgelmfkoefclaaW.PrintLast Go.Proofs.YtjgelmfkoefclaaW.PrintMore Go.Proofs.Ytjgelmfkoefclaa.Pure
set_option linter.unusedVariables false
set_option linter.unusedSimpArgs false
attribute [local go_sem] max2_int min2_int max_two min_two

theorem Oe.fin {w wr : World} {b M : Nat} {l : List ByteArray} {v : Value} {st : List S54} (h : Oe w wr b M l v st) : ∃ A c, v = .slice A st.length c ∧ st.length ≤ c ∧ Kd.C k54 wr A st.length st := Kd.R_reads h.r
set_option maxHeartbeats 4000000 in
set_option maxRecDepth 100000 in
theorem row_calls (b M : Nat) (bk : List ByteArray) (q c0 : Nat) (l : List ByteArray) (bl : Nat) (w : World) (hr0 : Kd.C Kd.string w (some ⟨q, 0, none⟩) l.length l) (hc0 : l.length ≤ c0) (hB : Bk w b M bk) (hbk : bk.length ≤ 1000000) (hln : l.length ≤ 100) (hls : ∀ x ∈ l, x.size ≤ 1000) (h0 : 16 ≤ bl) (h1 : bl ≤ 1024) :
    Calls Try.prog 21 #[.pointer (some ⟨b, 0, none⟩), .slice (some ⟨q, 0, none⟩) l.length c0, .int .i64 bl] w fun e w' => ∃ (A : Option Addr) (c : Nat) (ds : List S24) (bk' : List ByteArray), e = .returned (.slice A ds.length c) ∧ ds.length ≤ c ∧ Kd.C k24 w' A ds.length ds ∧ w.grownBy w' (some M) ∧ Bk w' b M bk' ∧ Ext bk bk' ∧ bk'.length ≤ bk.length + 300000 ∧ ds.length = l.length - 1 ∧ (∀ i s t d, l[i]? = some s → l[i + 1]? = some t → ds[i]? = some d → DeltaOf bk' s t d) ∧ (0 < ds.length → ∃ q, A = some ⟨q, 0, none⟩) := by
  have HR0 := Aside0.mk hr0
  have HB := Aside0.mk hB
  have HBK := Aside0.mk hbk
  have HLS := Aside0.mk hls
  have HBL : Aside0 (b < w.heap.size ∧ M < w.heap.size) := ⟨hB.ltb, hB.lt⟩
  clear hr0 hB hbk hls
  go_enter Try.func21, Try.ntmps21
  go_wp2_with fail
  go_loopw [8, 7] (fun v8 v7 wr => ∃ (k : Nat) (fs : List FD) (ds : List S24) (bk' : List ByteArray) (A : Option Addr) (c : Nat), v8 = .int .i64 ((k : Int) + 1) ∧ v7 = .slice A fs.length c ∧ (k + 1 ≤ l.length ∨ k = 0) ∧ ds.length = k ∧ Aside0 (Kd.R kF 24 wr w.heap.size (fun _ => True) (.slice A fs.length c) fs) ∧ Aside0 (Fd wr fs ds) ∧ Aside0 (w.grownBy wr (some M)) ∧ Aside0 (Bk wr b M bk') ∧ Aside0 (Ext bk bk') ∧ Aside0 (bk'.length ≤ bk.length + 3000 * k) ∧ Aside0 (∀ i s t d, l[i]? = some s → l[i + 1]? = some t → ds[i]? = some d → DeltaOf bk' s t d)) (fun v8 _ _ => l.length + 1 - (intOf v8).toNat)
  case atStart => exact ⟨0, [], [], bk, none, 0, rfl, rfl, .inr rfl, rfl, ⟨Kd.R_nil _ _ _ _ _⟩, ⟨Fd.nil _⟩, ⟨gb_refl _ _⟩, HB, ⟨Ext.refl _⟩, ⟨Nat.le_refl _⟩, ⟨fun i s t d _ _ h => by simp at h⟩⟩
  case round =>
    obtain ⟨k, fs, ds, bk', A, c, rfl, rfl, hk, hdk, HRF, HFD, HG, HBR, HX, HL, HD⟩ := hrel
    by_cases hlt : k + 1 < l.length
    · have hb1 : decide ((k : Int) + 1 < (l.length : Int)) = true := decide_eq_true (by omega)
      have hC := C_gbS HR0.out HB.out HG.out
      obtain ⟨ad, hA0, g0⟩ := Kd.at_string hC (k : Int) (by omega) (by omega)
      obtain ⟨ad', hA0', g1⟩ := Kd.at_string hC ((k : Int) + 1) (by omega) (by omega)
      injection hA0 with hA0
      injection hA0' with hA0'
      subst hA0 hA0'
      have hk1 : ((k : Int) + 1).toNat = k + 1 := by omega
      have hkm : (k : Int) + 1 - 1 = (k : Int) := by omega
      rw [Int.toNat_natCast, Addr.add_lit, Nat.zero_add] at g0
      rw [hk1, Addr.add_lit, Nat.zero_add] at g1
      have hs : l[k]? = some (rdOf ByteArray.empty l (k : Int)) := by unfold rdOf; rw [Int.toNat_natCast, List.getD_eq_getElem?_getD, List.getElem?_eq_getElem (by omega : k < l.length)]; rfl
      have ht : l[k + 1]? = some (rdOf ByteArray.empty l ((k : Int) + 1)) := by unfold rdOf; rw [hk1, List.getD_eq_getElem?_getD, List.getElem?_eq_getElem hlt]; rfl
      obtain ⟨s, hsd⟩ : ∃ s, s = rdOf ByteArray.empty l (k : Int) := ⟨_, rfl⟩
      obtain ⟨t, htd⟩ : ∃ t, t = rdOf ByteArray.empty l ((k : Int) + 1) := ⟨_, rfl⟩
      rw [← hsd] at g0 hs
      rw [← htd] at g1 ht
      have hss : s.size ≤ 1000 := HLS.out s (List.mem_of_getElem? hs)
      have hts : t.size ≤ 1000 := HLS.out t (List.mem_of_getElem? ht)
      have HS := Aside0.mk hs
      have HT := Aside0.mk ht
      have HNS : Aside0 (nB s.size bl ≤ 1000) := ⟨by have := nB_le s.size bl (by omega); omega⟩
      have HBB : Aside0 (bk'.length ≤ 1300000) := ⟨by have := HL.out; have := HBK.out; omega⟩
      have HOF := Aside0.mk (fun wx (h : Bk wx b M bk') => of_calls b M bk' s t bl wx h (by have := HNS.out; have := HBB.out; omega) (by omega) (by omega) h0 h1)
      clear hs ht hsd htd hC
      have hwr : IntKind.i64.wrap (k : Int) = (k : Int) := IntWalk.i64_in _ (by omega)
      have q0 : (0 : Int) ≤ (k : Int) := by omega
      have q1 : (k : Int) < (l.length : Int) := by omega
      have q2 : (0 : Int) ≤ (k : Int) + 1 := by omega
      have q3 : (k : Int) + 1 < (l.length : Int) := by omega
      have n0 := World.new_ne wr _ g0
      have n1 := World.new_ne wr _ g1
      go_upto_region 5 with fail
      go_cut [9, 10] (fun v9 v10 wz => ∃ (g : Nat) (A3 : Option Addr) (c3 : Nat) (st : List S54) (bk2 : List ByteArray), v9 = .pointer (some ⟨g, 0, none⟩) ∧ v10 = .int .i64 0 ∧ Aside0 (wz.heap[g]? = some (.cells #[.string (markV bk2 s), .string (markV bk2 t), .int .i64 t.size, .slice A3 st.length c3] 24 (0, 0))) ∧ Aside0 (wr.grownBy wz (some M)) ∧ Aside0 (Bk wz b M bk2) ∧ Aside0 (Ext bk' bk2) ∧ Aside0 (bk2.length ≤ bk'.length + 2500) ∧ Aside0 (s ∈ bk2 ∧ t ∈ bk2) ∧ Aside0 (st.length ≤ c3) ∧ Aside0 (CT wz A3 st.length st) ∧ Aside0 ((∀ x ∈ st, okB s.size x) ∧ runL (L8 s) st = L8 t))
      case first =>
        go_region_held3 (fun w' => w'.cell? ⟨q, k, none⟩ = some (.string s) ∧ w'.cell? ⟨q, k + 1, none⟩ = some (.string t)) (go_keep) (first | (go_at_call 25; ((with_reducible refine (HOF.out _ ?hbk).mono ?_); (case hbk => exact HBR.out.below (by repeat (first | (with_reducible first | exact Below.refl _ _ | apply pw_below_drewN | apply below_drew1 | apply below_alloc) | exact Below.refl _ _))); rintro _ wa ⟨v, st, bk2, rfl, hr, hg, hbk, hx, hl2, hm1, hm2, hok, hrun⟩; have HRA := Aside0.mk hr; have HGA := Aside0.mk hg; have HBA := Aside0.mk hbk; have HXA := Aside0.mk hx; have HLA := Aside0.mk hl2; have HMA := Aside0.mk (And.intro hm1 hm2); have HOA := Aside0.mk (And.intro hok hrun); obtain ⟨A3, c3, hv3⟩ := Kd.R_slice hr; subst hv3; have e1 := cell_gbM (cell_bw g0 (by repeat (first | (with_reducible first | exact Below.refl _ _ | apply pw_below_drewN | apply below_drew1 | apply below_alloc) | exact Below.refl _ _))) (HBR.out.below (by repeat (first | (with_reducible first | exact Below.refl _ _ | apply pw_below_drewN | apply below_drew1 | apply below_alloc) | exact Below.refl _ _))) hg; have e2 := cell_gbM (cell_bw g1 (by repeat (first | (with_reducible first | exact Below.refl _ _ | apply pw_below_drewN | apply below_drew1 | apply below_alloc) | exact Below.refl _ _))) (HBR.out.below (by repeat (first | (with_reducible first | exact Below.refl _ _ | apply pw_below_drewN | apply below_drew1 | apply below_alloc) | exact Below.refl _ _))) hg; have n2 := World.new_ne wa _ e1; have n3 := World.new_ne wa _ e2; (try (have hz := blk_gb hg (show ((wr.alloc (.cells #[.string ⟨#[]⟩, .string ⟨#[]⟩, .int .i64 0, .slice none 0 0] 24 (0, 0))).drew).heap[wr.heap.size]? = some (.cells #[.string ⟨#[]⟩, .string ⟨#[]⟩, .int .i64 0, .slice none 0 0] 24 (0, 0)) from blk_new wr _) (by have := HBR.out.lt; omega); have HZA := Aside0.mk hz; obtain ⟨y0, y1, y2, y3⟩ := blk4 hz; obtain ⟨z0, z1, z2, z3⟩ := blk4f hz; clear hz)); clear hr hg hbk hx hl2 hm1 hm2 hok hrun)))
        all_goals
          have HLA2 : Aside0 (bk2.length ≤ bk'.length + 2500) := ⟨by have := HLA.out; have := HNS.out; omega⟩
          obtain ⟨_, k1, k2⟩ := CT.of HRA.out
          have HK1 := Aside0.mk k1
          have HK2 := Aside0.mk k2
          have HGW : Aside0 (wr.grownBy wa (some M)) := ⟨gb_trans (gb_of (by repeat (first | (with_reducible first | exact Below.refl _ _ | apply pw_below_drewN | apply below_drew1 | apply below_alloc) | exact Below.refl _ _)) (some M)) HGA.out⟩
          clear k1 k2
          go_wp2_with fail
          go_meet
        case rel =>
          exact ⟨_, A3, c3, st, bk2, rfl, rfl, ⟨blk_new wa _⟩, ⟨gb_below HGW.out (below_alloc (Below.refl _ _) _)⟩, ⟨HBA.out.below (below_alloc (Below.refl _ _) _)⟩, HXA, HLA2, HMA, HK1, ⟨HK2.out.below (below_alloc (Below.refl _ _) _)⟩, HOA⟩
        case rel =>
          have hoe : Oe wr wa b M bk2 (.slice A3 st.length c3) st := ⟨HGW.out, HBA.out, ⟨HBR.out.ltb, HBR.out.lt⟩, Kd.R_lower HRA.out (by show wr.heap.size + 1 ≤ _; simp)⟩
          have hof := (((hoe.set 0 (.string (markV bk2 s))).set 1 (.string (markV bk2 t))).set 2 (.int .i64 t.size)).set 3 (.slice A3 st.length c3)
          obtain ⟨_, k1, k2⟩ := CT.of hof.r
          refine ⟨wr.heap.size, A3, c3, st, bk2, rfl, rfl, ⟨?_⟩, ⟨hof.gb⟩, ⟨hof.bk⟩, HXA, HLA2, HMA, ⟨k1⟩, ⟨k2⟩, HOA⟩
          refine blk_put (cs := #[.string (markV bk2 s), .string (markV bk2 t), .int .i64 t.size, .slice none 0 0]) ?_ 3 _ rfl
          refine blk_put (cs := #[.string (markV bk2 s), .string (markV bk2 t), .int .i64 0, .slice none 0 0]) ?_ 2 _ rfl
          refine blk_put (cs := #[.string (markV bk2 s), .string ⟨#[]⟩, .int .i64 0, .slice none 0 0]) ?_ 1 _ rfl
          exact blk_put (cs := #[.string ⟨#[]⟩, .string ⟨#[]⟩, .int .i64 0, .slice none 0 0]) HZA.out 0 _ rfl
      case rest =>
        obtain ⟨g, A3, c3, st, bk2, rfl, rfl, HZ, HGZ, HBZ, HXZ, HLZ, HMZ, HK1, HK2, HOZ⟩ := hcut
        obtain ⟨y0, y1, y2, y3⟩ := blk4 HZ.out
        have HRZ := Aside0.mk (Kd.R_grown2 HRF.out rfl HGZ.out (fun k hk e => by injection hk with hk; have := Kd.R_base HRF.out k e.symm; have := HBL.out; omega))
        have HFZ := Aside0.mk (HFD.out.gb HGZ.out (map_nostep HBR.out))
        obtain ⟨k1, hk1⟩ : ∃ k1, k1 = markV bk2 s := ⟨_, rfl⟩
        obtain ⟨k2, hk2⟩ : ∃ k2, k2 = markV bk2 t := ⟨_, rfl⟩
        have HKK := Aside0.mk (And.intro hk1 hk2)
        have HBZZ : Aside0 (w.heap.size ≤ wc.heap.size) := ⟨Nat.le_trans HG.out.size HGZ.out.size⟩
        rw [← hk1] at y0
        rw [← hk2] at y1
        clear hk1 hk2
        go_wp2_with ((with_reducible refine gate_builtin (b := .append) (xs := #[.tmp 34, .tmp 36]) rfl ?_); at_builtin; go_loud (refine Kd.R_append kF (w0 := wc) w.heap.size rfl (.tmp 34) (.tmp 36) 31 24 (.agg #[(.string ⟨#[]⟩), (.string ⟨#[]⟩), (.int .i64 0), (.slice none 0 0)]) 64 rfl Try.underlying31 info24 rfl (by decide) (by omega) (.slice A fs.length c) fs ⟨k1, k2, t.size, A3, st.length, c3⟩ [.string k1, .string k2, .int .i64 t.size, .slice A3 st.length c3] (fun _ => True) (fun _ => False) rfl ?aX rfl (fun _ hk => hk.elim) (fun _ _ => trivial) HRZ.out (Below.refl _ _) HBZZ.out ?aL ?_; (case aX => (first | rfl | (simp; done))); (case aL => have := HFZ.out.1; omega); intro v1 w1 hR1 hB1 hG1 hO1; have hns : ∀ (g : Nat) (cells : Array Value), (Value.slice A fs.length c).ownBlock = some g → wc.heap[g]? ≠ some (.cells cells 54 (0, 0)) := (fun g cells e hc => by obtain ⟨cs, h⟩ := Kd.R_typed HRZ.out g e; rw [h] at hc; injection hc with hc; injection hc with _ hc; exact absurd hc (by decide)); have HFN := Aside0.mk (Fd.snoc (f := ⟨k1, k2, t.size, A3, st.length, c3⟩) (d := ⟨k1, k2, t.size, st⟩) (HFZ.out.gb hG1 hns) ⟨rfl, rfl, rfl, rfl, HK1.out, HK2.out.gb hG1 hns⟩); have HGN := Aside0.mk (gb_own (gb_trans HG.out HGZ.out) hG1 (fun g hg => Kd.R_base HRZ.out g hg)); have HBN := Aside0.mk (HBZ.out.grown hG1 (fun e => by have := Kd.R_base HRZ.out b e.symm; have := HBL.out; omega) (fun e => by have := Kd.R_base HRZ.out M e.symm; have := HBL.out; omega)); obtain ⟨A1, c1, hv1⟩ := Kd.R_slice hR1; subst hv1; have HRN := Aside0.mk hR1; clear hR1 hB1 hG1 hO1 hns))
        go_roundw
        case rel =>
          obtain ⟨e1, e2⟩ := HKK.out
          refine ⟨k + 1, fs ++ [⟨k1, k2, t.size, A3, st.length, c3⟩], ds ++ [⟨k1, k2, t.size, st⟩], bk2, A1, c1, by go_num, by simp, .inl (by omega), by rw [List.length_append, hdk]; rfl, HRN, HFN, HGN, HBN, ⟨HX.out.trans HXZ.out⟩, ⟨by have := HL.out; have := HLZ.out; omega⟩, ⟨fun i s' t' d' h1' h2' h3' => ?_⟩⟩
          rcases Nat.lt_or_ge i ds.length with hi | hi
          · rw [List.getElem?_append_left hi] at h3'
            exact (HD.out i s' t' d' h1' h2' h3').ext HXZ.out
          · rw [List.getElem?_append_right hi] at h3'
            have hik : i = k := by
              have := (List.getElem?_eq_some_iff.1 h3').1
              simp at this
              omega
            subst hik
            rw [hdk, Nat.sub_self] at h3'
            injection h3' with h3'
            rw [HS.out] at h1'
            rw [HT.out] at h2'
            injection h1' with h1'
            injection h2' with h2'
            subst h1' h2' h3'
            exact ⟨e1, e2, HMZ.out.1, HMZ.out.2, rfl, HOZ.out.1, HOZ.out.2⟩
        case measure => simp [intOf]; omega
    · have hb1 : decide ((k : Int) + 1 < (l.length : Int)) = false := decide_eq_false (by omega)
      obtain ⟨_, k1, k2⟩ := Kd.R_reads' HRF.out
      have HK1 := Aside0.mk k1
      have HK2 := Aside0.mk (C_flat k2 HFD.out)
      have HFL := Aside0.mk HFD.out.1
      clear k1 k2
      go_wp2_with fail
      go_ret
      have e := HFL.out
      have hC := HK2.out
      have hc := HK1.out
      rw [e] at hC hc
      exact ⟨A, c, ds, (by rw [e]; rfl), hc, hC, HG.out, bk', HBR.out, HX.out, by have := HL.out; omega, by omega, HD.out, fun hp => by
        obtain ⟨q, cq, hvq, _⟩ := Kd.R_form HRF.out (by omega)
        injection hvq with hvq _ _
        exact ⟨q, hvq⟩⟩
end Go.Proofs.Ytjgelmfkoefclaa.PAll
