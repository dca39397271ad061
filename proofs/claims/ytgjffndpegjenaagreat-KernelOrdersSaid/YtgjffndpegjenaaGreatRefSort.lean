/-
  The references' small functions on lists of dots and of facts: sorted, each once. (Written by wip/tools/gen_list.py.)
-/
import Derived.Test.YtgjffndpegjenaaGreatProg
import Derived.Test.YtgjffndpegjenaaGreatData
import Derived.Test.YtgjffndpegjenaaGreatGr
import Derived.Test.YtgjffndpegjenaaGreatEq
import Derived.Test.YtgjffndpegjenaaGreatDot
import Derived.Test.YtgjffndpegjenaaGreatList
import Derived.Test.YtgjffndpegjenaaGreatSortU
import Derived.Outline
import Derived.Deep.QuietTactic
import Derived.BigQuiet
import Derived.WalkSpells
import Derived.WalkLawsBesides
import Derived.LoopTactic
import Derived.Lib.Hide
import Derived.Deep.RegionHeld3
import Derived.Deep.DeepCutAuto
namespace Go.Proofs.YtgjffndpegjenaaGreat
open Go.RowKit
set_option linter.unusedVariables false
attribute [local go_sem] lat_alloc lat_drew lat_drewN Lat.refl
attribute [local go_sem high] eqIn_dot eqIn_stamp eqIn_fact

set_option maxRecDepth 100000 in
set_option maxHeartbeats 1000000 in
theorem almonryref11_Sort (A : Option Addr) (n c : Nat) (xs : List Dot) (hl : xs.length = n) (hn : n ≤ 1099511627776) (w : World) (hrd : RdS encDot 2 w A xs) :
    Calls Tryz.prog 122 #[.slice A n c] w fun e w' => ∃ v, e = .returned v ∧ Own encDot 2 37 w.heap.size w' v (sortU dotLt xs) ∧ Lat w w' := by
  have Hin := Lib.hid almonryref11_In
  have Hless := Lib.hid r11_Less
  have Hrd := Lib.hid hrd
  clear hrd
  have hrefl := Lat.refl w
  go_enter Tryz.func122, Tryz.ntmps122
  go_wp2_with fail
  go_loopw [3, 4] (fun v i wr => ∃ k : Nat, k ≤ n ∧ i = .int .i64 k ∧ Own encDot 2 37 w.heap.size wr v (sortU dotLt (xs.take k)) ∧ Lat w wr) (fun _ i _ => n - (intOf i).toNat)
  case atStart => exact ⟨0, by omega, rfl, Own.nil _ _ _ _ _, Lat.refl _⟩
  case round =>
    obtain ⟨k, hk, rfl, hO, hlw⟩ := hrel
    have HO := Lib.hid hO
    obtain ⟨A2, c2, rfl, hle2, hcm2, hr2⟩ := Own.rd encDot_len hO
    clear hO
    have hlen2 : (sortU dotLt (xs.take k)).length ≤ n := by
      have h1 := sortU_length_le dotLt (xs.take k)
      have h2 : (xs.take k).length ≤ xs.length := List.length_take_le' _ _
      omega
    generalize hys : sortU dotLt (xs.take k) = ys at *
    have Hys := Lib.hid hys
    clear hys
    have HR := Lib.hid hr2
    clear hr2
    by_cases hlt : k < n
    · have hx : xs[k]? = some (xs[k]'(by omega)) := List.getElem?_eq_getElem (by omega)
      have ht := List.take_succ_eq_append_getElem (l := xs) (i := k) (by omega)
      obtain ⟨b, o, rfl, hb, hr⟩ := Hrd.out.get k _ hx
      generalize xs[k]'(by omega) = x at *
      have hs : sortU dotLt (xs.take (k + 1)) = insU dotLt x ys := by rw [ht, sortU_snoc, Hys.out]
      have Hs := Lib.hid hs
      have cx0 : ∀ W, Lat w W → W.cell? ⟨b, o + k * 2, none⟩ = some (.int .i64 x.r) := fun W h => hr W (h) 0 _ rfl
      have cx1 : ∀ W, Lat w W → W.cell? ⟨b, o + k * 2 + 1, none⟩ = some (.int .i64 x.n) := fun W h => hr W (h) 1 _ rfl
      clear hx ht hr hs
      have hi0 : (0 : Int) ≤ (k : Int) := by omega
      have hi1 : (k : Int) < (n : Int) := by omega
      go_wp2_with fail
      refine (Hin.out A2 ys.length c2 ys rfl (by omega) x _ HR.out).mono ?_
      rintro e w1 ⟨rfl, hb1⟩
      have hwi : Lat w w1 := hlw.trans hb1
      by_cases hmem : x ∈ ys
      · have hd : decide (x ∈ ys) = true := by simpa using hmem
        have Hmem := Lib.hid hmem
        clear hmem
        go_wp2
        go_roundw
        case rel => exact ⟨k + 1, by omega, by go_num, by rw [Hs.out, insU_in Hmem.out]; exact HO.out.later hb1, hwi⟩
        case measure => simp [intOf]; omega
      · have hd : decide (x ∈ ys) = false := by simpa using hmem
        have Hmem := Lib.hid hmem
        clear hmem
        have HO' := Lib.hid (HO.out.later hb1)
        have HR' := Lib.hid (HR.out.later hb1)
        clear HO HR
        obtain ⟨wi, rfl⟩ : ∃ wi : World, wi = w1 := ⟨_, rfl⟩
        have hrefi := Lat.refl wi
        go_wp2_with fail
        go_loopw [5] (fun i wr => ∃ j : Nat, j ≤ ys.length ∧ i = .int .i64 j ∧ (∀ y ∈ ys.take j, dotLt y x = true) ∧ Lat wi wr) (fun i _ => ys.length - (intOf i).toNat)
        case atStart => exact ⟨0, by omega, rfl, by simp, Lat.refl _⟩
        case round =>
          obtain ⟨j, hj, rfl, hall, hl2⟩ := hrel
          have Hall := Lib.hid hall
          clear hall
          have cz0 := fun W (h : Lat wi W) => cx0 W (hwi.trans h)
          have cz1 := fun W (h : Lat wi W) => cx1 W (hwi.trans h)
          clear cx0 cx1
          by_cases hjl : j < ys.length
          · have hy : ys[j]? = some (ys[j]'hjl) := List.getElem?_eq_getElem hjl
            have hty := List.take_succ_eq_append_getElem (l := ys) (i := j) hjl
            obtain ⟨b2, o2, rfl, hbb2, hr2⟩ := HR'.out.get j _ hy
            generalize ys[j]'hjl = y at *
            have cy0 : ∀ W, Lat wi W → W.cell? ⟨b2, o2 + j * 2, none⟩ = some (.int .i64 y.r) := fun W h => hr2 W (h) 0 _ rfl
            have cy1 : ∀ W, Lat wi W → W.cell? ⟨b2, o2 + j * 2 + 1, none⟩ = some (.int .i64 y.n) := fun W h => hr2 W (h) 1 _ rfl
            have Hy := Lib.hid hy
            have Hty := Lib.hid hty
            clear hy hty hr2
            have hj0 : (0 : Int) ≤ (j : Int) := by omega
            have hj1 : (j : Int) < (ys.length : Int) := by omega
            go_wp2_with fail
            have hl2' := lat_drew hl2
            go_region_held3 (fun W => Lat wi W) (first | ((repeat (first | with_reducible exact Lat.refl _ | with_reducible assumption | with_reducible apply lat_alloc | with_reducible apply lat_drewN | with_reducible apply lat_drew)); done) | (refine hb1.pre ?_; ((repeat (first | with_reducible exact Lat.refl _ | with_reducible assumption | with_reducible apply lat_alloc | with_reducible apply lat_drewN | with_reducible apply lat_drew)); done))) (first | (go_at_call 200; refine (Hless.out _ _ _).mono ?_; rintro e w' ⟨rfl, hb1⟩))
            have hT0 : Lat wi w' := ‹_›
            cases hq : dotLt y x
            · have Hnone : Hid (∀ z, ys[j]? = some z → dotLt z x = false) := fun z hz => by
                have h1 := Hy.out
                rw [hz] at h1
                injection h1 with h1
                rw [h1]; exact hq
              clear hq
              obtain ⟨wt, rfl⟩ : ∃ wt : World, wt = w' := ⟨_, rfl⟩
              have hT := hT0
              clear hT0
              have HT := Lib.hid hT
              have HRt := Lib.hid (HR'.out.later hT)
              clear hT
              go_upto_region 10 with (fail)
              go_upto_region 11 with ((at_builtin; go_must (refine appS encDot_len encDot_one (by omega) (w0 := wt) rfl _ _ 29 37 _ 16 rfl Tryz.underlying29 info_dot rfl (.slice none 0 0) [] (ys.take j) _ j c2 (by simp; omega) rfl rfl (Own.nil _ _ _ _ _) (HRt.out.take j) (Lat.refl wt) (by simp; omega) (by simp; omega) ?_; intro va wa hOa hLa)))
              rw [List.nil_append] at hOa
              have HOa := Lib.hid hOa
              have hwa := HT.out.trans hLa
              clear hOa
              go_upto_region 12 with ((at_builtin; go_must (refine app1 encDot_len encDot_one (by omega) (w0 := wt) rfl _ _ 29 37 _ 16 rfl Tryz.underlying29 info_dot rfl va (ys.take j) x _ rfl rfl rfl HOa.out hLa (by simp; omega) (by simp; omega) ?_; intro vb wb hOb hLb)))
              have HOb := Lib.hid hOb
              clear hOb
              have hRb := (HRt.out.later hLb).drop j c2 hle2
              rw [if_neg (by omega)] at hRb
              simp only [Option.map_some, Addr.add_mid] at hRb
              have HRb := Lib.hid hRb
              clear hRb
              go_upto_region 13 with ((at_builtin; go_must (refine appS encDot_len encDot_one (by omega) (w0 := wt) rfl _ _ 29 37 _ 16 rfl Tryz.underlying29 info_dot rfl vb (ys.take j ++ [x]) (ys.drop j) _ (ys.length - j) (c2 - j) (by simp) rfl rfl HOb.out HRb.out hLb (by simp; omega) (by simp; omega) ?_; intro vc wc hOc hLc)))
              have HOc := Lib.hid hOc
              clear hOc
              go_wp2
              go_roundw
              case rel => exact ⟨k + 1, by omega, by go_num, by rw [Hs.out, insU_out Hmem.out hj Hall.out Hnone.out]; exact HOc.out.base_le (hwi.trans HT.out).size, (hwi.trans HT.out).trans hLc⟩
              case measure => simp [intOf]; omega
            · have Hq := Lib.hid hq
              clear hq
              go_wp2
              go_roundw
              case rel => exact ⟨j + 1, by omega, by go_num, fun z hz => by
                rw [Hty.out, List.mem_append, List.mem_singleton] at hz
                rcases hz with hz | rfl
                · exact Hall.out z hz
                · exact Hq.out, hT0⟩
              case measure => simp [intOf]; omega
          · have hjl' : ¬ (j : Int) < (ys.length : Int) := by omega
            have Hnone : Hid (∀ z, ys[j]? = some z → dotLt z x = false) := fun z hz => by
              rw [List.getElem?_eq_none (by omega)] at hz; cases hz
            go_wp2_with fail
            go_quiet (fail)
            have hT := lat_drewN hl2 nq
            generalize wr.drewN nq = wt at *
            have HT := Lib.hid hT
            have HRt := Lib.hid (HR'.out.later hT)
            clear hT
            go_upto_region 10 with (fail)
            go_upto_region 11 with ((at_builtin; go_must (refine appS encDot_len encDot_one (by omega) (w0 := wt) rfl _ _ 29 37 _ 16 rfl Tryz.underlying29 info_dot rfl (.slice none 0 0) [] (ys.take j) _ j c2 (by simp; omega) rfl rfl (Own.nil _ _ _ _ _) (HRt.out.take j) (Lat.refl wt) (by simp; omega) (by simp; omega) ?_; intro va wa hOa hLa)))
            rw [List.nil_append] at hOa
            have HOa := Lib.hid hOa
            have hwa := HT.out.trans hLa
            clear hOa
            go_upto_region 12 with ((at_builtin; go_must (refine app1 encDot_len encDot_one (by omega) (w0 := wt) rfl _ _ 29 37 _ 16 rfl Tryz.underlying29 info_dot rfl va (ys.take j) x _ rfl rfl rfl HOa.out hLa (by simp; omega) (by simp; omega) ?_; intro vb wb hOb hLb)))
            have HOb := Lib.hid hOb
            clear hOb
            go_upto_region 13 with ((at_builtin; go_must (refine appS encDot_len encDot_one (by omega) (w0 := wt) rfl _ _ 29 37 _ 16 rfl Tryz.underlying29 info_dot rfl vb (ys.take j ++ [x]) (ys.drop j) _ (ys.length - j) (c2 - j) (by simp) rfl rfl HOb.out (by rw [List.drop_of_length_le (by omega)]; exact RdS.nil _ _ _ _) hLb (by simp; omega) (by simp; omega) ?_; intro vc wc hOc hLc)))
            have HOc := Lib.hid hOc
            clear hOc
            go_wp2
            go_roundw
            case rel => exact ⟨k + 1, by omega, by go_num, by rw [Hs.out, insU_out Hmem.out hj Hall.out Hnone.out]; exact HOc.out.base_le (hwi.trans HT.out).size, (hwi.trans HT.out).trans hLc⟩
            case measure => simp [intOf]; omega
    · go_wp2
      go_ret
      refine ⟨_, rfl, ?_, hlw⟩
      have h := Hys.out
      rw [List.take_of_length_le (by omega)] at h
      rw [h]
      exact HO.out

set_option maxRecDepth 100000 in
set_option maxHeartbeats 1000000 in
theorem almonryref15_Sort (A : Option Addr) (n c : Nat) (xs : List Fact) (hl : xs.length = n) (hn : n ≤ 1099511627776) (w : World) (hrd : RdS encFact 8 w A xs) :
    Calls Tryz.prog 24 #[.slice A n c] w fun e w' => ∃ v, e = .returned v ∧ Own encFact 8 77 w.heap.size w' v (sortU factLt xs) ∧ Lat w w' := by
  have Hin := Lib.hid almonryref15_In
  have Hless := Lib.hid r15_Less
  have Hrd := Lib.hid hrd
  clear hrd
  have hrefl := Lat.refl w
  go_enter Tryz.func24, Tryz.ntmps24
  go_wp2_with fail
  go_loopw [3, 4] (fun v i wr => ∃ k : Nat, k ≤ n ∧ i = .int .i64 k ∧ Own encFact 8 77 w.heap.size wr v (sortU factLt (xs.take k)) ∧ Lat w wr) (fun _ i _ => n - (intOf i).toNat)
  case atStart => exact ⟨0, by omega, rfl, Own.nil _ _ _ _ _, Lat.refl _⟩
  case round =>
    obtain ⟨k, hk, rfl, hO, hlw⟩ := hrel
    have HO := Lib.hid hO
    obtain ⟨A2, c2, rfl, hle2, hcm2, hr2⟩ := Own.rd encFact_len hO
    clear hO
    have hlen2 : (sortU factLt (xs.take k)).length ≤ n := by
      have h1 := sortU_length_le factLt (xs.take k)
      have h2 : (xs.take k).length ≤ xs.length := List.length_take_le' _ _
      omega
    generalize hys : sortU factLt (xs.take k) = ys at *
    have Hys := Lib.hid hys
    clear hys
    have HR := Lib.hid hr2
    clear hr2
    by_cases hlt : k < n
    · have hx : xs[k]? = some (xs[k]'(by omega)) := List.getElem?_eq_getElem (by omega)
      have ht := List.take_succ_eq_append_getElem (l := xs) (i := k) (by omega)
      obtain ⟨b, o, rfl, hb, hr⟩ := Hrd.out.get k _ hx
      generalize xs[k]'(by omega) = x at *
      have hs : sortU factLt (xs.take (k + 1)) = insU factLt x ys := by rw [ht, sortU_snoc, Hys.out]
      have Hs := Lib.hid hs
      have cx0 : ∀ W, Lat w W → W.cell? ⟨b, o + k * 8, none⟩ = some (.int .i64 x.dot.r) := fun W h => hr W (h) 0 _ rfl
      have cx1 : ∀ W, Lat w W → W.cell? ⟨b, o + k * 8 + 1, none⟩ = some (.int .i64 x.dot.n) := fun W h => hr W (h) 1 _ rfl
      have cx2 : ∀ W, Lat w W → W.cell? ⟨b, o + k * 8 + 2, none⟩ = some (.int .i64 x.stamp.t) := fun W h => hr W (h) 2 _ rfl
      have cx3 : ∀ W, Lat w W → W.cell? ⟨b, o + k * 8 + 3, none⟩ = some (.int .i64 x.stamp.c) := fun W h => hr W (h) 3 _ rfl
      have cx4 : ∀ W, Lat w W → W.cell? ⟨b, o + k * 8 + 4, none⟩ = some (.int .i64 x.stamp.r) := fun W h => hr W (h) 4 _ rfl
      have cx5 : ∀ W, Lat w W → W.cell? ⟨b, o + k * 8 + 5, none⟩ = some (.int .i64 x.kind) := fun W h => hr W (h) 5 _ rfl
      have cx6 : ∀ W, Lat w W → W.cell? ⟨b, o + k * 8 + 6, none⟩ = some (.string x.name) := fun W h => hr W (h) 6 _ rfl
      have cx7 : ∀ W, Lat w W → W.cell? ⟨b, o + k * 8 + 7, none⟩ = some (.string x.value) := fun W h => hr W (h) 7 _ rfl
      clear hx ht hr hs
      have hi0 : (0 : Int) ≤ (k : Int) := by omega
      have hi1 : (k : Int) < (n : Int) := by omega
      go_wp2_with fail
      refine (Hin.out A2 ys.length c2 ys rfl (by omega) x _ HR.out).mono ?_
      rintro e w1 ⟨rfl, hb1⟩
      have hwi : Lat w w1 := hlw.trans hb1
      by_cases hmem : x ∈ ys
      · have hd : decide (x ∈ ys) = true := by simpa using hmem
        have Hmem := Lib.hid hmem
        clear hmem
        go_wp2
        go_roundw
        case rel => exact ⟨k + 1, by omega, by go_num, by rw [Hs.out, insU_in Hmem.out]; exact HO.out.later hb1, hwi⟩
        case measure => simp [intOf]; omega
      · have hd : decide (x ∈ ys) = false := by simpa using hmem
        have Hmem := Lib.hid hmem
        clear hmem
        have HO' := Lib.hid (HO.out.later hb1)
        have HR' := Lib.hid (HR.out.later hb1)
        clear HO HR
        obtain ⟨wi, rfl⟩ : ∃ wi : World, wi = w1 := ⟨_, rfl⟩
        have hrefi := Lat.refl wi
        go_wp2_with fail
        go_loopw [5] (fun i wr => ∃ j : Nat, j ≤ ys.length ∧ i = .int .i64 j ∧ (∀ y ∈ ys.take j, factLt y x = true) ∧ Lat wi wr) (fun i _ => ys.length - (intOf i).toNat)
        case atStart => exact ⟨0, by omega, rfl, by simp, Lat.refl _⟩
        case round =>
          obtain ⟨j, hj, rfl, hall, hl2⟩ := hrel
          have Hall := Lib.hid hall
          clear hall
          have cz0 := fun W (h : Lat wi W) => cx0 W (hwi.trans h)
          have cz1 := fun W (h : Lat wi W) => cx1 W (hwi.trans h)
          have cz2 := fun W (h : Lat wi W) => cx2 W (hwi.trans h)
          have cz3 := fun W (h : Lat wi W) => cx3 W (hwi.trans h)
          have cz4 := fun W (h : Lat wi W) => cx4 W (hwi.trans h)
          have cz5 := fun W (h : Lat wi W) => cx5 W (hwi.trans h)
          have cz6 := fun W (h : Lat wi W) => cx6 W (hwi.trans h)
          have cz7 := fun W (h : Lat wi W) => cx7 W (hwi.trans h)
          clear cx0 cx1 cx2 cx3 cx4 cx5 cx6 cx7
          by_cases hjl : j < ys.length
          · have hy : ys[j]? = some (ys[j]'hjl) := List.getElem?_eq_getElem hjl
            have hty := List.take_succ_eq_append_getElem (l := ys) (i := j) hjl
            obtain ⟨b2, o2, rfl, hbb2, hr2⟩ := HR'.out.get j _ hy
            generalize ys[j]'hjl = y at *
            have cy0 : ∀ W, Lat wi W → W.cell? ⟨b2, o2 + j * 8, none⟩ = some (.int .i64 y.dot.r) := fun W h => hr2 W (h) 0 _ rfl
            have cy1 : ∀ W, Lat wi W → W.cell? ⟨b2, o2 + j * 8 + 1, none⟩ = some (.int .i64 y.dot.n) := fun W h => hr2 W (h) 1 _ rfl
            have cy2 : ∀ W, Lat wi W → W.cell? ⟨b2, o2 + j * 8 + 2, none⟩ = some (.int .i64 y.stamp.t) := fun W h => hr2 W (h) 2 _ rfl
            have cy3 : ∀ W, Lat wi W → W.cell? ⟨b2, o2 + j * 8 + 3, none⟩ = some (.int .i64 y.stamp.c) := fun W h => hr2 W (h) 3 _ rfl
            have cy4 : ∀ W, Lat wi W → W.cell? ⟨b2, o2 + j * 8 + 4, none⟩ = some (.int .i64 y.stamp.r) := fun W h => hr2 W (h) 4 _ rfl
            have cy5 : ∀ W, Lat wi W → W.cell? ⟨b2, o2 + j * 8 + 5, none⟩ = some (.int .i64 y.kind) := fun W h => hr2 W (h) 5 _ rfl
            have cy6 : ∀ W, Lat wi W → W.cell? ⟨b2, o2 + j * 8 + 6, none⟩ = some (.string y.name) := fun W h => hr2 W (h) 6 _ rfl
            have cy7 : ∀ W, Lat wi W → W.cell? ⟨b2, o2 + j * 8 + 7, none⟩ = some (.string y.value) := fun W h => hr2 W (h) 7 _ rfl
            have Hy := Lib.hid hy
            have Hty := Lib.hid hty
            clear hy hty hr2
            have hj0 : (0 : Int) ≤ (j : Int) := by omega
            have hj1 : (j : Int) < (ys.length : Int) := by omega
            go_wp2_with fail
            have hl2' := lat_drew hl2
            go_region_held3 (fun W => Lat wi W) (first | ((repeat (first | with_reducible exact Lat.refl _ | with_reducible assumption | with_reducible apply lat_alloc | with_reducible apply lat_drewN | with_reducible apply lat_drew)); done) | (refine hb1.pre ?_; ((repeat (first | with_reducible exact Lat.refl _ | with_reducible assumption | with_reducible apply lat_alloc | with_reducible apply lat_drewN | with_reducible apply lat_drew)); done))) (first | (go_at_call 89; refine (Hless.out _ _ _).mono ?_; rintro e w' ⟨rfl, hb1⟩))
            have hT0 : Lat wi w' := ‹_›
            cases hq : factLt y x
            · have Hnone : Hid (∀ z, ys[j]? = some z → factLt z x = false) := fun z hz => by
                have h1 := Hy.out
                rw [hz] at h1
                injection h1 with h1
                rw [h1]; exact hq
              clear hq
              obtain ⟨wt, rfl⟩ : ∃ wt : World, wt = w' := ⟨_, rfl⟩
              have hT := hT0
              clear hT0
              have HT := Lib.hid hT
              have HRt := Lib.hid (HR'.out.later hT)
              clear hT
              go_upto_region 10 with (fail)
              go_upto_region 11 with ((at_builtin; go_must (refine appS encFact_len encFact_one (by omega) (w0 := wt) rfl _ _ 26 77 _ 80 rfl Tryz.underlying26 info_fact rfl (.slice none 0 0) [] (ys.take j) _ j c2 (by simp; omega) rfl rfl (Own.nil _ _ _ _ _) (HRt.out.take j) (Lat.refl wt) (by simp; omega) (by simp; omega) ?_; intro va wa hOa hLa)))
              rw [List.nil_append] at hOa
              have HOa := Lib.hid hOa
              have hwa := HT.out.trans hLa
              clear hOa
              go_upto_region 12 with ((at_builtin; go_must (refine app1 encFact_len encFact_one (by omega) (w0 := wt) rfl _ _ 26 77 _ 80 rfl Tryz.underlying26 info_fact rfl va (ys.take j) x _ rfl rfl rfl HOa.out hLa (by simp; omega) (by simp; omega) ?_; intro vb wb hOb hLb)))
              have HOb := Lib.hid hOb
              clear hOb
              have hRb := (HRt.out.later hLb).drop j c2 hle2
              rw [if_neg (by omega)] at hRb
              simp only [Option.map_some, Addr.add_mid] at hRb
              have HRb := Lib.hid hRb
              clear hRb
              go_upto_region 13 with ((at_builtin; go_must (refine appS encFact_len encFact_one (by omega) (w0 := wt) rfl _ _ 26 77 _ 80 rfl Tryz.underlying26 info_fact rfl vb (ys.take j ++ [x]) (ys.drop j) _ (ys.length - j) (c2 - j) (by simp) rfl rfl HOb.out HRb.out hLb (by simp; omega) (by simp; omega) ?_; intro vc wc hOc hLc)))
              have HOc := Lib.hid hOc
              clear hOc
              go_wp2
              go_roundw
              case rel => exact ⟨k + 1, by omega, by go_num, by rw [Hs.out, insU_out Hmem.out hj Hall.out Hnone.out]; exact HOc.out.base_le (hwi.trans HT.out).size, (hwi.trans HT.out).trans hLc⟩
              case measure => simp [intOf]; omega
            · have Hq := Lib.hid hq
              clear hq
              go_wp2
              go_roundw
              case rel => exact ⟨j + 1, by omega, by go_num, fun z hz => by
                rw [Hty.out, List.mem_append, List.mem_singleton] at hz
                rcases hz with hz | rfl
                · exact Hall.out z hz
                · exact Hq.out, hT0⟩
              case measure => simp [intOf]; omega
          · have hjl' : ¬ (j : Int) < (ys.length : Int) := by omega
            have Hnone : Hid (∀ z, ys[j]? = some z → factLt z x = false) := fun z hz => by
              rw [List.getElem?_eq_none (by omega)] at hz; cases hz
            go_wp2_with fail
            go_quiet (fail)
            have hT := lat_drewN hl2 nq
            generalize wr.drewN nq = wt at *
            have HT := Lib.hid hT
            have HRt := Lib.hid (HR'.out.later hT)
            clear hT
            go_upto_region 10 with (fail)
            go_upto_region 11 with ((at_builtin; go_must (refine appS encFact_len encFact_one (by omega) (w0 := wt) rfl _ _ 26 77 _ 80 rfl Tryz.underlying26 info_fact rfl (.slice none 0 0) [] (ys.take j) _ j c2 (by simp; omega) rfl rfl (Own.nil _ _ _ _ _) (HRt.out.take j) (Lat.refl wt) (by simp; omega) (by simp; omega) ?_; intro va wa hOa hLa)))
            rw [List.nil_append] at hOa
            have HOa := Lib.hid hOa
            have hwa := HT.out.trans hLa
            clear hOa
            go_upto_region 12 with ((at_builtin; go_must (refine app1 encFact_len encFact_one (by omega) (w0 := wt) rfl _ _ 26 77 _ 80 rfl Tryz.underlying26 info_fact rfl va (ys.take j) x _ rfl rfl rfl HOa.out hLa (by simp; omega) (by simp; omega) ?_; intro vb wb hOb hLb)))
            have HOb := Lib.hid hOb
            clear hOb
            go_upto_region 13 with ((at_builtin; go_must (refine appS encFact_len encFact_one (by omega) (w0 := wt) rfl _ _ 26 77 _ 80 rfl Tryz.underlying26 info_fact rfl vb (ys.take j ++ [x]) (ys.drop j) _ (ys.length - j) (c2 - j) (by simp) rfl rfl HOb.out (by rw [List.drop_of_length_le (by omega)]; exact RdS.nil _ _ _ _) hLb (by simp; omega) (by simp; omega) ?_; intro vc wc hOc hLc)))
            have HOc := Lib.hid hOc
            clear hOc
            go_wp2
            go_roundw
            case rel => exact ⟨k + 1, by omega, by go_num, by rw [Hs.out, insU_out Hmem.out hj Hall.out Hnone.out]; exact HOc.out.base_le (hwi.trans HT.out).size, (hwi.trans HT.out).trans hLc⟩
            case measure => simp [intOf]; omega
    · go_wp2
      go_ret
      refine ⟨_, rfl, ?_, hlw⟩
      have h := Hys.out
      rw [List.take_of_length_le (by omega)] at h
      rw [h]
      exact HO.out
end Go.Proofs.YtgjffndpegjenaaGreat
