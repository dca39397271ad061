/-
  The law's own walk: whatever deltas are put on in whatever order, what is left is what the law gathers.
-/
import Derived.Test.YtgjffndpegjenaaGreatKAwake
import Derived.Test.YtgjffndpegjenaaGreatRAdd
import Derived.Test.YtgjffndpegjenaaGreatKOwn
import Derived.Outline
import Derived.Deep.QuietTactic
import Derived.BigQuiet
import Derived.WalkSpells
import Derived.WalkLawsBesides
import Derived.LoopTactic
import Derived.Lib.Hide
import Derived.Deep.RegionHeld3
import Derived.Deep.DeepCutAuto
set_option linter.unusedVariables false
set_option linter.unusedSimpArgs false
set_option linter.unusedSectionVars false
namespace Go.Proofs.YtgjffndpegjenaaGreat
open Go.RowKit
attribute [local go_sem] lat_alloc lat_drew lat_drewN Lat.refl

def encU8 (n : Nat) : List Value := [.int .u8 (n : Int)]
def boolCells (l : List Bool) : List Value := l.map Value.bool
/-- What holds at the head of each round: the side x, its context's box bc, the marks' box bs. -/
structure LInv (w Wb : World) (bc bs : Nat) (ds : List DeltaV) (m : Nat) (i : Nat) (v : Value) (cnt : Int) (wr : World) (xs : List Fact) (cv : CtxV) (seen : List Bool) : Prop where
  lat : Lat w wr
  hbc : bc < Wb.heap.size
  hbs : bs < Wb.heap.size
  hne : bc ≠ bs
  wbc : w.heap.size ≤ bc
  wbs : w.heap.size ≤ bs
  size : Wb.heap.size ≤ wr.heap.size
  kc : wr.heap[bc]? = some (.cells (ctxCells cv).toArray 31 (0, 0))
  ks : wr.heap[bs]? = some (.cells (boolCells seen).toArray 32 (0, 0))
  own : Own encFact 8 77 Wb.heap.size wr v xs
  cloud : Own encDot 2 37 Wb.heap.size wr (.slice cv.A cv.cloud.length cv.cap) cv.cloud
  vlen : cv.v.length = 16
  inv : KInv ds (seenOf seen) xs cv.v cv.cloud
  slen : seen.length = 16
  cnt : cnt = (countT seen : Int)
  xl : xs.length ≤ 8 * i
  cl : cv.cloud.length ≤ 21 * i
  done : ∀ k, k + m < i → ownAt ds k → seenOf seen k

section
variable {α β : Type} {enc : α → List Value} {enc2 : β → List Value} {k k2 : Nat} {e e2 : TypeId} {base base2 : Nat} {w W : World} {v v2 : Value} {xs : List α} {ys : List β}
theorem Own.far (h : Own enc k e base w v xs) {row : Option Nat} (hg : w.grownBy W row) (hne : ∀ g, v.ownBlock = some g → row ≠ some g) : Own enc k e base W v xs := by
  obtain ⟨h1, h2⟩ := h
  refine ⟨h1, ?_⟩
  rcases h2 with h2 | ⟨g, cap, cur, rfl, hb, hh, r⟩
  · exact .inl h2
  · refine .inr ⟨g, cap, cur, rfl, hb, ?_, r⟩
    rw [hg.block g (lt_of_block hh) (fun e => hne g rfl e.symm)]
    exact hh
theorem own_apart (h : Own enc k e base w v xs) (h2 : Own enc2 k2 e2 base2 w v2 ys) (hne : e ≠ e2) : ∀ g, v.ownBlock = some g → v2.ownBlock ≠ some g := by
  intro g hg hg2
  rcases h.2 with ⟨rfl, _⟩ | ⟨g1, cap, cur, rfl, _, hh, _⟩
  · simp [Value.ownBlock] at hg
  · rcases h2.2 with ⟨rfl, _⟩ | ⟨g2, cap2, cur2, rfl, _, hh2, _⟩
    · simp [Value.ownBlock] at hg2
    · simp only [Value.ownBlock, Option.some.injEq] at hg hg2
      subst hg
      subst hg2
      rw [hh] at hh2
      injection hh2 with hh2
      injection hh2 with _ hh2
      exact hne hh2
end
section
variable {P : Program} {ops : Array Oper} {rest : List Oper} {o : Oper} {a : Act} {Q : Exit → Act → World → Prop}
/-- append(v, ys...), v the call's own, ys whatever is read; what else may have turned: the row's own block alone. -/
theorem appSg {α : Type} {enc : α → List Value} {k : Nat} (hk : ∀ x, (enc x).length = k) (h1 : ∀ x, ∀ u ∈ enc x, u.oneCell' = true) (hk0 : 0 < k) {base : Nat} {W : World} (hgd : o.guard = none) (s x : Operand) (t e : TypeId) (z : Value) (bytes : Nat)
    (ho : o.op = .call { callee := .builtin .append, args := #[s, x], argTypes := #[t, t] })
    (ht : P.underlying t = some (.slice e)) (hinfo : (P.info? e).map (fun i => (i.zero, i.size, i.bytes)) = some (some z, k, bytes)) (hz : z.cells.size = k)
    (v : Value) (xs ys : List α) (A : Option Addr) (m c : Nat) (hm : ys.length = m) (hs : a.eval s = v) (hx : a.eval x = .slice A m c)
    (HO : Own enc k e base W v xs) (HR : RdS enc k W A ys) (HB : base ≤ W.heap.size) (hl : (xs.length + m) * bytes ≤ 140737488355328) (hn : xs.length + m ≤ 140737488355328)
    (h : ∀ v1 w1, Own enc k e base w1 v1 (xs ++ ys) → W.grownBy w1 v.ownBlock → wpList P ops Q rest (a.put o.dst v1) w1) :
    wpList P ops Q (o :: rest) a W := by
  obtain ⟨v1, w1, hr, hO, hG⟩ := run_appS (P := P) (W := W) (base := base) hk h1 hk0 t o.type e z bytes ht hinfo hz v xs ys A m c hm HO HR HB hl hn
  refine wpList_plain hgd fun K hK => ?_
  unfold Oper.wp execOp
  simp only [ho, resolve, invoke, builtin, Sem.run_bind, Sem.run_pure, Result.andThen_ok, List.map_toArray, List.map_cons, List.map_nil, hs, hx, hr]
  exact hK _ _ (h v1 w1 hO hG)
end

section
variable {w Wb w4 : World} {bc bs : Nat} {ds : List DeltaV} {m k : Nat} {v : Value} {cnt : Int} {xs : List Fact} {cv : CtxV} {seen : List Bool}
theorem LInv.later (h : LInv w Wb bc bs ds m k v cnt w4 xs cv seen) {W : World} (hl : Lat w4 W) : LInv w Wb bc bs ds m k v cnt W xs cv seen :=
  { h with lat := h.lat.trans hl, size := Nat.le_trans h.size hl.size, kc := hl.block h.kc, ks := hl.block h.ks, own := h.own.later hl, cloud := h.cloud.later hl }
theorem LInv.skip (h : LInv w Wb bc bs ds m k v cnt w4 xs cv seen) (hd : ∀ j, j + m = k → ¬ ownAt ds j) : LInv w Wb bc bs ds m (k + 1) v cnt w4 xs cv seen :=
  { h with xl := Nat.le_trans h.xl (by omega), cl := Nat.le_trans h.cl (by omega), done := fun j hj ho => (Classical.em (j + m = k)).elim (fun e => absurd ho (hd j e)) (fun e => h.done j (by omega) ho) }
theorem apply_from {P : Program} {f : FuncId} {args : Array Value} {w4 W : World} (h : Lat w4 W) {F : Value → CtxV → Ending → World → Prop} (hc : Calls P f args W fun e w' => ∃ v z, F v z e w') : Calls P f args W fun e w' => ∃ v z, F v z e w' ∧ w4.heap.size ≤ W.heap.size :=
  hc.mono fun _ _ ⟨v, z, hF⟩ => ⟨v, z, hF, h.size⟩
theorem gen_exit {K : Act → World → Prop} {Q : Exit → Act → World → Prop} {e : Exit} {a : Act} {W : World} (R : World → Prop) (hW : R W) (h : ∀ W', R W' → Exit.then K Q e a W') : Exit.then K Q e a W := h W hW
theorem boolCells_get {l : List Bool} {j : Nat} {b : Bool} (h : l[j]? = some b) : (boolCells l).toArray[j]? = some (.bool b) := by
  simp [boolCells, h]
/-- A delta put on. -/
theorem LInv.put (h : LInv w Wb bc bs ds m k v cnt w4 xs cv seen) {kk : Nat} {d : DeltaV} (hd : ds[kk]? = some d) (ho : ownAt ds kk) (hs : smallD d) (hdone : ∀ j, j + m = k → j = kk) {v5 : Value} {z : CtxV} {W5 : World}
    (hz : (z.v, z.cloud) = (kApply xs cv.v cv.cloud d).2) (hOz : Own encDot 2 37 w4.heap.size W5 (.slice z.A z.cloud.length z.cap) z.cloud) (hOv : Own encFact 8 77 w4.heap.size W5 v5 (kApply xs cv.v cv.cloud d).1) (hL : Lat w4 W5) (hzl : z.v.length = 16) (hn16 : ds.length ≤ 16) :
    (seen[kk]? = some true → LInv w Wb bc bs ds m (k + 1) v5 cnt (W5.setCells bc 0 (ctxCells z)) (kApply xs cv.v cv.cloud d).1 z seen) ∧
    (seen[kk]? = some false → LInv w Wb bc bs ds m (k + 1) v5 (cnt + 1) ((W5.setCells bc 0 (ctxCells z)).setCell ⟨bs, kk, none⟩ (.bool true)) (kApply xs cv.v cv.cloud d).1 z (seen.set kk true)) := by
  have hinv := kinv_step h.inv kk d hd ho
  have hz1 : (kApply xs cv.v cv.cloud d).2.1 = z.v := congrArg Prod.fst hz.symm
  have hz2 : (kApply xs cv.v cv.cloud d).2.2 = z.cloud := congrArg Prod.snd hz.symm
  rw [hz1, hz2] at hinv
  have hg := setCells_grown bc (ctxCells z) 0 W5
  have hbc4 : bc < w4.heap.size := Nat.lt_of_lt_of_le h.hbc h.size
  have hbs4 : bs < w4.heap.size := Nat.lt_of_lt_of_le h.hbs h.size
  have hsz : (ctxCells z).length = (ctxCells cv).toArray.size := by rw [List.size_toArray, ctxCells_len _ hzl, ctxCells_len _ h.vlen]
  have hkc := block_whole (hL.block h.kc) (ctxCells z) hsz
  have hks : (W5.setCells bc 0 (ctxCells z)).heap[bs]? = some (.cells (boolCells seen).toArray 32 (0, 0)) := (setCells_other (W := W5) (Ne.symm h.hne) (ctxCells z) 0 W5).trans (hL.block h.ks)
  have hx := kApply_len xs cv.v cv.cloud d
  have hc := kApply_cloud xs cv.v cv.cloud d
  rw [hz2] at hc
  have hs1 := hs.1
  have hs2 := hs.2
  have hxl := h.xl
  have hcl := h.cl
  have hlat : Lat w (W5.setCells bc 0 (ctxCells z)) := lat_setCells h.wbc _ _ (h.lat.trans hL)
  have hO1 := (hOv.grown hg hbc4).base_le h.size
  have hO2 := (hOz.grown hg hbc4).base_le h.size
  have hkl : kk < seen.length := by
    obtain ⟨d', hd', _⟩ := ho
    have := lt_of_get hd'
    rw [h.slen]
    omega
  constructor
  · intro hsn
    exact ⟨hlat, h.hbc, h.hbs, h.hne, h.wbc, h.wbs, Nat.le_trans h.size (Nat.le_trans hL.size hg.size), hkc, hks, hO1, hO2, hzl, kinv_congr hinv (fun j => ⟨fun hj => by rcases hj with hj | rfl; exact hj; exact hsn, .inl⟩), h.slen, h.cnt, by omega, by omega, fun j hj hoj => by
      by_cases e : j + m = k
      · rw [hdone j e]; exact hsn
      · exact h.done j (by omega) hoj⟩
  · intro hsn
    have hg2 := set_grown (W5.setCells bc 0 (ctxCells z)) bs kk (.bool true)
    refine ⟨lat_set hlat h.wbs _, h.hbc, h.hbs, h.hne, h.wbc, h.wbs, Nat.le_trans h.size (Nat.le_trans hL.size (Nat.le_trans hg.size hg2.size)), ?_, ?_, (hO1.grown hg2 h.hbs), (hO2.grown hg2 h.hbs), hzl, kinv_congr hinv (fun j => (seen_set hkl j).symm), by simp [h.slen], by rw [count_set hsn, h.cnt]; omega, by omega, by omega, fun j hj hoj => (seen_set hkl j).2 (by
      by_cases e : j + m = k
      · exact .inr (hdone j e)
      · exact .inl (h.done j (by omega) hoj))⟩
    · exact (hg2.block bc (lt_of_block hkc) (fun e => h.hne (by injection e))).trans hkc
    · have := heap_setCell_same (W5.setCells bc 0 (ctxCells z)) bs kk _ 32 (.bool true) hks
      rw [this]
      try simp [boolCells, List.map_set]
end

def encO (q : Int) : List Value := [.int .u8 q]

set_option maxRecDepth 100000 in
set_option maxHeartbeats 2000000 in
theorem l16_KernelOrders (A : Option Addr) (n c : Nat) (ds : List DeltaV) (hl : ds.length = n) (hn : n ≤ 9223372036854775807) (w : World) (hrd : RdS encDelta 7 w A ds) (hin : ∀ d ∈ ds, DeltaOk w d ∧ d.facts.length ≤ 9223372036854775807)
    (B : Option Addr) (m c2 : Nat) (os : List Int) (hlo : os.length = m) (hm : m ≤ 9223372036854775807) (hro : RdS encO 1 w B os) (hob : ∀ q ∈ os, 0 ≤ q ∧ q ≤ 255) :
    Calls Tryz.prog 3 #[.slice A n c, .slice B m c2] w fun e w' => e = .returned (.bool true) ∧ Lat w w' := by
  have HFew := Lib.hid (l16_Few A n c ds hl hn w hrd (fun d hd => (hin d hd).1) (fun d hd => (hin d hd).2))
  have HAw := Lib.hid l16_awake
  have Hin := Lib.hid hin
  have Hrd := Lib.hid hrd
  have Hro := Lib.hid hro
  have Hob := Lib.hid hob
  have Hl := Lib.hid hl
  have Hlo := Lib.hid hlo
  have hrefl := Lat.refl w
  clear hrd hin hro hob hl hlo
  by_cases hm40 : 40 < m
  · have hm40' : (40 : Int) < (m : Int) := by omega
    go_enter Tryz.func3, Tryz.ntmps3
    go_wp2_with fail
    refine HFew.out.mono ?_
    rintro e w1 ⟨⟨r, rfl, hr⟩, hb1⟩
    have Hr := Lib.hid hr
    clear hr
    cases r
    all_goals
      go_wp2_with fail
      refine (HAw.out _).mono ?_
      rintro e w2 ⟨rfl, hb2⟩
      go_wp2_with fail
      go_ret
      exact ⟨rfl, hb1.trans hb2⟩
  · have hm40' : ¬ (40 : Int) < (m : Int) := by omega
    go_enter Tryz.func3, Tryz.ntmps3
    go_wp2_with fail
    refine HFew.out.mono ?_
    rintro e w1 ⟨⟨r, rfl, hr⟩, hb1⟩
    cases r
    · clear hr
      go_wp2_with fail
      refine (HAw.out _).mono ?_
      rintro e w2 ⟨rfl, hb2⟩
      go_wp2_with fail
      go_ret
      exact ⟨rfl, hb1.trans hb2⟩
    · obtain ⟨h16, hsm⟩ := hr rfl
      have hn16 : n ≤ 16 := by have := Hl.out; omega
      have Hsm := Lib.hid hsm
      have hmd : decide ((40 : Int) < (m : Int)) = false := by simpa using hm40'
      clear hr h16 hsm
      go_wp2_with fail
      refine gen_world (fun W => Lat w W ∧ W.heap[w1.heap.size]? = some (.cells (ctxCells zeroCtx).toArray 31 (0, 0)) ∧ W.heap[w1.heap.size + 1]? = some (.cells (boolCells (List.replicate 16 false)).toArray 32 (0, 0))) ⟨lat_alloc (lat_alloc hb1 _) _, old_at _ (new_at _ _), new2_at _ _ _⟩ ?_
      rintro W0 ⟨hW0, hkc, hks⟩
      have hws := hb1.size
      generalize hgs : w1.heap.size + 1 = bs at *
      generalize w1.heap.size = bc at *
      have hne : bc ≠ bs := by omega
      have hbc := lt_of_block hkc
      have hbs := lt_of_block hks
      have hI0 : LInv w W0 bc bs ds m 0 (.slice none 0 0) 0 W0 [] zeroCtx (List.replicate 16 false) :=
        ⟨hW0, hbc, hbs, hne, hws, by omega, Nat.le_refl _, hkc, hks, Own.nil _ _ _ _ _, Own.nil _ _ _ _ _, clampTo_len _ _, kinv_congr (kinv_start ds) (fun k => by simp only [seenOf, List.getElem?_replicate, false_iff]; intro h; split at h <;> cases h), rfl, rfl, by simp, by simp [zeroCtx], fun k hk => by omega⟩
      have HI0 := Lib.hid hI0
      clear hI0 hkc hks hb1 hgs hne hws
      go_loopw [5, 7, 9] (fun v cn i wr => ∃ (k : Nat) (cnt : Int) (xs : List Fact) (cv : CtxV) (seen : List Bool), k ≤ m + n ∧ i = .int .i64 k ∧ cn = .int .i64 cnt ∧ LInv w W0 bc bs ds m k v cnt wr xs cv seen) (fun _ _ i _ => m + n - (intOf i).toNat)
      case atStart => exact ⟨0, 0, [], zeroCtx, List.replicate 16 false, by omega, rfl, rfl, HI0.out⟩
      case round =>
        obtain ⟨k, cnt, xs, cv, seen, hk, rfl, rfl, hI⟩ := hrel
        obtain ⟨Ax, cx, hv, hxc, hcx, _⟩ := hI.own.rd encFact_len
        subst hv
        have HI := Lib.hid hI
        clear hI
        have hl := Hl.out
        have hlo := Hlo.out
        by_cases hlt : k < m + n
        · have hlti : (k : Int) < (m : Int) + (n : Int) := by omega
          by_cases hkm : k < m
          · have hneg : (k : Int) - (m : Int) < 0 := by omega
            by_cases hn0 : n = 0
            · have hn0' : ¬ 0 < n := by omega
              have hn0d : decide (0 < n) = false := by simp [hn0]
              have hn0e : (0 < n) = False := by simp [hn0]
              clear hn0
              go_wp2_with fail
              go_roundw
              case rel => exact ⟨k + 1, cnt, xs, cv, seen, by omega, by go_num, rfl, { HI.out with xl := Nat.le_trans HI.out.xl (by omega), cl := Nat.le_trans HI.out.cl (by omega), done := fun j hj ho => by have := lt_of_get ho.choose_spec.1; omega }⟩
              case measure => simp [intOf]; omega
            · have hn0' : 0 < n := by omega
              have hx : os[k]? = some (os[k]'(by omega)) := List.getElem?_eq_getElem (by omega)
              obtain ⟨hq0, hq1⟩ := Hob.out _ (List.getElem_mem (show k < os.length by omega))
              obtain ⟨b, o, hB, hb, hr⟩ := Hro.out.get k _ hx
              generalize os[k]'(by omega) = q at *
              subst hB
              have co : ∀ W, Lat w W → W.cell? ⟨b, o + k, none⟩ = some (.int .u8 q) := fun W h => by have := hr W h 0 _ rfl; simpa using this
              have hlw := HI.out.lat
              clear hx hr
              go_upto_region 13 with (fail)
              obtain ⟨kk, hkk, hkn, hdone⟩ : ∃ kk : Nat, q % (n : Int) = (kk : Int) ∧ kk < n ∧ ∀ j, j + m = k → j = kk := ⟨(q % (n : Int)).toNat, by have := Int.emod_nonneg q (show (n : Int) ≠ 0 by omega); omega, by have := Int.emod_lt_of_pos q (show (0 : Int) < (n : Int) by omega); have := Int.emod_nonneg q (show (n : Int) ≠ 0 by omega); omega, fun j hj => by omega⟩
              rw [hkk]
              have Hdone := Lib.hid hdone
              have hkk0 : (0 : Int) ≤ (kk : Int) := by omega
              have hkk1 : (kk : Int) < (n : Int) := by omega
              have hkk2 : ¬ (kk : Int) < 0 := by omega
              have hkk3 : (kk : Int) < 16 := by omega
              clear hdone hkk co hlw
              have HO := Lib.hid (fun W (h : Lat w W) => l16_own A n c ds Hl.out (by omega) kk hkn W (Hrd.out.later h) (fun e he => (Hin.out e he).1.later h) Hsm.out)
              by_cases hown : ownAt ds kk
              · have Hown := Lib.hid hown
                clear hown
                go_upto_region 14 with (go_at_call 20; refine (HO.out _ HI.out.lat).mono ?_; rintro e w4 ⟨⟨r, rfl, hr4⟩, hb4⟩; obtain rfl := hr4.2 Hown.out; clear hr4)
                have HI4 := Lib.hid (HI.out.later hb4)
                clear hb4
                have hl2 := Hl.out
                have hxd : ds[kk]? = some (ds[kk]'(by omega)) := List.getElem?_eq_getElem (by omega)
                have hmd' : ds[kk]'(by omega) ∈ ds := List.getElem_mem _
                have hdo := (Hin.out _ hmd').1
                have hds := Hsm.out _ hmd'
                obtain ⟨b2, o2, hA2, hb2, hr2⟩ := Hrd.out.get kk _ hxd
                subst hA2
                generalize ds[kk]'(by omega) = d at *
                have Hxd := Lib.hid hxd
                have Hdo := Lib.hid hdo
                have Hds := Lib.hid hds
                have hw4 := HI4.out.lat
                have d0 : ∀ W, Lat w4 W → W.cell? ⟨b2, o2 + kk * 7, none⟩ = some (.int .i64 d.dot.r) := fun W h => hr2 W (hw4.trans h) 0 _ rfl
                have d1 : ∀ W, Lat w4 W → W.cell? ⟨b2, o2 + kk * 7 + 1, none⟩ = some (.int .i64 d.dot.n) := fun W h => hr2 W (hw4.trans h) 1 _ rfl
                have d2 : ∀ W, Lat w4 W → W.cell? ⟨b2, o2 + kk * 7 + 2, none⟩ = some (.int .i64 d.stamp.t) := fun W h => hr2 W (hw4.trans h) 2 _ rfl
                have d3 : ∀ W, Lat w4 W → W.cell? ⟨b2, o2 + kk * 7 + 3, none⟩ = some (.int .i64 d.stamp.c) := fun W h => hr2 W (hw4.trans h) 3 _ rfl
                have d4 : ∀ W, Lat w4 W → W.cell? ⟨b2, o2 + kk * 7 + 4, none⟩ = some (.int .i64 d.stamp.r) := fun W h => hr2 W (hw4.trans h) 4 _ rfl
                have d5 : ∀ W, Lat w4 W → W.cell? ⟨b2, o2 + kk * 7 + 5, none⟩ = some (.slice d.A d.facts.length d.cap) := fun W h => hr2 W (hw4.trans h) 5 _ rfl
                have d6 : ∀ W, Lat w4 W → W.cell? ⟨b2, o2 + kk * 7 + 6, none⟩ = some (.slice d.A2 d.gone.length d.cap2) := fun W h => hr2 W (hw4.trans h) 6 _ rfl
                have hxl := HI4.out.xl
                have hcl := HI4.out.cl
                have hds1 := hds.1
                have hds2 := hds.2
                have hlx : (ctxCells cv).length = 17 := ctxCells_len _ HI4.out.vlen
                have RC := Lib.hid (fun W (h : Lat w4 W) => range_of_block (h.block HI4.out.kc))
                have HA := Lib.hid (fun W (h : Lat w4 W) => apply_from h <| kernel_Apply Ax xs.length cx xs rfl (by omega) cv d W (CtxOk.later ⟨HI4.out.vlen, by omega, Own.rdS encDot_len HI4.out.cloud⟩ h) (by omega) ((Own.rdS encFact_len HI4.out.own).later h) (hdo.later (hw4.trans h)) (by omega) (by omega))
                have hrefl4 := Lat.refl w4
                clear hxd hmd' hdo hds hr2 hl2 hw4 hxl hcl hds1 hds2
                have Hn16 := Lib.hid (show ds.length ≤ 16 by have := Hl.out; omega)
                have hcn := HI4.out.cnt
                have hcl16 : countT seen ≤ 16 := by have h1 := HI4.out.slen; unfold countT; exact Nat.le_trans (List.length_filter_le _ _) (by omega)
                have hcn0 : 0 ≤ cnt := by omega
                have hcn1 : cnt ≤ 16 := by omega
                clear hcn hcl16
                go_cut [11, 12] (fun s11 s12 W5 => ∃ (v5 : Value) (g5 : Nat) (z : CtxV), s11 = v5 ∧ s12 = .pointer (some ⟨g5, 0, none⟩) ∧ (z.v, z.cloud) = (kApply xs cv.v cv.cloud d).2 ∧ Lat w4 W5 ∧ Own encDot 2 37 w4.heap.size W5 (.slice z.A z.cloud.length z.cap) z.cloud ∧ Own encFact 8 77 w4.heap.size W5 v5 (kApply xs cv.v cv.cloud d).1 ∧ W5.heap[g5]? = some (.cells (ctxCells z).toArray 31 (0, 0)))
                case first =>
                  refine wp_region_held_drew (S := (fun W => Lat w4 W)) (by kernel_rfl) ?_ (fun hHeld => ?_)
                  · (try dsimp only); (first | (first | ((repeat (first | with_reducible exact Lat.refl _ | with_reducible assumption | with_reducible apply lat_alloc | with_reducible apply lat_drewN | with_reducible apply lat_drew)); done) | (refine hb1.pre ?_; ((repeat (first | with_reducible exact Lat.refl _ | with_reducible assumption | with_reducible apply lat_alloc | with_reducible apply lat_drewN | with_reducible apply lat_drew)); done))) | exact lat_setCells (Nat.le_refl _) _ _ (by ((repeat (first | with_reducible exact Lat.refl _ | with_reducible assumption | with_reducible apply lat_alloc | with_reducible apply lat_drewN | with_reducible apply lat_drew)); done)) | exact lat_setCells (Lat.size (by with_reducible assumption)) _ _ (by ((repeat (first | with_reducible exact Lat.refl _ | with_reducible assumption | with_reducible apply lat_alloc | with_reducible apply lat_drewN | with_reducible apply lat_drew)); done)))
                  refine wpAnyH_take (i := 0) (oi := { dst := some 62, op := _, type := _, pos := _, after := _, guard := _ }) (v := ?_) rfl (by kernel_rfl) (by kernel_rfl) (by kernel_rfl) (fun _ _ _ h => h) (Or.inl ⟨by rfl, ?_⟩) (by assumption) ?_
                  rotate_left
                  · (intro w hSw; (try dsimp only at hSw); go_simp) <;> with_reducible rfl
                  (try simp only [Act.put, List.setIfInBounds_toArray, List.set_cons_zero, List.set_cons_succ])
                  refine wpAnyH_take (i := 1) (oi := { dst := some 63, op := _, type := _, pos := _, after := _, guard := _ }) rfl (by kernel_rfl) (by kernel_rfl) (by kernel_rfl) (fun _ _ _ h => h) (yieldsIf_load_mid (by rfl) _ _ rfl (bc) (0) rfl ((ctxCells cv)) _ ((RC.out)) Tryz.underlying31 rfl (by rw [hlx]; kernel_rfl)) (by assumption) ?_
                  (try simp only [Act.put, List.setIfInBounds_toArray, List.set_cons_zero, List.set_cons_succ])
                  refine wpAnyH_take (i := 2) (oi := { dst := some 64, op := _, type := _, pos := _, after := _, guard := _ }) (v := ?_) rfl (by kernel_rfl) (by kernel_rfl) (by kernel_rfl) (fun _ _ _ h => h) (Or.inl ⟨by rfl, ?_⟩) (by assumption) ?_
                  rotate_left
                  · (intro w hSw; (try dsimp only at hSw); go_simp) <;> with_reducible rfl
                  (try simp only [Act.put, List.setIfInBounds_toArray, List.set_cons_zero, List.set_cons_succ])
                  refine wpAnyH_take (i := 3) (oi := { dst := some 65, op := _, type := _, pos := _, after := _, guard := _ }) (v := ?_) rfl (by kernel_rfl) (by kernel_rfl) (by kernel_rfl) (fun _ _ _ h => h) (Or.inl ⟨by rfl, ?_⟩) (by assumption) ?_
                  rotate_left
                  · (intro w hSw; (try dsimp only at hSw); go_simp) <;> with_reducible rfl
                  (try simp only [Act.put, List.setIfInBounds_toArray, List.set_cons_zero, List.set_cons_succ])
                  refine wpAnyH_take (i := 4) (oi := { dst := some 66, op := _, type := _, pos := _, after := _, guard := _ }) (v := ?_) rfl (by kernel_rfl) (by kernel_rfl) (by kernel_rfl) (fun _ _ _ h => h) (Or.inl ⟨by rfl, ?_⟩) (by assumption) ?_
                  rotate_left
                  · (intro w hSw; (try dsimp only at hSw); go_simp) <;> with_reducible rfl
                  (try simp only [Act.put, List.setIfInBounds_toArray, List.set_cons_zero, List.set_cons_succ])
                  refine wpAnyH_take (i := 5) (oi := { dst := some 67, op := _, type := _, pos := _, after := _, guard := _ }) (v := ?_) rfl (by kernel_rfl) (by kernel_rfl) (by kernel_rfl) (fun _ _ _ h => h) (Or.inl ⟨by rfl, ?_⟩) (by assumption) ?_
                  rotate_left
                  · (intro w hSw; (try dsimp only at hSw); go_simp) <;> with_reducible rfl
                  (try simp only [Act.put, List.setIfInBounds_toArray, List.set_cons_zero, List.set_cons_succ])
                  refine wpAnyH_ready (rs := [6, 10]) (by kernel_rfl) (by simp) ?_
                  refine AllReadyH.cons (o := { dst := some 68, op := _, type := _, pos := _, after := _, guard := _ }) rfl (fun K hK => ?_) ?_
                  · go_simp
                    (go_at_call 21; refine (HA.out _ (by with_reducible assumption)).mono ?_; rintro e w5 ⟨v5, z, ⟨rfl, hz, hOz, hOv, hb1⟩, hwle⟩; have hlz := ctxCells_len z (clean_len hz); have hlzz : (ctxCells z).toArray.size = 17 := by simp [hlz])
                    first | (refine hK.out _ _ ?_ (fun hHeld => ?_)) | (go_wp2_with fail; refine hK.out _ _ ?_ (fun hHeld => ?_))
                    · (try dsimp only); (first | (first | ((repeat (first | with_reducible exact Lat.refl _ | with_reducible assumption | with_reducible apply lat_alloc | with_reducible apply lat_drewN | with_reducible apply lat_drew)); done) | (refine hb1.pre ?_; ((repeat (first | with_reducible exact Lat.refl _ | with_reducible assumption | with_reducible apply lat_alloc | with_reducible apply lat_drewN | with_reducible apply lat_drew)); done))) | exact lat_setCells (Nat.le_refl _) _ _ (by ((repeat (first | with_reducible exact Lat.refl _ | with_reducible assumption | with_reducible apply lat_alloc | with_reducible apply lat_drewN | with_reducible apply lat_drew)); done)) | exact lat_setCells (Lat.size (by with_reducible assumption)) _ _ (by ((repeat (first | with_reducible exact Lat.refl _ | with_reducible assumption | with_reducible apply lat_alloc | with_reducible apply lat_drewN | with_reducible apply lat_drew)); done)))
                    clear hK K
                    (try simp only [Act.put, List.setIfInBounds_toArray, List.set_cons_zero, List.set_cons_succ])
                    refine wpAnyH_take (i := 7) (oi := { dst := some 61, op := _, type := _, pos := _, after := _, guard := _ }) (v := ?_) rfl (by kernel_rfl) (by kernel_rfl) (by kernel_rfl) (fun _ _ _ h => h) (Or.inl ⟨by rfl, ?_⟩) (by assumption) ?_
                    rotate_left
                    · (intro w hSw; (try dsimp only at hSw); go_simp) <;> with_reducible rfl
                    (try simp only [Act.put, List.setIfInBounds_toArray, List.set_cons_zero, List.set_cons_succ])
                    refine wpAnyH_take (i := 8) (oi := { dst := some 69, op := _, type := _, pos := _, after := _, guard := _ }) (v := ?_) rfl (by kernel_rfl) (by kernel_rfl) (by kernel_rfl) (fun _ _ _ h => h) (Or.inl ⟨by rfl, ?_⟩) (by assumption) ?_
                    rotate_left
                    · (intro w hSw; (try dsimp only at hSw); go_simp) <;> with_reducible rfl
                    (try simp only [Act.put, List.setIfInBounds_toArray, List.set_cons_zero, List.set_cons_succ])
                    refine wpAnyH_take (i := 9) (oi := { dst := some 70, op := _, type := _, pos := _, after := _, guard := _ }) (v := ?_) rfl (by kernel_rfl) (by kernel_rfl) (by kernel_rfl) (fun _ _ _ h => h) (Or.inl ⟨by rfl, ?_⟩) (by assumption) ?_
                    rotate_left
                    · (intro w hSw; (try dsimp only at hSw); go_simp) <;> with_reducible rfl
                    (try simp only [Act.put, List.setIfInBounds_toArray, List.set_cons_zero, List.set_cons_succ])
                    refine wpAnyH_ready (rs := [10]) (by kernel_rfl) (by simp) ?_
                    refine AllReadyH.cons (o := { dst := some 12, op := _, type := _, pos := _, after := _, guard := _ }) rfl (fun K hK => ?_) AllReadyH.nil
                    go_simp
                    first | (refine hK.out _ _ ?_ (fun hHeld => ?_)) | (go_wp2_with fail; refine hK.out _ _ ?_ (fun hHeld => ?_))
                    · (try dsimp only); (first | (first | ((repeat (first | with_reducible exact Lat.refl _ | with_reducible assumption | with_reducible apply lat_alloc | with_reducible apply lat_drewN | with_reducible apply lat_drew)); done) | (refine hb1.pre ?_; ((repeat (first | with_reducible exact Lat.refl _ | with_reducible assumption | with_reducible apply lat_alloc | with_reducible apply lat_drewN | with_reducible apply lat_drew)); done))) | exact lat_setCells (Nat.le_refl _) _ _ (by ((repeat (first | with_reducible exact Lat.refl _ | with_reducible assumption | with_reducible apply lat_alloc | with_reducible apply lat_drewN | with_reducible apply lat_drew)); done)) | exact lat_setCells (Lat.size (by with_reducible assumption)) _ _ (by ((repeat (first | with_reducible exact Lat.refl _ | with_reducible assumption | with_reducible apply lat_alloc | with_reducible apply lat_drewN | with_reducible apply lat_drew)); done)))
                    clear hK K
                    (try simp only [Act.put, List.setIfInBounds_toArray, List.set_cons_zero, List.set_cons_succ])
                    refine wpAnyH_take (i := 11) (oi := { dst := some 11, op := _, type := _, pos := _, after := _, guard := _ }) (v := ?_) rfl (by kernel_rfl) (by kernel_rfl) (by kernel_rfl) (fun _ _ _ h => h) (Or.inl ⟨by rfl, ?_⟩) (by assumption) ?_
                    rotate_left
                    · (intro w hSw; (try dsimp only at hSw); go_simp) <;> with_reducible rfl
                    (try simp only [Act.put, List.setIfInBounds_toArray, List.set_cons_zero, List.set_cons_succ])
                    refine wpAnyH_ready (rs := [12]) (by kernel_rfl) (by simp) ?_
                    refine AllReadyH.cons (o := { dst := none, op := _, type := _, pos := _, after := _, guard := _ }) rfl (fun K hK => ?_) AllReadyH.nil
                    rw [if_pos (by rfl)]
                    refine wp_store_mid _ _ _ rfl (_) (0) (ctxCells z).toArray rfl rfl ?_ ?_ ?_ ?_
                    · exact (by first | exact there_of_block (new_at _ _) _ (by simp [hlz]) | exact there_of_block (hb1.block (new_at _ _)) _ (by simp [hlz]))
                    · (simp only [List.size_toArray, hlz]; kernel_rfl)
                    · exact all_oneCell_toArray (ctxCells_one z)
                    simp only [List.toList_toArray]
                    first | (refine hK.out _ _ ?_ (fun hHeld => ?_)) | (go_wp2_with fail; refine hK.out _ _ ?_ (fun hHeld => ?_))
                    · (try dsimp only); (first | (first | ((repeat (first | with_reducible exact Lat.refl _ | with_reducible assumption | with_reducible apply lat_alloc | with_reducible apply lat_drewN | with_reducible apply lat_drew)); done) | (refine hb1.pre ?_; ((repeat (first | with_reducible exact Lat.refl _ | with_reducible assumption | with_reducible apply lat_alloc | with_reducible apply lat_drewN | with_reducible apply lat_drew)); done))) | exact lat_setCells (Nat.le_refl _) _ _ (by ((repeat (first | with_reducible exact Lat.refl _ | with_reducible assumption | with_reducible apply lat_alloc | with_reducible apply lat_drewN | with_reducible apply lat_drew)); done)) | exact lat_setCells (Lat.size (by with_reducible assumption)) _ _ (by ((repeat (first | with_reducible exact Lat.refl _ | with_reducible assumption | with_reducible apply lat_alloc | with_reducible apply lat_drewN | with_reducible apply lat_drew)); done)))
                    clear hK K
                    (try simp only [Act.put, List.setIfInBounds_toArray, List.set_cons_zero, List.set_cons_succ])
                    refine wpAnyH_done (by kernel_rfl) ?_ _
                    go_wp2_with fail; go_meet; (first | exact ⟨v5, w5.heap.size, z, rfl, rfl, hz, lat_setCells (by have := hwle; have := hb1.size; omega) _ _ (lat_alloc (by with_reducible assumption) _), (hOz.later (lat_setCells (Nat.le_refl _) _ _ (lat_alloc (Lat.refl _) _))).base_le hwle, (hOv.later (lat_setCells (Nat.le_refl _) _ _ (lat_alloc (Lat.refl _) _))).base_le hwle, block_whole (new_at _ _) _ (by simp [hlz])⟩ | exact ⟨v5, w4.heap.size, z, rfl, rfl, hz, lat_setCells (Nat.le_refl _) _ _ (by with_reducible assumption), (hOz.grown (setCells_grown _ _ _ _) (by simp)).base_le hwle, (hOv.grown (setCells_grown _ _ _ _) (by simp)).base_le hwle, block_whole (hb1.block (new_at _ _)) _ (by simp [hlz])⟩)
                  refine AllReadyH.cons (o := { dst := some 12, op := _, type := _, pos := _, after := _, guard := _ }) rfl (fun K hK => ?_) AllReadyH.nil
                  go_simp
                  first | (refine hK.out _ _ ?_ (fun hHeld => ?_)) | (go_wp2_with fail; refine hK.out _ _ ?_ (fun hHeld => ?_))
                  · (try dsimp only); (first | (first | ((repeat (first | with_reducible exact Lat.refl _ | with_reducible assumption | with_reducible apply lat_alloc | with_reducible apply lat_drewN | with_reducible apply lat_drew)); done) | (refine hb1.pre ?_; ((repeat (first | with_reducible exact Lat.refl _ | with_reducible assumption | with_reducible apply lat_alloc | with_reducible apply lat_drewN | with_reducible apply lat_drew)); done))) | exact lat_setCells (Nat.le_refl _) _ _ (by ((repeat (first | with_reducible exact Lat.refl _ | with_reducible assumption | with_reducible apply lat_alloc | with_reducible apply lat_drewN | with_reducible apply lat_drew)); done)) | exact lat_setCells (Lat.size (by with_reducible assumption)) _ _ (by ((repeat (first | with_reducible exact Lat.refl _ | with_reducible assumption | with_reducible apply lat_alloc | with_reducible apply lat_drewN | with_reducible apply lat_drew)); done)))
                  clear hK K
                  (try simp only [Act.put, List.setIfInBounds_toArray, List.set_cons_zero, List.set_cons_succ])
                  refine wpAnyH_ready (rs := [6]) (by kernel_rfl) (by simp) ?_
                  refine AllReadyH.cons (o := { dst := some 68, op := _, type := _, pos := _, after := _, guard := _ }) rfl (fun K hK => ?_) AllReadyH.nil
                  go_simp
                  (go_at_call 21; refine (HA.out _ (by with_reducible assumption)).mono ?_; rintro e w5 ⟨v5, z, ⟨rfl, hz, hOz, hOv, hb1⟩, hwle⟩; have hlz := ctxCells_len z (clean_len hz); have hlzz : (ctxCells z).toArray.size = 17 := by simp [hlz])
                  first | (refine hK.out _ _ ?_ (fun hHeld => ?_)) | (go_wp2_with fail; refine hK.out _ _ ?_ (fun hHeld => ?_))
                  · (try dsimp only); (first | (first | ((repeat (first | with_reducible exact Lat.refl _ | with_reducible assumption | with_reducible apply lat_alloc | with_reducible apply lat_drewN | with_reducible apply lat_drew)); done) | (refine hb1.pre ?_; ((repeat (first | with_reducible exact Lat.refl _ | with_reducible assumption | with_reducible apply lat_alloc | with_reducible apply lat_drewN | with_reducible apply lat_drew)); done))) | exact lat_setCells (Nat.le_refl _) _ _ (by ((repeat (first | with_reducible exact Lat.refl _ | with_reducible assumption | with_reducible apply lat_alloc | with_reducible apply lat_drewN | with_reducible apply lat_drew)); done)) | exact lat_setCells (Lat.size (by with_reducible assumption)) _ _ (by ((repeat (first | with_reducible exact Lat.refl _ | with_reducible assumption | with_reducible apply lat_alloc | with_reducible apply lat_drewN | with_reducible apply lat_drew)); done)))
                  clear hK K
                  (try simp only [Act.put, List.setIfInBounds_toArray, List.set_cons_zero, List.set_cons_succ])
                  refine wpAnyH_take (i := 7) (oi := { dst := some 61, op := _, type := _, pos := _, after := _, guard := _ }) (v := ?_) rfl (by kernel_rfl) (by kernel_rfl) (by kernel_rfl) (fun _ _ _ h => h) (Or.inl ⟨by rfl, ?_⟩) (by assumption) ?_
                  rotate_left
                  · (intro w hSw; (try dsimp only at hSw); go_simp) <;> with_reducible rfl
                  (try simp only [Act.put, List.setIfInBounds_toArray, List.set_cons_zero, List.set_cons_succ])
                  refine wpAnyH_take (i := 8) (oi := { dst := some 69, op := _, type := _, pos := _, after := _, guard := _ }) (v := ?_) rfl (by kernel_rfl) (by kernel_rfl) (by kernel_rfl) (fun _ _ _ h => h) (Or.inl ⟨by rfl, ?_⟩) (by assumption) ?_
                  rotate_left
                  · (intro w hSw; (try dsimp only at hSw); go_simp) <;> with_reducible rfl
                  (try simp only [Act.put, List.setIfInBounds_toArray, List.set_cons_zero, List.set_cons_succ])
                  refine wpAnyH_take (i := 9) (oi := { dst := some 70, op := _, type := _, pos := _, after := _, guard := _ }) (v := ?_) rfl (by kernel_rfl) (by kernel_rfl) (by kernel_rfl) (fun _ _ _ h => h) (Or.inl ⟨by rfl, ?_⟩) (by assumption) ?_
                  rotate_left
                  · (intro w hSw; (try dsimp only at hSw); go_simp) <;> with_reducible rfl
                  (try simp only [Act.put, List.setIfInBounds_toArray, List.set_cons_zero, List.set_cons_succ])
                  refine wpAnyH_take (i := 11) (oi := { dst := some 11, op := _, type := _, pos := _, after := _, guard := _ }) (v := ?_) rfl (by kernel_rfl) (by kernel_rfl) (by kernel_rfl) (fun _ _ _ h => h) (Or.inl ⟨by rfl, ?_⟩) (by assumption) ?_
                  rotate_left
                  · (intro w hSw; (try dsimp only at hSw); go_simp) <;> with_reducible rfl
                  (try simp only [Act.put, List.setIfInBounds_toArray, List.set_cons_zero, List.set_cons_succ])
                  refine wpAnyH_ready (rs := [12]) (by kernel_rfl) (by simp) ?_
                  refine AllReadyH.cons (o := { dst := none, op := _, type := _, pos := _, after := _, guard := _ }) rfl (fun K hK => ?_) AllReadyH.nil
                  rw [if_pos (by rfl)]
                  refine wp_store_mid _ _ _ rfl (_) (0) (ctxCells z).toArray rfl rfl ?_ ?_ ?_ ?_
                  · exact (by first | exact there_of_block (new_at _ _) _ (by simp [hlz]) | exact there_of_block (hb1.block (new_at _ _)) _ (by simp [hlz]))
                  · (simp only [List.size_toArray, hlz]; kernel_rfl)
                  · exact all_oneCell_toArray (ctxCells_one z)
                  simp only [List.toList_toArray]
                  first | (refine hK.out _ _ ?_ (fun hHeld => ?_)) | (go_wp2_with fail; refine hK.out _ _ ?_ (fun hHeld => ?_))
                  · (try dsimp only); (first | (first | ((repeat (first | with_reducible exact Lat.refl _ | with_reducible assumption | with_reducible apply lat_alloc | with_reducible apply lat_drewN | with_reducible apply lat_drew)); done) | (refine hb1.pre ?_; ((repeat (first | with_reducible exact Lat.refl _ | with_reducible assumption | with_reducible apply lat_alloc | with_reducible apply lat_drewN | with_reducible apply lat_drew)); done))) | exact lat_setCells (Nat.le_refl _) _ _ (by ((repeat (first | with_reducible exact Lat.refl _ | with_reducible assumption | with_reducible apply lat_alloc | with_reducible apply lat_drewN | with_reducible apply lat_drew)); done)) | exact lat_setCells (Lat.size (by with_reducible assumption)) _ _ (by ((repeat (first | with_reducible exact Lat.refl _ | with_reducible assumption | with_reducible apply lat_alloc | with_reducible apply lat_drewN | with_reducible apply lat_drew)); done)))
                  clear hK K
                  (try simp only [Act.put, List.setIfInBounds_toArray, List.set_cons_zero, List.set_cons_succ])
                  refine wpAnyH_done (by kernel_rfl) ?_ _
                  go_wp2_with fail; go_meet; (first | exact ⟨v5, w5.heap.size, z, rfl, rfl, hz, lat_setCells (by have := hwle; have := hb1.size; omega) _ _ (lat_alloc (by with_reducible assumption) _), (hOz.later (lat_setCells (Nat.le_refl _) _ _ (lat_alloc (Lat.refl _) _))).base_le hwle, (hOv.later (lat_setCells (Nat.le_refl _) _ _ (lat_alloc (Lat.refl _) _))).base_le hwle, block_whole (new_at _ _) _ (by simp [hlz])⟩ | exact ⟨v5, w4.heap.size, z, rfl, rfl, hz, lat_setCells (Nat.le_refl _) _ _ (by with_reducible assumption), (hOz.grown (setCells_grown _ _ _ _) (by simp)).base_le hwle, (hOv.grown (setCells_grown _ _ _ _) (by simp)).base_le hwle, block_whole (hb1.block (new_at _ _)) _ (by simp [hlz])⟩)
                case rest =>
                  obtain ⟨v5, g5, z, rfl, rfl, hz, hW5, hOz5, hOv5, kg⟩ := hcut
                  have hlz := ctxCells_len z (clean_len hz)
                  have hkcW := hW5.block HI4.out.kc
                  have hput := HI4.out.put Hxd.out Hown.out Hds.out Hdone.out hz hOz5 hOv5 hW5 (clean_len hz) Hn16.out
                  have hksW := (setCells_other (W := wc) (Ne.symm HI4.out.hne) (ctxCells z) 0 wc).trans (hW5.block HI4.out.ks)
                  have hfb := Lat.frozen (Lat.refl _) hksW kk
                  have Hput := Lib.hid hput
                  have Hks := Lib.hid hksW
                  have KG := Lib.hid kg
                  have KC := Lib.hid hkcW
                  have Hz := Lib.hid hz
                  clear hput hksW hz hOz5 hOv5 kg hkcW RC HA d0 d1 d2 d3 d4 d5 d6 hlx
                  obtain ⟨bq, hbq⟩ : ∃ bq, seen[kk]? = some bq := ⟨_, List.getElem?_eq_getElem (by have h1 := HI4.out.slen; omega)⟩
                  have hcb : (wc.setCells bc 0 (ctxCells z)).cell? ⟨bs, kk, none⟩ = some (.bool bq) := Lat.cell (Lat.refl _) Hks.out kk (boolCells_get hbq)
                  have Hbq := Lib.hid hbq
                  clear hbq
                  cases bq
                  · go_wp2_with (first
                      | ((with_reducible refine wpList_ld 31 (g5) (0) (ctxCells z) ?_ Tryz.underlying31 ?_ ?_ ?_ ?_ ?_); exact (range_of_block KG.out); rfl; (rw [hlz]; kernel_rfl); rfl; rfl)
                      | ((with_reducible refine wpList_st 31 (bc) (0) (ctxCells z) ?_ ?_ ?_ ?_ ?_ ?_); exact (there_of_block KC.out _ (by simp [hlz, ctxCells_len _ HI4.out.vlen])); (rw [hlz]; kernel_rfl); exact (ctxCells_one z); rfl; rfl))
                    go_roundw
                    case rel => exact ⟨k + 1, cnt + 1, _, z, _, by omega, by go_num, rfl, Hput.out.2 Hbq.out⟩
                    case measure => simp [intOf]; omega
                  · go_wp2_with (first
                      | ((with_reducible refine wpList_ld 31 (g5) (0) (ctxCells z) ?_ Tryz.underlying31 ?_ ?_ ?_ ?_ ?_); exact (range_of_block KG.out); rfl; (rw [hlz]; kernel_rfl); rfl; rfl)
                      | ((with_reducible refine wpList_st 31 (bc) (0) (ctxCells z) ?_ ?_ ?_ ?_ ?_ ?_); exact (there_of_block KC.out _ (by simp [hlz, ctxCells_len _ HI4.out.vlen])); (rw [hlz]; kernel_rfl); exact (ctxCells_one z); rfl; rfl))
                    go_roundw
                    case rel => exact ⟨k + 1, cnt, _, z, _, by omega, by go_num, rfl, Hput.out.1 Hbq.out⟩
                    case measure => simp [intOf]; omega
              · have Hown := Lib.hid hown
                clear hown
                go_wp2_with (go_at_call 20; refine (HO.out _ HI.out.lat).mono ?_; rintro e w4 ⟨⟨r, rfl, hr4⟩, hb4⟩; obtain rfl : r = false := (by cases r; rfl; exact absurd (hr4.1 rfl) Hown.out); clear hr4)
                go_roundw
                case rel => exact ⟨k + 1, cnt, xs, cv, seen, by omega, by go_num, rfl, (HI.out.later hb4).skip (fun j hj hoj => by rw [Hdone.out j hj] at hoj; exact Hown.out hoj)⟩
                case measure => simp [intOf]; omega
          · have hnneg : ¬ (k : Int) - (m : Int) < 0 := by omega
            have hge : (m : Int) ≤ (k : Int) := by omega
            go_upto_region 13 with (fail)
            obtain ⟨kk, hkk, hkn, hdone⟩ : ∃ kk : Nat, (k : Int) - (m : Int) = (kk : Int) ∧ kk < n ∧ ∀ j, j + m = k → j = kk := ⟨k - m, by omega, by omega, fun j hj => by omega⟩
            rw [hkk]
            have Hdone := Lib.hid hdone
            have hkk0 : (0 : Int) ≤ (kk : Int) := by omega
            have hkk1 : (kk : Int) < (n : Int) := by omega
            have hkk2 : ¬ (kk : Int) < 0 := by omega
            have hkk3 : (kk : Int) < 16 := by omega
            clear hdone hkk
            have HO := Lib.hid (fun W (h : Lat w W) => l16_own A n c ds Hl.out (by omega) kk hkn W (Hrd.out.later h) (fun e he => (Hin.out e he).1.later h) Hsm.out)
            by_cases hown : ownAt ds kk
            · have Hown := Lib.hid hown
              clear hown
              go_upto_region 14 with (go_at_call 20; refine (HO.out _ HI.out.lat).mono ?_; rintro e w4 ⟨⟨r, rfl, hr4⟩, hb4⟩; obtain rfl := hr4.2 Hown.out; clear hr4)
              have HI4 := Lib.hid (HI.out.later hb4)
              clear hb4
              have hl2 := Hl.out
              have hxd : ds[kk]? = some (ds[kk]'(by omega)) := List.getElem?_eq_getElem (by omega)
              have hmd' : ds[kk]'(by omega) ∈ ds := List.getElem_mem _
              have hdo := (Hin.out _ hmd').1
              have hds := Hsm.out _ hmd'
              obtain ⟨b2, o2, hA2, hb2, hr2⟩ := Hrd.out.get kk _ hxd
              subst hA2
              generalize ds[kk]'(by omega) = d at *
              have Hxd := Lib.hid hxd
              have Hdo := Lib.hid hdo
              have Hds := Lib.hid hds
              have hw4 := HI4.out.lat
              have d0 : ∀ W, Lat w4 W → W.cell? ⟨b2, o2 + kk * 7, none⟩ = some (.int .i64 d.dot.r) := fun W h => hr2 W (hw4.trans h) 0 _ rfl
              have d1 : ∀ W, Lat w4 W → W.cell? ⟨b2, o2 + kk * 7 + 1, none⟩ = some (.int .i64 d.dot.n) := fun W h => hr2 W (hw4.trans h) 1 _ rfl
              have d2 : ∀ W, Lat w4 W → W.cell? ⟨b2, o2 + kk * 7 + 2, none⟩ = some (.int .i64 d.stamp.t) := fun W h => hr2 W (hw4.trans h) 2 _ rfl
              have d3 : ∀ W, Lat w4 W → W.cell? ⟨b2, o2 + kk * 7 + 3, none⟩ = some (.int .i64 d.stamp.c) := fun W h => hr2 W (hw4.trans h) 3 _ rfl
              have d4 : ∀ W, Lat w4 W → W.cell? ⟨b2, o2 + kk * 7 + 4, none⟩ = some (.int .i64 d.stamp.r) := fun W h => hr2 W (hw4.trans h) 4 _ rfl
              have d5 : ∀ W, Lat w4 W → W.cell? ⟨b2, o2 + kk * 7 + 5, none⟩ = some (.slice d.A d.facts.length d.cap) := fun W h => hr2 W (hw4.trans h) 5 _ rfl
              have d6 : ∀ W, Lat w4 W → W.cell? ⟨b2, o2 + kk * 7 + 6, none⟩ = some (.slice d.A2 d.gone.length d.cap2) := fun W h => hr2 W (hw4.trans h) 6 _ rfl
              have hxl := HI4.out.xl
              have hcl := HI4.out.cl
              have hds1 := hds.1
              have hds2 := hds.2
              have hlx : (ctxCells cv).length = 17 := ctxCells_len _ HI4.out.vlen
              have RC := Lib.hid (fun W (h : Lat w4 W) => range_of_block (h.block HI4.out.kc))
              have HA := Lib.hid (fun W (h : Lat w4 W) => apply_from h <| kernel_Apply Ax xs.length cx xs rfl (by omega) cv d W (CtxOk.later ⟨HI4.out.vlen, by omega, Own.rdS encDot_len HI4.out.cloud⟩ h) (by omega) ((Own.rdS encFact_len HI4.out.own).later h) (hdo.later (hw4.trans h)) (by omega) (by omega))
              have hrefl4 := Lat.refl w4
              clear hxd hmd' hdo hds hr2 hl2 hw4 hxl hcl hds1 hds2
              have Hn16 := Lib.hid (show ds.length ≤ 16 by have := Hl.out; omega)
              have hcn := HI4.out.cnt
              have hcl16 : countT seen ≤ 16 := by have h1 := HI4.out.slen; unfold countT; exact Nat.le_trans (List.length_filter_le _ _) (by omega)
              have hcn0 : 0 ≤ cnt := by omega
              have hcn1 : cnt ≤ 16 := by omega
              clear hcn hcl16
              go_cut [11, 12] (fun s11 s12 W5 => ∃ (v5 : Value) (g5 : Nat) (z : CtxV), s11 = v5 ∧ s12 = .pointer (some ⟨g5, 0, none⟩) ∧ (z.v, z.cloud) = (kApply xs cv.v cv.cloud d).2 ∧ Lat w4 W5 ∧ Own encDot 2 37 w4.heap.size W5 (.slice z.A z.cloud.length z.cap) z.cloud ∧ Own encFact 8 77 w4.heap.size W5 v5 (kApply xs cv.v cv.cloud d).1 ∧ W5.heap[g5]? = some (.cells (ctxCells z).toArray 31 (0, 0)))
              case first =>
                refine wp_region_held_drew (S := (fun W => Lat w4 W)) (by kernel_rfl) ?_ (fun hHeld => ?_)
                · (try dsimp only); (first | (first | ((repeat (first | with_reducible exact Lat.refl _ | with_reducible assumption | with_reducible apply lat_alloc | with_reducible apply lat_drewN | with_reducible apply lat_drew)); done) | (refine hb1.pre ?_; ((repeat (first | with_reducible exact Lat.refl _ | with_reducible assumption | with_reducible apply lat_alloc | with_reducible apply lat_drewN | with_reducible apply lat_drew)); done))) | exact lat_setCells (Nat.le_refl _) _ _ (by ((repeat (first | with_reducible exact Lat.refl _ | with_reducible assumption | with_reducible apply lat_alloc | with_reducible apply lat_drewN | with_reducible apply lat_drew)); done)) | exact lat_setCells (Lat.size (by with_reducible assumption)) _ _ (by ((repeat (first | with_reducible exact Lat.refl _ | with_reducible assumption | with_reducible apply lat_alloc | with_reducible apply lat_drewN | with_reducible apply lat_drew)); done)))
                refine wpAnyH_take (i := 0) (oi := { dst := some 62, op := _, type := _, pos := _, after := _, guard := _ }) (v := ?_) rfl (by kernel_rfl) (by kernel_rfl) (by kernel_rfl) (fun _ _ _ h => h) (Or.inl ⟨by rfl, ?_⟩) (by assumption) ?_
                rotate_left
                · (intro w hSw; (try dsimp only at hSw); go_simp) <;> with_reducible rfl
                (try simp only [Act.put, List.setIfInBounds_toArray, List.set_cons_zero, List.set_cons_succ])
                refine wpAnyH_take (i := 1) (oi := { dst := some 63, op := _, type := _, pos := _, after := _, guard := _ }) rfl (by kernel_rfl) (by kernel_rfl) (by kernel_rfl) (fun _ _ _ h => h) (yieldsIf_load_mid (by rfl) _ _ rfl (bc) (0) rfl ((ctxCells cv)) _ ((RC.out)) Tryz.underlying31 rfl (by rw [hlx]; kernel_rfl)) (by assumption) ?_
                (try simp only [Act.put, List.setIfInBounds_toArray, List.set_cons_zero, List.set_cons_succ])
                refine wpAnyH_take (i := 2) (oi := { dst := some 64, op := _, type := _, pos := _, after := _, guard := _ }) (v := ?_) rfl (by kernel_rfl) (by kernel_rfl) (by kernel_rfl) (fun _ _ _ h => h) (Or.inl ⟨by rfl, ?_⟩) (by assumption) ?_
                rotate_left
                · (intro w hSw; (try dsimp only at hSw); go_simp) <;> with_reducible rfl
                (try simp only [Act.put, List.setIfInBounds_toArray, List.set_cons_zero, List.set_cons_succ])
                refine wpAnyH_take (i := 3) (oi := { dst := some 65, op := _, type := _, pos := _, after := _, guard := _ }) (v := ?_) rfl (by kernel_rfl) (by kernel_rfl) (by kernel_rfl) (fun _ _ _ h => h) (Or.inl ⟨by rfl, ?_⟩) (by assumption) ?_
                rotate_left
                · (intro w hSw; (try dsimp only at hSw); go_simp) <;> with_reducible rfl
                (try simp only [Act.put, List.setIfInBounds_toArray, List.set_cons_zero, List.set_cons_succ])
                refine wpAnyH_take (i := 4) (oi := { dst := some 66, op := _, type := _, pos := _, after := _, guard := _ }) (v := ?_) rfl (by kernel_rfl) (by kernel_rfl) (by kernel_rfl) (fun _ _ _ h => h) (Or.inl ⟨by rfl, ?_⟩) (by assumption) ?_
                rotate_left
                · (intro w hSw; (try dsimp only at hSw); go_simp) <;> with_reducible rfl
                (try simp only [Act.put, List.setIfInBounds_toArray, List.set_cons_zero, List.set_cons_succ])
                refine wpAnyH_take (i := 5) (oi := { dst := some 67, op := _, type := _, pos := _, after := _, guard := _ }) (v := ?_) rfl (by kernel_rfl) (by kernel_rfl) (by kernel_rfl) (fun _ _ _ h => h) (Or.inl ⟨by rfl, ?_⟩) (by assumption) ?_
                rotate_left
                · (intro w hSw; (try dsimp only at hSw); go_simp) <;> with_reducible rfl
                (try simp only [Act.put, List.setIfInBounds_toArray, List.set_cons_zero, List.set_cons_succ])
                refine wpAnyH_ready (rs := [6, 10]) (by kernel_rfl) (by simp) ?_
                refine AllReadyH.cons (o := { dst := some 68, op := _, type := _, pos := _, after := _, guard := _ }) rfl (fun K hK => ?_) ?_
                · go_simp
                  (go_at_call 21; refine (HA.out _ (by with_reducible assumption)).mono ?_; rintro e w5 ⟨v5, z, ⟨rfl, hz, hOz, hOv, hb1⟩, hwle⟩; have hlz := ctxCells_len z (clean_len hz); have hlzz : (ctxCells z).toArray.size = 17 := by simp [hlz])
                  first | (refine hK.out _ _ ?_ (fun hHeld => ?_)) | (go_wp2_with fail; refine hK.out _ _ ?_ (fun hHeld => ?_))
                  · (try dsimp only); (first | (first | ((repeat (first | with_reducible exact Lat.refl _ | with_reducible assumption | with_reducible apply lat_alloc | with_reducible apply lat_drewN | with_reducible apply lat_drew)); done) | (refine hb1.pre ?_; ((repeat (first | with_reducible exact Lat.refl _ | with_reducible assumption | with_reducible apply lat_alloc | with_reducible apply lat_drewN | with_reducible apply lat_drew)); done))) | exact lat_setCells (Nat.le_refl _) _ _ (by ((repeat (first | with_reducible exact Lat.refl _ | with_reducible assumption | with_reducible apply lat_alloc | with_reducible apply lat_drewN | with_reducible apply lat_drew)); done)) | exact lat_setCells (Lat.size (by with_reducible assumption)) _ _ (by ((repeat (first | with_reducible exact Lat.refl _ | with_reducible assumption | with_reducible apply lat_alloc | with_reducible apply lat_drewN | with_reducible apply lat_drew)); done)))
                  clear hK K
                  (try simp only [Act.put, List.setIfInBounds_toArray, List.set_cons_zero, List.set_cons_succ])
                  refine wpAnyH_take (i := 7) (oi := { dst := some 61, op := _, type := _, pos := _, after := _, guard := _ }) (v := ?_) rfl (by kernel_rfl) (by kernel_rfl) (by kernel_rfl) (fun _ _ _ h => h) (Or.inl ⟨by rfl, ?_⟩) (by assumption) ?_
                  rotate_left
                  · (intro w hSw; (try dsimp only at hSw); go_simp) <;> with_reducible rfl
                  (try simp only [Act.put, List.setIfInBounds_toArray, List.set_cons_zero, List.set_cons_succ])
                  refine wpAnyH_take (i := 8) (oi := { dst := some 69, op := _, type := _, pos := _, after := _, guard := _ }) (v := ?_) rfl (by kernel_rfl) (by kernel_rfl) (by kernel_rfl) (fun _ _ _ h => h) (Or.inl ⟨by rfl, ?_⟩) (by assumption) ?_
                  rotate_left
                  · (intro w hSw; (try dsimp only at hSw); go_simp) <;> with_reducible rfl
                  (try simp only [Act.put, List.setIfInBounds_toArray, List.set_cons_zero, List.set_cons_succ])
                  refine wpAnyH_take (i := 9) (oi := { dst := some 70, op := _, type := _, pos := _, after := _, guard := _ }) (v := ?_) rfl (by kernel_rfl) (by kernel_rfl) (by kernel_rfl) (fun _ _ _ h => h) (Or.inl ⟨by rfl, ?_⟩) (by assumption) ?_
                  rotate_left
                  · (intro w hSw; (try dsimp only at hSw); go_simp) <;> with_reducible rfl
                  (try simp only [Act.put, List.setIfInBounds_toArray, List.set_cons_zero, List.set_cons_succ])
                  refine wpAnyH_ready (rs := [10]) (by kernel_rfl) (by simp) ?_
                  refine AllReadyH.cons (o := { dst := some 12, op := _, type := _, pos := _, after := _, guard := _ }) rfl (fun K hK => ?_) AllReadyH.nil
                  go_simp
                  first | (refine hK.out _ _ ?_ (fun hHeld => ?_)) | (go_wp2_with fail; refine hK.out _ _ ?_ (fun hHeld => ?_))
                  · (try dsimp only); (first | (first | ((repeat (first | with_reducible exact Lat.refl _ | with_reducible assumption | with_reducible apply lat_alloc | with_reducible apply lat_drewN | with_reducible apply lat_drew)); done) | (refine hb1.pre ?_; ((repeat (first | with_reducible exact Lat.refl _ | with_reducible assumption | with_reducible apply lat_alloc | with_reducible apply lat_drewN | with_reducible apply lat_drew)); done))) | exact lat_setCells (Nat.le_refl _) _ _ (by ((repeat (first | with_reducible exact Lat.refl _ | with_reducible assumption | with_reducible apply lat_alloc | with_reducible apply lat_drewN | with_reducible apply lat_drew)); done)) | exact lat_setCells (Lat.size (by with_reducible assumption)) _ _ (by ((repeat (first | with_reducible exact Lat.refl _ | with_reducible assumption | with_reducible apply lat_alloc | with_reducible apply lat_drewN | with_reducible apply lat_drew)); done)))
                  clear hK K
                  (try simp only [Act.put, List.setIfInBounds_toArray, List.set_cons_zero, List.set_cons_succ])
                  refine wpAnyH_take (i := 11) (oi := { dst := some 11, op := _, type := _, pos := _, after := _, guard := _ }) (v := ?_) rfl (by kernel_rfl) (by kernel_rfl) (by kernel_rfl) (fun _ _ _ h => h) (Or.inl ⟨by rfl, ?_⟩) (by assumption) ?_
                  rotate_left
                  · (intro w hSw; (try dsimp only at hSw); go_simp) <;> with_reducible rfl
                  (try simp only [Act.put, List.setIfInBounds_toArray, List.set_cons_zero, List.set_cons_succ])
                  refine wpAnyH_ready (rs := [12]) (by kernel_rfl) (by simp) ?_
                  refine AllReadyH.cons (o := { dst := none, op := _, type := _, pos := _, after := _, guard := _ }) rfl (fun K hK => ?_) AllReadyH.nil
                  rw [if_pos (by rfl)]
                  refine wp_store_mid _ _ _ rfl (_) (0) (ctxCells z).toArray rfl rfl ?_ ?_ ?_ ?_
                  · exact (by first | exact there_of_block (new_at _ _) _ (by simp [hlz]) | exact there_of_block (hb1.block (new_at _ _)) _ (by simp [hlz]))
                  · (simp only [List.size_toArray, hlz]; kernel_rfl)
                  · exact all_oneCell_toArray (ctxCells_one z)
                  simp only [List.toList_toArray]
                  first | (refine hK.out _ _ ?_ (fun hHeld => ?_)) | (go_wp2_with fail; refine hK.out _ _ ?_ (fun hHeld => ?_))
                  · (try dsimp only); (first | (first | ((repeat (first | with_reducible exact Lat.refl _ | with_reducible assumption | with_reducible apply lat_alloc | with_reducible apply lat_drewN | with_reducible apply lat_drew)); done) | (refine hb1.pre ?_; ((repeat (first | with_reducible exact Lat.refl _ | with_reducible assumption | with_reducible apply lat_alloc | with_reducible apply lat_drewN | with_reducible apply lat_drew)); done))) | exact lat_setCells (Nat.le_refl _) _ _ (by ((repeat (first | with_reducible exact Lat.refl _ | with_reducible assumption | with_reducible apply lat_alloc | with_reducible apply lat_drewN | with_reducible apply lat_drew)); done)) | exact lat_setCells (Lat.size (by with_reducible assumption)) _ _ (by ((repeat (first | with_reducible exact Lat.refl _ | with_reducible assumption | with_reducible apply lat_alloc | with_reducible apply lat_drewN | with_reducible apply lat_drew)); done)))
                  clear hK K
                  (try simp only [Act.put, List.setIfInBounds_toArray, List.set_cons_zero, List.set_cons_succ])
                  refine wpAnyH_done (by kernel_rfl) ?_ _
                  go_wp2_with fail; go_meet; (first | exact ⟨v5, w5.heap.size, z, rfl, rfl, hz, lat_setCells (by have := hwle; have := hb1.size; omega) _ _ (lat_alloc (by with_reducible assumption) _), (hOz.later (lat_setCells (Nat.le_refl _) _ _ (lat_alloc (Lat.refl _) _))).base_le hwle, (hOv.later (lat_setCells (Nat.le_refl _) _ _ (lat_alloc (Lat.refl _) _))).base_le hwle, block_whole (new_at _ _) _ (by simp [hlz])⟩ | exact ⟨v5, w4.heap.size, z, rfl, rfl, hz, lat_setCells (Nat.le_refl _) _ _ (by with_reducible assumption), (hOz.grown (setCells_grown _ _ _ _) (by simp)).base_le hwle, (hOv.grown (setCells_grown _ _ _ _) (by simp)).base_le hwle, block_whole (hb1.block (new_at _ _)) _ (by simp [hlz])⟩)
                refine AllReadyH.cons (o := { dst := some 12, op := _, type := _, pos := _, after := _, guard := _ }) rfl (fun K hK => ?_) AllReadyH.nil
                go_simp
                first | (refine hK.out _ _ ?_ (fun hHeld => ?_)) | (go_wp2_with fail; refine hK.out _ _ ?_ (fun hHeld => ?_))
                · (try dsimp only); (first | (first | ((repeat (first | with_reducible exact Lat.refl _ | with_reducible assumption | with_reducible apply lat_alloc | with_reducible apply lat_drewN | with_reducible apply lat_drew)); done) | (refine hb1.pre ?_; ((repeat (first | with_reducible exact Lat.refl _ | with_reducible assumption | with_reducible apply lat_alloc | with_reducible apply lat_drewN | with_reducible apply lat_drew)); done))) | exact lat_setCells (Nat.le_refl _) _ _ (by ((repeat (first | with_reducible exact Lat.refl _ | with_reducible assumption | with_reducible apply lat_alloc | with_reducible apply lat_drewN | with_reducible apply lat_drew)); done)) | exact lat_setCells (Lat.size (by with_reducible assumption)) _ _ (by ((repeat (first | with_reducible exact Lat.refl _ | with_reducible assumption | with_reducible apply lat_alloc | with_reducible apply lat_drewN | with_reducible apply lat_drew)); done)))
                clear hK K
                (try simp only [Act.put, List.setIfInBounds_toArray, List.set_cons_zero, List.set_cons_succ])
                refine wpAnyH_ready (rs := [6]) (by kernel_rfl) (by simp) ?_
                refine AllReadyH.cons (o := { dst := some 68, op := _, type := _, pos := _, after := _, guard := _ }) rfl (fun K hK => ?_) AllReadyH.nil
                go_simp
                (go_at_call 21; refine (HA.out _ (by with_reducible assumption)).mono ?_; rintro e w5 ⟨v5, z, ⟨rfl, hz, hOz, hOv, hb1⟩, hwle⟩; have hlz := ctxCells_len z (clean_len hz); have hlzz : (ctxCells z).toArray.size = 17 := by simp [hlz])
                first | (refine hK.out _ _ ?_ (fun hHeld => ?_)) | (go_wp2_with fail; refine hK.out _ _ ?_ (fun hHeld => ?_))
                · (try dsimp only); (first | (first | ((repeat (first | with_reducible exact Lat.refl _ | with_reducible assumption | with_reducible apply lat_alloc | with_reducible apply lat_drewN | with_reducible apply lat_drew)); done) | (refine hb1.pre ?_; ((repeat (first | with_reducible exact Lat.refl _ | with_reducible assumption | with_reducible apply lat_alloc | with_reducible apply lat_drewN | with_reducible apply lat_drew)); done))) | exact lat_setCells (Nat.le_refl _) _ _ (by ((repeat (first | with_reducible exact Lat.refl _ | with_reducible assumption | with_reducible apply lat_alloc | with_reducible apply lat_drewN | with_reducible apply lat_drew)); done)) | exact lat_setCells (Lat.size (by with_reducible assumption)) _ _ (by ((repeat (first | with_reducible exact Lat.refl _ | with_reducible assumption | with_reducible apply lat_alloc | with_reducible apply lat_drewN | with_reducible apply lat_drew)); done)))
                clear hK K
                (try simp only [Act.put, List.setIfInBounds_toArray, List.set_cons_zero, List.set_cons_succ])
                refine wpAnyH_take (i := 7) (oi := { dst := some 61, op := _, type := _, pos := _, after := _, guard := _ }) (v := ?_) rfl (by kernel_rfl) (by kernel_rfl) (by kernel_rfl) (fun _ _ _ h => h) (Or.inl ⟨by rfl, ?_⟩) (by assumption) ?_
                rotate_left
                · (intro w hSw; (try dsimp only at hSw); go_simp) <;> with_reducible rfl
                (try simp only [Act.put, List.setIfInBounds_toArray, List.set_cons_zero, List.set_cons_succ])
                refine wpAnyH_take (i := 8) (oi := { dst := some 69, op := _, type := _, pos := _, after := _, guard := _ }) (v := ?_) rfl (by kernel_rfl) (by kernel_rfl) (by kernel_rfl) (fun _ _ _ h => h) (Or.inl ⟨by rfl, ?_⟩) (by assumption) ?_
                rotate_left
                · (intro w hSw; (try dsimp only at hSw); go_simp) <;> with_reducible rfl
                (try simp only [Act.put, List.setIfInBounds_toArray, List.set_cons_zero, List.set_cons_succ])
                refine wpAnyH_take (i := 9) (oi := { dst := some 70, op := _, type := _, pos := _, after := _, guard := _ }) (v := ?_) rfl (by kernel_rfl) (by kernel_rfl) (by kernel_rfl) (fun _ _ _ h => h) (Or.inl ⟨by rfl, ?_⟩) (by assumption) ?_
                rotate_left
                · (intro w hSw; (try dsimp only at hSw); go_simp) <;> with_reducible rfl
                (try simp only [Act.put, List.setIfInBounds_toArray, List.set_cons_zero, List.set_cons_succ])
                refine wpAnyH_take (i := 11) (oi := { dst := some 11, op := _, type := _, pos := _, after := _, guard := _ }) (v := ?_) rfl (by kernel_rfl) (by kernel_rfl) (by kernel_rfl) (fun _ _ _ h => h) (Or.inl ⟨by rfl, ?_⟩) (by assumption) ?_
                rotate_left
                · (intro w hSw; (try dsimp only at hSw); go_simp) <;> with_reducible rfl
                (try simp only [Act.put, List.setIfInBounds_toArray, List.set_cons_zero, List.set_cons_succ])
                refine wpAnyH_ready (rs := [12]) (by kernel_rfl) (by simp) ?_
                refine AllReadyH.cons (o := { dst := none, op := _, type := _, pos := _, after := _, guard := _ }) rfl (fun K hK => ?_) AllReadyH.nil
                rw [if_pos (by rfl)]
                refine wp_store_mid _ _ _ rfl (_) (0) (ctxCells z).toArray rfl rfl ?_ ?_ ?_ ?_
                · exact (by first | exact there_of_block (new_at _ _) _ (by simp [hlz]) | exact there_of_block (hb1.block (new_at _ _)) _ (by simp [hlz]))
                · (simp only [List.size_toArray, hlz]; kernel_rfl)
                · exact all_oneCell_toArray (ctxCells_one z)
                simp only [List.toList_toArray]
                first | (refine hK.out _ _ ?_ (fun hHeld => ?_)) | (go_wp2_with fail; refine hK.out _ _ ?_ (fun hHeld => ?_))
                · (try dsimp only); (first | (first | ((repeat (first | with_reducible exact Lat.refl _ | with_reducible assumption | with_reducible apply lat_alloc | with_reducible apply lat_drewN | with_reducible apply lat_drew)); done) | (refine hb1.pre ?_; ((repeat (first | with_reducible exact Lat.refl _ | with_reducible assumption | with_reducible apply lat_alloc | with_reducible apply lat_drewN | with_reducible apply lat_drew)); done))) | exact lat_setCells (Nat.le_refl _) _ _ (by ((repeat (first | with_reducible exact Lat.refl _ | with_reducible assumption | with_reducible apply lat_alloc | with_reducible apply lat_drewN | with_reducible apply lat_drew)); done)) | exact lat_setCells (Lat.size (by with_reducible assumption)) _ _ (by ((repeat (first | with_reducible exact Lat.refl _ | with_reducible assumption | with_reducible apply lat_alloc | with_reducible apply lat_drewN | with_reducible apply lat_drew)); done)))
                clear hK K
                (try simp only [Act.put, List.setIfInBounds_toArray, List.set_cons_zero, List.set_cons_succ])
                refine wpAnyH_done (by kernel_rfl) ?_ _
                go_wp2_with fail; go_meet; (first | exact ⟨v5, w5.heap.size, z, rfl, rfl, hz, lat_setCells (by have := hwle; have := hb1.size; omega) _ _ (lat_alloc (by with_reducible assumption) _), (hOz.later (lat_setCells (Nat.le_refl _) _ _ (lat_alloc (Lat.refl _) _))).base_le hwle, (hOv.later (lat_setCells (Nat.le_refl _) _ _ (lat_alloc (Lat.refl _) _))).base_le hwle, block_whole (new_at _ _) _ (by simp [hlz])⟩ | exact ⟨v5, w4.heap.size, z, rfl, rfl, hz, lat_setCells (Nat.le_refl _) _ _ (by with_reducible assumption), (hOz.grown (setCells_grown _ _ _ _) (by simp)).base_le hwle, (hOv.grown (setCells_grown _ _ _ _) (by simp)).base_le hwle, block_whole (hb1.block (new_at _ _)) _ (by simp [hlz])⟩)
              case rest =>
                obtain ⟨v5, g5, z, rfl, rfl, hz, hW5, hOz5, hOv5, kg⟩ := hcut
                have hlz := ctxCells_len z (clean_len hz)
                have hkcW := hW5.block HI4.out.kc
                have hput := HI4.out.put Hxd.out Hown.out Hds.out Hdone.out hz hOz5 hOv5 hW5 (clean_len hz) Hn16.out
                have hksW := (setCells_other (W := wc) (Ne.symm HI4.out.hne) (ctxCells z) 0 wc).trans (hW5.block HI4.out.ks)
                have hfb := Lat.frozen (Lat.refl _) hksW kk
                have Hput := Lib.hid hput
                have Hks := Lib.hid hksW
                have KG := Lib.hid kg
                have KC := Lib.hid hkcW
                have Hz := Lib.hid hz
                clear hput hksW hz hOz5 hOv5 kg hkcW RC HA d0 d1 d2 d3 d4 d5 d6 hlx
                obtain ⟨bq, hbq⟩ : ∃ bq, seen[kk]? = some bq := ⟨_, List.getElem?_eq_getElem (by have h1 := HI4.out.slen; omega)⟩
                have hcb : (wc.setCells bc 0 (ctxCells z)).cell? ⟨bs, kk, none⟩ = some (.bool bq) := Lat.cell (Lat.refl _) Hks.out kk (boolCells_get hbq)
                have Hbq := Lib.hid hbq
                clear hbq
                cases bq
                · go_wp2_with (first
                    | ((with_reducible refine wpList_ld 31 (g5) (0) (ctxCells z) ?_ Tryz.underlying31 ?_ ?_ ?_ ?_ ?_); exact (range_of_block KG.out); rfl; (rw [hlz]; kernel_rfl); rfl; rfl)
                    | ((with_reducible refine wpList_st 31 (bc) (0) (ctxCells z) ?_ ?_ ?_ ?_ ?_ ?_); exact (there_of_block KC.out _ (by simp [hlz, ctxCells_len _ HI4.out.vlen])); (rw [hlz]; kernel_rfl); exact (ctxCells_one z); rfl; rfl))
                  go_roundw
                  case rel => exact ⟨k + 1, cnt + 1, _, z, _, by omega, by go_num, rfl, Hput.out.2 Hbq.out⟩
                  case measure => simp [intOf]; omega
                · go_wp2_with (first
                    | ((with_reducible refine wpList_ld 31 (g5) (0) (ctxCells z) ?_ Tryz.underlying31 ?_ ?_ ?_ ?_ ?_); exact (range_of_block KG.out); rfl; (rw [hlz]; kernel_rfl); rfl; rfl)
                    | ((with_reducible refine wpList_st 31 (bc) (0) (ctxCells z) ?_ ?_ ?_ ?_ ?_ ?_); exact (there_of_block KC.out _ (by simp [hlz, ctxCells_len _ HI4.out.vlen])); (rw [hlz]; kernel_rfl); exact (ctxCells_one z); rfl; rfl))
                  go_roundw
                  case rel => exact ⟨k + 1, cnt, _, z, _, by omega, by go_num, rfl, Hput.out.1 Hbq.out⟩
                  case measure => simp [intOf]; omega
            · have Hown := Lib.hid hown
              clear hown
              go_wp2_with (go_at_call 20; refine (HO.out _ HI.out.lat).mono ?_; rintro e w4 ⟨⟨r, rfl, hr4⟩, hb4⟩; obtain rfl : r = false := (by cases r; rfl; exact absurd (hr4.1 rfl) Hown.out); clear hr4)
              go_roundw
              case rel => exact ⟨k + 1, cnt, xs, cv, seen, by omega, by go_num, rfl, (HI.out.later hb4).skip (fun j hj hoj => by rw [Hdone.out j hj] at hoj; exact Hown.out hoj)⟩
              case measure => simp [intOf]; omega
        · obtain rfl : k = m + n := by omega
          have hge : ¬ ((m + n : Nat) : Int) < (m : Int) + (n : Int) := by omega
          have hge2 : ¬ (m : Int) + (n : Int) < (m : Int) + (n : Int) := by omega
          obtain ⟨wa, rfl⟩ : ∃ wa : World, wa = wr := ⟨_, rfl⟩
          have hlw := HI.out.lat
          have hcnt : cnt ≤ (n : Int) := by
            have h1 := HI.out.cnt
            have h2 := countT_le (seen := seen) (m := n) (fun k hk => by obtain ⟨d', hd', _⟩ := HI.out.inv.own k hk; have := lt_of_get hd'; omega)
            omega
          have HO := Lib.hid (fun j (hj : j < n) W (h : Lat w W) => l16_own A n c ds Hl.out (by omega) j hj W (Hrd.out.later h) (fun e he => (Hin.out e he).1.later h) Hsm.out)
          have HT := Lib.hid (fun d W (h : Lat w W) => l16_taken A n c ds Hl.out (by omega) d W (Hrd.out.later h) (fun e he => (Hin.out e he).1.later h) Hsm.out)
          have hrefl2 := Lat.refl wa
          clear hl hlo
          go_wp2_with fail
          go_loopw [13, 14, 15] (fun v13 v14 i wq => ∃ (j : Nat) (want : List Fact) (dots : List Dot), j ≤ n ∧ i = .int .i64 j ∧ Own encFact 8 77 wa.heap.size wq v13 want ∧ Own encDot 2 37 wa.heap.size wq v14 dots ∧ Lat wa wq ∧ Wants ds j want dots) (fun _ _ i _ => n - (intOf i).toNat)
          case atStart => exact ⟨0, [], [], by omega, rfl, Own.nil _ _ _ _ _, Own.nil _ _ _ _ _, Lat.refl _, wants_start ds⟩
          case round =>
            obtain ⟨j, want, dots, hj, rfl, hO1, hO2, hLq, hwants⟩ := hrel
            have HO1 := Lib.hid hO1
            have HO2 := Lib.hid hO2
            have Hw := Lib.hid hwants
            clear hO1 hO2 hwants
            by_cases hltj : j < n
            · have hl2 := Hl.out
              have hji : (j : Int) < (n : Int) := by omega
              have hj0 : (0 : Int) ≤ (j : Int) := by omega
              have hxd : ds[j]? = some (ds[j]'(by omega)) := List.getElem?_eq_getElem (by omega)
              have hmd' : ds[j]'(by omega) ∈ ds := List.getElem_mem _
              have hdo := (Hin.out _ hmd').1
              have hds := Hsm.out _ hmd'
              obtain ⟨b2, o2, hA2, hb2, hr2⟩ := Hrd.out.get j _ hxd
              subst hA2
              generalize ds[j]'(by omega) = d at *
              have Hxd := Lib.hid hxd
              have Hdo := Lib.hid hdo
              have Hds := Lib.hid hds
              have d0 : ∀ W, Lat wa W → W.cell? ⟨b2, o2 + j * 7, none⟩ = some (.int .i64 d.dot.r) := fun W h => hr2 W (hlw.trans h) 0 _ rfl
              have d1 : ∀ W, Lat wa W → W.cell? ⟨b2, o2 + j * 7 + 1, none⟩ = some (.int .i64 d.dot.n) := fun W h => hr2 W (hlw.trans h) 1 _ rfl
              have d5 : ∀ W, Lat wa W → W.cell? ⟨b2, o2 + j * 7 + 5, none⟩ = some (.slice d.A d.facts.length d.cap) := fun W h => hr2 W (hlw.trans h) 5 _ rfl
              have d6 : ∀ W, Lat wa W → W.cell? ⟨b2, o2 + j * 7 + 6, none⟩ = some (.slice d.A2 d.gone.length d.cap2) := fun W h => hr2 W (hlw.trans h) 6 _ rfl
              have hwl := Hw.out.wl
              have hdl := Hw.out.dl
              have hds1 := hds.1
              have hds2 := hds.2
              clear hxd hmd' hdo hds hr2 hl2
              by_cases hown : ownAt ds j
              · have Hown := Lib.hid hown
                clear hown
                go_upto_region 26 with (go_at_call 20; refine (HO.out j hltj _ (hlw.trans hLq)).mono ?_; rintro e w4 ⟨⟨r, rfl, hr4⟩, hb4⟩; obtain rfl := hr4.2 Hown.out; clear hr4)
                have hL4 : Lat wa w4 := hLq.trans hb4
                have H1 := Lib.hid (HO1.out.later hb4)
                have H2 := Lib.hid (HO2.out.later hb4)
                clear hb4
                have hap := own_apart H1.out H2.out (by decide)
                go_upto_region 27 with ((at_builtin; go_must (refine app1g encDot_len encDot_one (by omega) (base := wa.heap.size) rfl _ _ 29 37 _ 16 rfl Tryz.underlying29 info_dot rfl u14 dots d.dot #[.int .i64 d.dot.r, .int .i64 d.dot.n] rfl rfl rfl H2.out hL4.size (by omega) (by omega) ?_; intro v6 w6 hO6 hG6)))
                have hL6 : Lat wa w6 := lat_grown hL4 hG6 (fun g hg => Own.block_ge H2.out g hg)
                have H16 := Lib.hid (H1.out.far hG6 hap)
                have H26 := Lib.hid hO6
                clear hO6 hG6 hap
                have hap := own_apart H16.out H26.out (by decide)
                go_upto_region 28 with ((at_builtin; go_must (refine appSg encDot_len encDot_one (by omega) (base := wa.heap.size) rfl _ _ 29 37 _ 16 rfl Tryz.underlying29 info_dot rfl v6 (dots ++ [d.dot]) d.gone d.A2 d.gone.length d.cap2 rfl rfl rfl H26.out (Hdo.out.gone.later (hlw.trans hL6)) hL6.size (by simp; omega) (by simp; omega) ?_; intro v7 w7 hO7 hG7)))
                have hL7 : Lat wa w7 := lat_grown hL6 hG7 (fun g hg => Own.block_ge H26.out g hg)
                have H17 := Lib.hid (H16.out.far hG7 hap)
                have H27 := Lib.hid hO7
                clear hO7 hG7 hap
                by_cases htk : takenP ds d.dot ds.length
                · have Htk := Lib.hid htk
                  clear htk
                  go_wp2_with (go_at_call 22; refine (HT.out d.dot _ (hlw.trans (by ((repeat (first | with_reducible exact Lat.refl _ | with_reducible assumption | with_reducible apply lat_alloc | with_reducible apply lat_drewN | with_reducible apply lat_drew)); done)))).mono ?_; rintro e w8 ⟨⟨r, rfl, hr8⟩, hb8⟩; obtain rfl := hr8.2 Htk.out; clear hr8; have hL8 : Lat wa w8 := hb8.pre (by repeat (first | with_reducible exact Lat.refl _ | with_reducible assumption | with_reducible apply lat_alloc | with_reducible apply lat_drewN | with_reducible apply lat_drew)))
                  go_roundw
                  case rel => exact ⟨j + 1, want, (dots ++ [d.dot]) ++ d.gone, by omega, by go_num, H17.out.later hb8, H27.out.later hb8, hL8, wants_taken Hw.out Hxd.out Hown.out Hds.out Htk.out⟩
                  case measure => simp [intOf]; omega
                · have Htk := Lib.hid htk
                  clear htk
                  go_upto_region 29 with (go_at_call 22; refine (HT.out d.dot _ (hlw.trans (by ((repeat (first | with_reducible exact Lat.refl _ | with_reducible assumption | with_reducible apply lat_alloc | with_reducible apply lat_drewN | with_reducible apply lat_drew)); done)))).mono ?_; rintro e w8 ⟨⟨r, rfl, hr8⟩, hb8⟩; obtain rfl : r = false := (by cases r; rfl; exact absurd (hr8.1 rfl) Htk.out); clear hr8; have hL8 : Lat wa w8 := hb8.pre (by repeat (first | with_reducible exact Lat.refl _ | with_reducible assumption | with_reducible apply lat_alloc | with_reducible apply lat_drewN | with_reducible apply lat_drew)))
                  have H18 := Lib.hid (H17.out.later hb8)
                  have H28 := Lib.hid (H27.out.later hb8)
                  clear hb8
                  have hap := own_apart H28.out H18.out (by decide)
                  go_wp2_with ((at_builtin; go_must (refine appSg encFact_len encFact_one (by omega) (base := wa.heap.size) rfl _ _ 26 77 _ 80 rfl Tryz.underlying26 info_fact rfl u13 want d.facts d.A d.facts.length d.cap rfl rfl rfl H18.out (Hdo.out.facts.later (hlw.trans hL8)) hL8.size (by omega) (by omega) ?_; intro v9 w9 hO9 hG9; have H19 := Lib.hid hO9; have G9 := Lib.hid hG9; clear hO9 hG9)))
                  go_roundw
                  case rel => exact ⟨j + 1, want ++ d.facts, (dots ++ [d.dot]) ++ d.gone, by omega, by go_num, H19.out, H28.out.far G9.out hap, lat_grown hL8 G9.out (fun g hg => Own.block_ge H18.out g hg), wants_keep Hw.out Hxd.out Hown.out Hds.out Htk.out⟩
                  case measure => simp [intOf]; omega
              · have Hown := Lib.hid hown
                clear hown
                go_wp2_with (go_at_call 20; refine (HO.out j hltj _ (hlw.trans hLq)).mono ?_; rintro e w4 ⟨⟨r, rfl, hr4⟩, hb4⟩; obtain rfl : r = false := (by cases r; rfl; exact absurd (hr4.1 rfl) Hown.out); clear hr4)
                go_roundw
                case rel => exact ⟨j + 1, want, dots, by omega, by go_num, HO1.out.later hb4, HO2.out.later hb4, hLq.trans hb4, wants_skip Hw.out Hown.out⟩
                case measure => simp [intOf]; omega
            · have hnj : j = n := by omega
              have hw1 := Hw.out
              rw [hnj, ← Hl.out] at hw1
              obtain ⟨hfin1, hfin2⟩ := orders_end HI.out.inv (fun q hq => HI.out.done q (by obtain ⟨d', hd', _⟩ := hq; have h1 := lt_of_get hd'; have h2 := Hl.out; omega) hq) hw1
              obtain ⟨A13, c13, hv13, hc13, _, hR13⟩ := HO1.out.rd encFact_len
              obtain ⟨A14, c14, hv14, hc14, _, hR14⟩ := HO2.out.rd encDot_len
              subst hv13
              subst hv14
              have hwl := hw1.wl
              have hdl := hw1.dl
              have hxl := HI.out.xl
              have hcl := HI.out.cl
              have hlx : (ctxCells cv).length = 17 := ctxCells_len _ HI.out.vlen
              have Hn := Lib.hid (show ds.length = n from Hl.out)
              have hn' := Hl.out
              have RC := Lib.hid (fun W (h : Lat wr W) => range_of_block (h.block (hLq.block HI.out.kc)))
              have Rx := Lib.hid ((Own.rdS encFact_len HI.out.own).later hLq)
              have Rc := Lib.hid ((Own.rdS encDot_len HI.out.cloud).later hLq)
              have HS := Lib.hid (fun W (h : Lat wr W) => almonryref15_Sort A13 _ c13 want rfl (by omega) W (hR13.later h))
              have HM := Lib.hid (fun A' c' (ys : List Fact) W (h : Lat wr W) (hys : ys = xs) (hr : RdS encFact 8 W A' ys) => almonryref15_Same Ax _ cx xs rfl (by omega) A' ys.length c' ys rfl (by subst hys; omega) W (Rx.out.later h) hr)
              have HD := Lib.hid (fun W (h : Lat wr W) => r13_Add zeroCtx A14 _ c14 dots rfl (by omega) W ⟨clampTo_len _ _, Nat.zero_le _, RdS.nil _ _ _ _⟩ (by simp [zeroCtx]) (hR14.later h))
              have HE := Lib.hid (fun (y : CtxV) W (h : Lat wr W) (hy : CtxOk W y) => r13_Same cv y W ⟨HI.out.vlen, by omega, Rc.out.later h⟩ hy)
              have Hf1 := Lib.hid hfin1
              have Hf2 := Lib.hid hfin2
              have HLq := Lib.hid hLq
              have hrefl3 := Lat.refl wr
              have hgt : ¬ (j : Int) < (n : Int) := by omega
              clear hfin1 hfin2 hw1 hR13 hR14 hnj hn' hLq
              go_upto_region 30 with (fail)
              refine wp_region_held_drew (S := (fun W => Lat wr W)) (by kernel_rfl) ?_ (fun hHeld => ?_)
              · (try dsimp only); (first | ((repeat (first | with_reducible exact Lat.refl _ | with_reducible assumption | with_reducible apply lat_alloc | with_reducible apply lat_drewN | with_reducible apply lat_drew)); done) | (refine hb1.pre ?_; ((repeat (first | with_reducible exact Lat.refl _ | with_reducible assumption | with_reducible apply lat_alloc | with_reducible apply lat_drewN | with_reducible apply lat_drew)); done)))
              refine wpAnyH_take (i := 0) (oi := { dst := some 121, op := _, type := _, pos := _, after := _, guard := _ }) (v := ?_) rfl (by kernel_rfl) (by kernel_rfl) (by kernel_rfl) (fun _ _ _ h => h) (Or.inl ⟨by rfl, ?_⟩) (by assumption) ?_
              rotate_left
              · (intro w hSw; (try dsimp only at hSw); go_simp) <;> with_reducible rfl
              (try simp only [Act.put, List.setIfInBounds_toArray, List.set_cons_zero, List.set_cons_succ])
              refine wpAnyH_take (i := 1) (oi := { dst := some 122, op := _, type := _, pos := _, after := _, guard := _ }) (v := ?_) rfl (by kernel_rfl) (by kernel_rfl) (by kernel_rfl) (fun _ _ _ h => h) (Or.inl ⟨by rfl, ?_⟩) (by assumption) ?_
              rotate_left
              · (intro w hSw; (try dsimp only at hSw); go_simp) <;> with_reducible rfl
              (try simp only [Act.put, List.setIfInBounds_toArray, List.set_cons_zero, List.set_cons_succ])
              refine wpAnyH_ready (rs := [2]) (by kernel_rfl) (by simp) ?_
              refine AllReadyH.cons (o := { dst := some 123, op := _, type := _, pos := _, after := _, guard := _ }) rfl (fun K hK => ?_) AllReadyH.nil
              go_simp
              (go_at_call 24; refine (HS.out _ (by with_reducible assumption)).mono ?_; rintro e w5 ⟨v5, rfl, hO5, hb1⟩; obtain ⟨As, cs, hv5, hcs, _, hRs⟩ := Own.rd encFact_len hO5; subst hv5)
              first | (refine hK.out _ _ ?_ (fun hHeld => ?_)) | (go_wp2_with fail; refine hK.out _ _ ?_ (fun hHeld => ?_))
              · (try dsimp only); (first | ((repeat (first | with_reducible exact Lat.refl _ | with_reducible assumption | with_reducible apply lat_alloc | with_reducible apply lat_drewN | with_reducible apply lat_drew)); done) | (refine hb1.pre ?_; ((repeat (first | with_reducible exact Lat.refl _ | with_reducible assumption | with_reducible apply lat_alloc | with_reducible apply lat_drewN | with_reducible apply lat_drew)); done)))
              clear hK K
              (try simp only [Act.put, List.setIfInBounds_toArray, List.set_cons_zero, List.set_cons_succ])
              refine wpAnyH_ready (rs := [3]) (by kernel_rfl) (by simp) ?_
              refine AllReadyH.cons (o := { dst := some 124, op := _, type := _, pos := _, after := _, guard := _ }) rfl (fun K hK => ?_) AllReadyH.nil
              go_simp
              (go_at_call 23; refine (HM.out As cs (sortU factLt want) _ (by with_reducible assumption) Hf1.out.symm hRs).mono ?_; rintro e w6 ⟨rfl, hb1⟩; have hdd : decide (xs = sortU factLt want) = true := decide_eq_true Hf1.out; rw [hdd])
              first | (refine hK.out _ _ ?_ (fun hHeld => ?_)) | (go_wp2_with fail; refine hK.out _ _ ?_ (fun hHeld => ?_))
              · (try dsimp only); (first | ((repeat (first | with_reducible exact Lat.refl _ | with_reducible assumption | with_reducible apply lat_alloc | with_reducible apply lat_drewN | with_reducible apply lat_drew)); done) | (refine hb1.pre ?_; ((repeat (first | with_reducible exact Lat.refl _ | with_reducible assumption | with_reducible apply lat_alloc | with_reducible apply lat_drewN | with_reducible apply lat_drew)); done)))
              clear hK K
              (try simp only [Act.put, List.setIfInBounds_toArray, List.set_cons_zero, List.set_cons_succ])
              refine wpAnyH_take (i := 4) (oi := { dst := some 125, op := _, type := _, pos := _, after := _, guard := _ }) (v := ?_) rfl (by kernel_rfl) (by kernel_rfl) (by kernel_rfl) (fun _ _ _ h => h) (Or.inl ⟨by rfl, ?_⟩) (by assumption) ?_
              rotate_left
              · (intro w hSw; (try dsimp only at hSw); go_simp) <;> with_reducible rfl
              (try simp only [Act.put, List.setIfInBounds_toArray, List.set_cons_zero, List.set_cons_succ])
              refine wpAnyH_take (i := 5) (oi := { dst := some 126, op := _, type := _, pos := _, after := _, guard := _ }) rfl (by kernel_rfl) (by kernel_rfl) (by kernel_rfl) (fun _ _ _ h => h) (yieldsIf_load_mid (by rfl) _ _ rfl (bc) (0) rfl ((ctxCells cv)) _ ((RC.out)) Tryz.underlying31 rfl (by rw [hlx]; kernel_rfl)) (by assumption) ?_
              (try simp only [Act.put, List.setIfInBounds_toArray, List.set_cons_zero, List.set_cons_succ])
              refine wpAnyH_take (i := 6) (oi := { dst := some 127, op := _, type := _, pos := _, after := _, guard := _ }) (v := ?_) rfl (by kernel_rfl) (by kernel_rfl) (by kernel_rfl) (fun _ _ _ h => h) (Or.inl ⟨by rfl, ?_⟩) (by assumption) ?_
              rotate_left
              · (intro w hSw; (try dsimp only at hSw); go_simp) <;> with_reducible rfl
              (try simp only [Act.put, List.setIfInBounds_toArray, List.set_cons_zero, List.set_cons_succ])
              refine wpAnyH_take (i := 7) (oi := { dst := some 128, op := _, type := _, pos := _, after := _, guard := _ }) (v := ?_) rfl (by kernel_rfl) (by kernel_rfl) (by kernel_rfl) (fun _ _ _ h => h) (Or.inl ⟨by rfl, ?_⟩) (by assumption) ?_
              rotate_left
              · (intro w hSw; (try dsimp only at hSw); go_simp) <;> with_reducible rfl
              (try simp only [Act.put, List.setIfInBounds_toArray, List.set_cons_zero, List.set_cons_succ])
              refine wpAnyH_ready (rs := [8]) (by kernel_rfl) (by simp) ?_
              refine AllReadyH.cons (o := { dst := some 129, op := _, type := _, pos := _, after := _, guard := _ }) rfl (fun K hK => ?_) AllReadyH.nil
              go_simp
              (rw [zeroCtx_cells]; go_at_call 26; refine (HD.out _ (by with_reducible assumption)).mono ?_; rintro e w7 ⟨y, rfl, hy, hOy, hb1⟩; have hyc : CtxOk w7 y := ⟨clean_len hy, Nat.le_trans (clean_small hy) (by have := Hn.out; simp [zeroCtx]; omega), Own.rdS encDot_len hOy⟩)
              first | (refine hK.out _ _ ?_ (fun hHeld => ?_)) | (go_wp2_with fail; refine hK.out _ _ ?_ (fun hHeld => ?_))
              · (try dsimp only); (first | ((repeat (first | with_reducible exact Lat.refl _ | with_reducible assumption | with_reducible apply lat_alloc | with_reducible apply lat_drewN | with_reducible apply lat_drew)); done) | (refine hb1.pre ?_; ((repeat (first | with_reducible exact Lat.refl _ | with_reducible assumption | with_reducible apply lat_alloc | with_reducible apply lat_drewN | with_reducible apply lat_drew)); done)))
              clear hK K
              (try simp only [Act.put, List.setIfInBounds_toArray, List.set_cons_zero, List.set_cons_succ])
              refine wpAnyH_ready (rs := [9]) (by kernel_rfl) (by simp) ?_
              refine AllReadyH.cons (o := { dst := some 130, op := _, type := _, pos := _, after := _, guard := _ }) rfl (fun K hK => ?_) AllReadyH.nil
              go_simp
              (go_at_call 25; refine (HE.out y _ (by with_reducible assumption) hyc).mono ?_; rintro e w8 ⟨rfl, hb1⟩; have hdd2 : decide (cv.v = y.v ∧ cv.cloud = y.cloud) = true := decide_eq_true (by have h := Hf2.out.trans hy.symm; injection h with h1 h2; exact ⟨h1, h2⟩); rw [hdd2])
              first | (refine hK.out _ _ ?_ (fun hHeld => ?_)) | (go_wp2_with fail; refine hK.out _ _ ?_ (fun hHeld => ?_))
              · (try dsimp only); (first | ((repeat (first | with_reducible exact Lat.refl _ | with_reducible assumption | with_reducible apply lat_alloc | with_reducible apply lat_drewN | with_reducible apply lat_drew)); done) | (refine hb1.pre ?_; ((repeat (first | with_reducible exact Lat.refl _ | with_reducible assumption | with_reducible apply lat_alloc | with_reducible apply lat_drewN | with_reducible apply lat_drew)); done)))
              clear hK K
              (try simp only [Act.put, List.setIfInBounds_toArray, List.set_cons_zero, List.set_cons_succ])
              refine wpAnyH_take (i := 10) (oi := { dst := some 131, op := _, type := _, pos := _, after := _, guard := _ }) (v := ?_) rfl (by kernel_rfl) (by kernel_rfl) (by kernel_rfl) (fun _ _ _ h => h) (Or.inl ⟨by rfl, ?_⟩) (by assumption) ?_
              rotate_left
              · (intro w hSw; (try dsimp only at hSw); go_simp) <;> with_reducible rfl
              (try simp only [Act.put, List.setIfInBounds_toArray, List.set_cons_zero, List.set_cons_succ])
              refine wpAnyH_take (i := 11) (oi := { dst := some 132, op := _, type := _, pos := _, after := _, guard := _ }) (v := ?_) rfl (by kernel_rfl) (by kernel_rfl) (by kernel_rfl) (fun _ _ _ h => h) (Or.inl ⟨by rfl, ?_⟩) (by assumption) ?_
              rotate_left
              · (intro w hSw; (try dsimp only at hSw); go_simp) <;> with_reducible rfl
              (try simp only [Act.put, List.setIfInBounds_toArray, List.set_cons_zero, List.set_cons_succ])
              refine wpAnyH_take (i := 12) (oi := { dst := some 133, op := _, type := _, pos := _, after := _, guard := _ }) (v := ?_) rfl (by kernel_rfl) (by kernel_rfl) (by kernel_rfl) (fun _ _ _ h => h) (Or.inl ⟨by rfl, ?_⟩) (by assumption) ?_
              rotate_left
              · (intro w hSw; (try dsimp only at hSw); go_simp) <;> with_reducible rfl
              (try simp only [Act.put, List.setIfInBounds_toArray, List.set_cons_zero, List.set_cons_succ])
              refine wpAnyH_take (i := 13) (oi := { dst := some 134, op := _, type := _, pos := _, after := _, guard := _ }) (v := ?_) rfl (by kernel_rfl) (by kernel_rfl) (by kernel_rfl) (fun _ _ _ h => h) (Or.inl ⟨by rfl, ?_⟩) (by assumption) ?_
              rotate_left
              · (intro w hSw; (try dsimp only at hSw); go_simp) <;> with_reducible rfl
              (try simp only [Act.put, List.setIfInBounds_toArray, List.set_cons_zero, List.set_cons_succ])
              refine wpAnyH_take (i := 14) (oi := { dst := some 135, op := _, type := _, pos := _, after := _, guard := _ }) (v := ?_) rfl (by kernel_rfl) (by kernel_rfl) (by kernel_rfl) (fun _ _ _ h => h) (Or.inl ⟨by rfl, ?_⟩) (by assumption) ?_
              rotate_left
              · (intro w hSw; (try dsimp only at hSw); go_simp) <;> with_reducible rfl
              (try simp only [Act.put, List.setIfInBounds_toArray, List.set_cons_zero, List.set_cons_succ])
              refine wpAnyH_take (i := 15) (oi := { dst := some 136, op := _, type := _, pos := _, after := _, guard := _ }) (v := ?_) rfl (by kernel_rfl) (by kernel_rfl) (by kernel_rfl) (fun _ _ _ h => h) (Or.inl ⟨by rfl, ?_⟩) (by assumption) ?_
              rotate_left
              · (intro w hSw; (try dsimp only at hSw); go_simp) <;> with_reducible rfl
              (try simp only [Act.put, List.setIfInBounds_toArray, List.set_cons_zero, List.set_cons_succ])
              refine wpAnyH_take (i := 16) (oi := { dst := some 137, op := _, type := _, pos := _, after := _, guard := _ }) (v := ?_) rfl (by kernel_rfl) (by kernel_rfl) (by kernel_rfl) (fun _ _ _ h => h) (Or.inl ⟨by rfl, ?_⟩) (by assumption) ?_
              rotate_left
              · (intro w hSw; (try dsimp only at hSw); go_simp) <;> with_reducible rfl
              (try simp only [Act.put, List.setIfInBounds_toArray, List.set_cons_zero, List.set_cons_succ])
              refine wpAnyH_take (i := 17) (oi := { dst := some 138, op := _, type := _, pos := _, after := _, guard := _ }) (v := ?_) rfl (by kernel_rfl) (by kernel_rfl) (by kernel_rfl) (fun _ _ _ h => h) (Or.inl ⟨by rfl, ?_⟩) (by assumption) ?_
              rotate_left
              · (intro w hSw; (try dsimp only at hSw); go_simp) <;> with_reducible rfl
              (try simp only [Act.put, List.setIfInBounds_toArray, List.set_cons_zero, List.set_cons_succ])
              refine wpAnyH_ready (rs := [18]) (by kernel_rfl) (by simp) ?_
              refine AllReadyH.cons (o := { dst := some 139, op := _, type := _, pos := _, after := _, guard := _ }) rfl (fun K hK => ?_) AllReadyH.nil
              go_simp
              (go_at_call 19; refine (HAw.out _).mono ?_; rintro e w9 ⟨rfl, hb1⟩)
              first | (refine hK.out _ _ ?_ (fun hHeld => ?_)) | (go_wp2_with fail; refine hK.out _ _ ?_ (fun hHeld => ?_))
              · (try dsimp only); (first | ((repeat (first | with_reducible exact Lat.refl _ | with_reducible assumption | with_reducible apply lat_alloc | with_reducible apply lat_drewN | with_reducible apply lat_drew)); done) | (refine hb1.pre ?_; ((repeat (first | with_reducible exact Lat.refl _ | with_reducible assumption | with_reducible apply lat_alloc | with_reducible apply lat_drewN | with_reducible apply lat_drew)); done)))
              clear hK K
              (try simp only [Act.put, List.setIfInBounds_toArray, List.set_cons_zero, List.set_cons_succ])
              refine wpAnyH_take (i := 19) (oi := { dst := some 140, op := _, type := _, pos := _, after := _, guard := _ }) (v := ?_) rfl (by kernel_rfl) (by kernel_rfl) (by kernel_rfl) (fun _ _ _ h => h) (Or.inl ⟨by rfl, ?_⟩) (by assumption) ?_
              rotate_left
              · (intro w hSw; (try dsimp only at hSw); go_simp) <;> with_reducible rfl
              (try simp only [Act.put, List.setIfInBounds_toArray, List.set_cons_zero, List.set_cons_succ])
              refine wpAnyH_take (i := 20) (oi := { dst := some 4, op := _, type := _, pos := _, after := _, guard := _ }) (v := ?_) rfl (by kernel_rfl) (by kernel_rfl) (by kernel_rfl) (fun _ _ _ h => h) (Or.inl ⟨by rfl, ?_⟩) (by assumption) ?_
              rotate_left
              · (intro w hSw; (try dsimp only at hSw); go_simp) <;> with_reducible rfl
              (try simp only [Act.put, List.setIfInBounds_toArray, List.set_cons_zero, List.set_cons_succ])
              refine wpAnyH_done (by kernel_rfl) ?_ _
              go_wp2
              go_ret
              exact ⟨rfl, HI.out.lat.trans (HLq.out.trans (by with_reducible assumption))⟩
end Go.Proofs.YtgjffndpegjenaaGreat
