import Derived.Test.YtipedgkampafjaaDoorGc
import Derived.Deep.RegionHeld3
import Derived.Deep.AppendLies
import Derived.Test.YtipedgkampafjaaDoorRf0
import Derived.Deep.Slices
import Derived.Deep.Fields
import Derived.ChangeSame
import Derived.Test.YtipedgkampafjaaDoorGa
import Derived.Test.YtipedgkampafjaaDoorTie
import Derived.ProofKit
import Derived.LaidMore
import Derived.OpenShut
import Derived.Stop.Joined
import Derived.Test.YtipedgkampafjaaDoorCards
import Derived.SevenTiedAt
import Derived.Carry
/- Walks the law DecomposeDistributes. -/
namespace Go.Proofs.YtipedgkampafjaaDoor.Rf
open Go.Shelf Go.RowKit Go.Proofs.YtipedgkampafjaaDoorW.PrintWords Go.Proofs.YtipedgkampafjaaDoorW.PrintLast Go.Proofs.YtipedgkampafjaaDoorW.PrintMore

set_option maxRecDepth 100000 in
/-- What an append of a row to a row of the call's own leaves. -/
theorem run_rowI {W : World} {base : Nat} {v : Value} {xs ys : List Int} {A : Option Addr} {c : Nat} (HO : RowI W base v xs) (HR : ReadsInt W .i64 A ys.length ys) (hbase : base ≤ W.heap.size) (hl : (xs.length + ys.length) * 8 ≤ 140737488355328) (ty : TypeId) :
    ∃ v1 w1, (Builtin.append_ #[31, 31] ty #[v, .slice A ys.length c]).run Tryd.prog W = .ok v1 w1 ∧ RowI w1 base v1 (xs ++ ys) ∧ W.grownBy w1 v.ownBlock ∧ (v1.ownBlock = v.ownBlock ∨ v1.ownBlock = some W.heap.size) := by
  obtain ⟨i0, hi, hzz⟩ := Option.map_eq_some_iff.1 infoI
  simp only [Prod.mk.injEq] at hzz
  obtain ⟨hz0, hz1, hz2⟩ := hzz
  rcases A with _ | ad
  · have h0 : ys = [] := by
      cases ys with
      | nil => rfl
      | cons y l => obtain ⟨ad, h, _⟩ := HR.2.2 (by simp); cases h
    subst h0
    refine ⟨v, W, ?_, by simpa using HO, World.grownBy.refl W _, .inl rfl⟩
    rcases HO.2 with ⟨rfl, hn⟩ | ⟨g, cap, cur, rfl, _, _, hnc, _⟩
    · simp [Builtin.append_, run_underlying Tryd.underlying31, sizeOf, typeInfo, hi, Builtin.lenOf, Builtin.firstCells]
    · simp [Builtin.append_, run_underlying Tryd.underlying31, sizeOf, typeInfo, hi, Builtin.lenOf, Builtin.firstCells, hnc, storeCells]
  · have hcells : ∀ j u, (nums .i64 ys)[j]? = some u → W.cell? (ad.add j) = some u := by
      intro j u hu
      have hj : j < ys.length := by
        rcases Nat.lt_or_ge j ys.length with h | h
        · exact h
        · simp [nums, List.getElem?_eq_none h] at hu
      obtain ⟨ad', h', hc⟩ := HR.2.2 (by omega)
      injection h' with h'
      subst h'
      have := hc j (by omega)
      simp [nums, List.getElem?_eq_getElem hj] at hu
      subst hu
      rw [this]
      simp [List.getD_eq_getElem?_getD, List.getElem?_eq_getElem hj]
    obtain ⟨v1, w1, hr, h2, h3, _, h5⟩ := run_append_own_at (P := Tryd.prog) W base 31 ty 3 i0 (.int .i64 0) 1 8 Tryd.underlying31 hi hz0 hz1 hz2 rfl (by omega) v xs.length (nums .i64 xs) HO ad ys.length c (nums .i64 ys) (by simp [nums]) hcells
      (by intro u hu; simp only [nums, List.mem_map] at hu; obtain ⟨q, _, rfl⟩ := hu; rfl) (by simp only [maxLen]; omega) hl hbase
    exact ⟨v1, w1, hr, by simpa [nums, RowI] using h2, h3, h5⟩
/-- .. at a step of a region that draws its order. -/
theorem step_rowI {W : World} {ops : Array Oper} {o : Oper} {a : Act} {K : Act → World → Prop} {Q : Exit → Act → World → Prop} {E : Prop} (hgd : o.guard = none) (s x : Operand)
    (ho : o.op = .call { callee := .builtin .append, args := #[s, x], argTypes := #[31, 31] })
    {base : Nat} {v : Value} {xs ys : List Int} {A : Option Addr} {c : Nat} (hs : a.eval s = v) (hx : a.eval x = .slice A ys.length c) (HO : RowI W base v xs) (HR : ReadsInt W .i64 A ys.length ys) (hbase : base ≤ W.heap.size) (hl : (xs.length + ys.length) * 8 ≤ 140737488355328)
    (h : ∀ v1 w1, RowI w1 base v1 (xs ++ ys) → W.grownBy w1 v.ownBlock → K (a.put o.dst v1) w1) :
    if Region.wanted o (yielded ops a.tmps) = true then Oper.wp Tryd.prog o a W K Q else E := by
  have hw : Region.wanted o (yielded ops a.tmps) = true := by simp [Region.wanted, hgd]
  rw [if_pos hw]
  obtain ⟨v1, w1, hr, h2, h3, _⟩ := run_rowI (c := c) HO HR hbase hl o.type
  unfold Oper.wp execOp
  simp only [ho, resolve, invoke, builtin, Sem.run_bind, Sem.run_pure, Result.andThen_ok, List.map_toArray, List.map_cons, List.map_nil, hs, hx, hr]
  exact h v1 w1 h2 h3
theorem once_le64 {dm : List S43} (hs : ∀ m ∈ dm, m.f1.length ≤ 64) {cp : Bool} {c : Int} {l : List Int} (h : onceS dm cp c = some l) : l.length ≤ 64 := by
  unfold onceS at h
  split at h
  · cases hl : lastM dm c with
    | none => rw [hl] at h; cases h
    | some m =>
      rw [hl] at h
      simp only at h
      split at h
      · cases h
      · cases h; exact hs m (lastM_mem hl).1
  · cases h
    unfold hdec
    split
    · simp
    · split <;> simp

set_option maxRecDepth 100000 in
set_option maxHeartbeats 16000000 in
theorem distributes_any (Ac Ad Ax : Option Addr) (cc cd cx : Nat) (cl : List S71) (dm : List S43) (ex : List RR) (c : Int) (cp : Bool) (w : World) (hG : GL w)
    (hrc : Kd.C k71 w Ac cl.length cl) (hcc : cl.length ≤ cc) (hrd : Kd.C k43 w Ad dm.length dm) (hcd : dm.length ≤ cd) (hrx : Kd.C k67 w Ax ex.length ex) (hcx : ex.length ≤ cx) (hc : inR c) :
    Calls Tryd.prog 3 #[.agg #[.slice Ac cl.length cc, .slice Ad dm.length cd, .slice Ax ex.length cx], .int .i64 c, .bool cp] w fun e w' => e = .returned (.bool true) ∧ Below w.heap.size w w' := by
  have HB : Aside0 (Below w.heap.size w (w.alloc (.cells #[.slice Ac cl.length cc, .slice Ad dm.length cd, .slice Ax ex.length cx] 28))) := ⟨below_alloc (Below.refl _ _) _⟩
  have x0 : (w.alloc (.cells #[.slice Ac cl.length cc, .slice Ad dm.length cd, .slice Ax ex.length cx] 28)).cell? ⟨w.heap.size, 0, none⟩ = some (.slice Ac cl.length cc) := by simp
  have x1 : (w.alloc (.cells #[.slice Ac cl.length cc, .slice Ad dm.length cd, .slice Ax ex.length cx] 28)).cell? ⟨w.heap.size, 1, none⟩ = some (.slice Ad dm.length cd) := by simp
  have x2 : (w.alloc (.cells #[.slice Ac cl.length cc, .slice Ad dm.length cd, .slice Ax ex.length cx] 28)).cell? ⟨w.heap.size, 2, none⟩ = some (.slice Ax ex.length cx) := by simp
  have HX0 := Aside0.mk x0
  have HX1 := Aside0.mk x1
  have HX2 := Aside0.mk x2
  have HSm := Aside0.mk (fun w hr => small_any Ac Ad Ax cc cd cx cl dm ex w hr (Kd.C_max hrd))
  have HA := Aside0.mk alive_any
  have HG := Aside0.mk hG
  have HRd := Aside0.mk hrd
  have HCh : Aside0 (∀ (W : World) (y : Int), Below w.heap.size w W → cl.length ≤ 16 ∧ dm.length ≤ 20 ∧ ex.length ≤ 12 → inR y → Calls Tryd.prog 9 #[.agg #[.slice Ac cl.length cc, .slice Ad dm.length cd, .slice Ax ex.length cx], .int .i64 y, .bool cp] W fun e w' => RetI w' e (fullS (vdm cl dm ex) cp y) ∧ Below W.heap.size W w') :=
    ⟨fun W y hW hs hy => dchar_any Ac Ad Ax cc cd cx cl dm ex y cp W (GL.below hG hW) (Kd.C_below hrc hW) hcc (by omega) (Kd.C_below hrd hW) hcd (by omega) (Kd.C_below hrx hW) hcx (by omega) hy⟩
  have HOn : Aside0 (∀ (W : World), Below w.heap.size w W → cl.length ≤ 16 ∧ dm.length ≤ 20 ∧ ex.length ≤ 12 → Calls Tryd.prog 7 #[.agg #[.slice Ac cl.length cc, .slice Ad dm.length cd, .slice Ax ex.length cx], .int .i64 c, .bool cp] W fun e w' => OnceV w' e (onceS (vdm cl dm ex) cp c) ∧ Below W.heap.size W w') :=
    ⟨fun W hW hs => donce_any Ac Ad Ax cc cd cx cl dm ex c cp W (GL.below hG hW) (Kd.C_below hrc hW) hcc (by omega) (Kd.C_below hrd hW) hcd (by omega) (Kd.C_below hrx hW) hcx (by omega) hc⟩
  have HF := Aside0.mk ((vdm_good cl dm ex).full cp)
  have HC := Aside0.mk hc
  have HSz := Aside0.mk (vdm_size cl dm ex)
  have HCodes := Aside0.mk (vdm_good cl dm ex).codes
  clear hG hrc hcc hrd hcd hrx hcx hc
  generalize vdm cl dm ex = vd at HCh HOn HF HSz HCodes
  generalize fullS vd cp = F at HCh HF
  go_enter Tryd.func3, Tryd.ntmps3
  go_wp2_with fail
  refine (HSm.out _ (Kd.C_below HRd.out HB.out)).mono ?_
  rintro e w1 ⟨⟨b, rfl, hbt⟩, hb1⟩
  have y0 : w1.cell? ⟨w.heap.size, 0, none⟩ = some (.slice Ac cl.length cc) := by rw [hb1.cell (cell_lt HX0.out)]; exact HX0.out
  have y1 : w1.cell? ⟨w.heap.size, 1, none⟩ = some (.slice Ad dm.length cd) := by rw [hb1.cell (cell_lt HX1.out)]; exact HX1.out
  have y2 : w1.cell? ⟨w.heap.size, 2, none⟩ = some (.slice Ax ex.length cx) := by rw [hb1.cell (cell_lt HX2.out)]; exact HX2.out
  have HB1 := Aside0.mk (below_step HB.out hb1)
  clear hb1 x0 x1 x2
  cases b with
  | false =>
    clear hbt
    go_wp2_with fail
    refine (HA.out _ (GL.below HG.out HB1.out)).mono ?_
    rintro e w2 ⟨rfl, hb2⟩
    go_wp2_with fail
    go_ret
    exact ⟨rfl, below_step HB1.out hb2⟩
  | true =>
    have HS := Aside0.mk (hbt rfl)
    clear hbt
    go_wp2_with fail
    refine (HOn.out _ HB1.out HS.out).mono ?_
    rintro e w2 ⟨hon, hb2⟩
    have z0 : w2.cell? ⟨w.heap.size, 0, none⟩ = some (.slice Ac cl.length cc) := by rw [hb2.cell (cell_lt y0)]; exact y0
    have z1 : w2.cell? ⟨w.heap.size, 1, none⟩ = some (.slice Ad dm.length cd) := by rw [hb2.cell (cell_lt y1)]; exact y1
    have z2 : w2.cell? ⟨w.heap.size, 2, none⟩ = some (.slice Ax ex.length cx) := by rw [hb2.cell (cell_lt y2)]; exact y2
    have HB2 := Aside0.mk (below_step HB1.out hb2)
    clear hb2 y0 y1 y2
    cases ho : onceS vd cp c with
    | none =>
      rw [ho] at hon
      subst hon
      have HFc := Aside0.mk (HF.out.1 c ho)
      clear ho
      go_wp2_with fail
      refine (HCh.out _ c HB2.out HS.out HC.out).mono ?_
      rintro e w3 ⟨⟨A3, c3, rfl, hl3, hC3⟩, hb3⟩
      rw [HFc.out] at hl3 hC3 ⊢
      have HB3 := Aside0.mk (below_step HB2.out hb3)
      have HC3 := Aside0.mk hC3
      clear hl3 hC3 hb3
      go_wp2_with fail
      refine (refEqual_any A3 (some ⟨w3.heap.size, 0, none⟩) c3 1 [c] [c] _ (Kd.C_alloc HC3.out _) (C_one (by simp)) (by simp) (by simp)).mono ?_
      rintro e w4 ⟨rfl, hb4⟩
      rw [decide_eq_true (rfl : [c] = [c])]
      have HB4 := Aside0.mk (below_step (below_alloc HB3.out _) hb4)
      clear hb4
      go_wp2_with fail
      refine (HA.out _ (GL.below HG.out HB4.out)).mono ?_
      rintro e w5 ⟨rfl, hb5⟩
      go_wp2_with fail
      go_ret
      exact ⟨rfl, below_step HB4.out hb5⟩
    | some l =>
      rw [ho] at hon
      obtain ⟨A3, c3, rfl, hl3, hC3⟩ := hon
      have HFc := Aside0.mk (HF.out.2.1 c l ho)
      have hll := once_le64 HSz.out ho
      have HEd : Aside0 (∀ x ∈ l, inR x) := ⟨fun x hx => edge_range HCodes.out ⟨l, ho, hx⟩⟩
      have HC3 := Aside0.mk hC3
      clear ho hl3 hC3
      go_wp2_with fail
      go_loopw [9, 10] (fun v v2 wr => ∃ j : Nat, v2 = .int .i64 (j : Int) ∧ j ≤ l.length ∧ Aside0 (RowI wr w2.heap.size v ((l.take j).flatMap F)) ∧ Aside0 (Below w2.heap.size w2 wr)) (fun _ v2 _ => l.length - (intOf v2).toNat)
      case atStart => exact ⟨0, rfl, by omega, ⟨World.ownsRow_nil _ _ _ _⟩, ⟨Below.refl _ _⟩⟩
      case round =>
        obtain ⟨j, rfl, hj, HRow, HW⟩ := hrel
        by_cases hlt : j < l.length
        · have h100 : (j : Int) < 100 := by omega
          obtain ⟨ad, e, hx0⟩ := ReadsInt.at_ (ReadsInt.of_C (Kd.C_below HC3.out HW.out)) j (by omega) (by omega)
          subst e
          simp only [Int.toNat_natCast] at hx0
          have hrd : rd l (j : Int) = l.getD j 0 := by rw [rd, Int.toNat_natCast]
          rw [hrd] at hx0
          have hmem : l.getD j 0 ∈ l := getD_mem l 0 j hlt
          have HT : Aside0 ((l.take (j + 1)).flatMap F = (l.take j).flatMap F ++ F (l.getD j 0)) := ⟨by
            rw [List.take_succ_eq_append_getElem hlt, List.flatMap_append, List.getD_eq_getElem?_getD, List.getElem?_eq_getElem hlt]; simp⟩
          have HLen : Aside0 ((((l.take j).flatMap F).length + (F (l.getD j 0)).length) * 8 ≤ 140737488355328) := ⟨by
            have h1 := take_flat l F j
            rw [← HFc.out] at h1
            have h2 := HF.out.2.2 c
            have h3 := HF.out.2.2 (l.getD j 0)
            omega⟩
          have HIn := Aside0.mk (HEd.out _ hmem)
          have hlz : (j : Int) < (l.length : Int) := by omega
          clear hrd hmem
          generalize l.getD j 0 = x at HT hx0 HIn HLen
          generalize (l.take j).flatMap F = xs at HT HRow HLen
          have q0 : wr.cell? ⟨w.heap.size, 0, none⟩ = some (.slice Ac cl.length cc) := by rw [HW.out.cell (cell_lt z0)]; exact z0
          have q1 : wr.cell? ⟨w.heap.size, 1, none⟩ = some (.slice Ad dm.length cd) := by rw [HW.out.cell (cell_lt z1)]; exact z1
          have q2 : wr.cell? ⟨w.heap.size, 2, none⟩ = some (.slice Ax ex.length cx) := by rw [HW.out.cell (cell_lt z2)]; exact z2
          go_wp2_with fail
          have HXw : Aside0 (w2.cell? (ad.add j) = some (.int .i64 x)) := ⟨by
            obtain ⟨ad', e', h'⟩ := (ReadsInt.of_C HC3.out).2.2 (by omega)
            cases e'
            have h9 := h' j hlt
            rw [← HW.out.cell (cell_lt h9)] at h9
            rw [hx0] at h9
            rw [← HW.out.cell (cell_lt (h' j hlt))]
            exact hx0⟩
          have HS4 : Aside0 (∀ W, Below w2.heap.size w2 W → W.cell? ⟨w.heap.size, 0, none⟩ = some (.slice Ac cl.length cc) ∧ W.cell? ⟨w.heap.size, 1, none⟩ = some (.slice Ad dm.length cd) ∧ W.cell? ⟨w.heap.size, 2, none⟩ = some (.slice Ax ex.length cx) ∧ W.cell? (ad.add j) = some (.int .i64 x)) := ⟨fun W hW => ⟨by rw [hW.cell (cell_lt z0)]; exact z0, by rw [hW.cell (cell_lt z1)]; exact z1, by rw [hW.cell (cell_lt z2)]; exact z2, by rw [hW.cell (cell_lt HXw.out)]; exact HXw.out⟩⟩
          generalize hys : F x = ys at HT HLen
          have HYs := Aside0.mk hys
          clear hys
          go_region_held3 (fun w' => w'.cell? ⟨w.heap.size, 0, none⟩ = some (.slice Ac cl.length cc) ∧ w'.cell? ⟨w.heap.size, 1, none⟩ = some (.slice Ad dm.length cd) ∧ w'.cell? ⟨w.heap.size, 2, none⟩ = some (.slice Ax ex.length cx) ∧ w'.cell? (ad.add j) = some (.int .i64 x))
            (first | go_keep | exact HS4.out _ HW4.out | exact HS4.out _ HW5.out)
            (first | (refine step_rowI (by rfl) _ _ (by rfl) (by rfl) (by rfl) HRow4.out HRd4.out HW4.out.size HLen.out ?_; intro v1 w5 r1 r3; have HR5 := Aside0.mk r1; have HW5 := Aside0.mk (HW4.out.grown r3 HW4.out.size (fun k hk => (rowI_own HRow4.out k hk).1))) | (go_at_call 9; refine (HCh.out _ x ?_ HS.out HIn.out).mono ?_; exact below_drew (below_step HB2.out HW.out); rintro e w3 ⟨⟨A4, c4, rfl, hl4, hC4⟩, hb4⟩; rw [HYs.out] at hC4 hl4 ⊢; have HRow4 : Aside0 (RowI w3 w2.heap.size u9 xs) := ⟨World.ownsRow.kept (row := none) (show RowI wr.drew w2.heap.size u9 xs from HRow.out) (grown_of_below hb4 none) (Classical.em _)⟩; have HRd4 := Aside0.mk (ReadsInt.of_C hC4); have HW4 := Aside0.mk (below_step (below_drew HW.out) hb4); clear hl4 hC4))
          go_wp2_with fail
          go_roundw
          case rel => exact ⟨j + 1, by first | rfl | go_num, by omega, ⟨by rw [HT.out]; exact HR5.out⟩, HW5⟩
          case measure => simp [intOf]; omega
        · have HRow2 : Aside0 (RowI wr w2.heap.size u9 (F c)) := ⟨by
            have h := HRow.out
            rw [List.take_of_length_le (by omega), ← HFc.out] at h
            exact h⟩
          obtain ⟨A9, cap9, hv9, hcap9, hC9, _⟩ := rowI_C HRow2.out (by have := HF.out.2.2 c; omega)
          subst hv9
          have HC9 := Aside0.mk hC9
          have HLenF := Aside0.mk (HF.out.2.2 c)
          have q0 : wr.cell? ⟨w.heap.size, 0, none⟩ = some (.slice Ac cl.length cc) := by rw [HW.out.cell (cell_lt z0)]; exact z0
          have q1 : wr.cell? ⟨w.heap.size, 1, none⟩ = some (.slice Ad dm.length cd) := by rw [HW.out.cell (cell_lt z1)]; exact z1
          have q2 : wr.cell? ⟨w.heap.size, 2, none⟩ = some (.slice Ax ex.length cx) := by rw [HW.out.cell (cell_lt z2)]; exact z2
          have HW2 := Aside0.mk (below_step HB2.out HW.out)
          clear hC9 hcap9
          go_wp2_with fail
          refine (HCh.out _ c HW2.out HS.out HC.out).mono ?_
          rintro e w3 ⟨⟨A4, c4, rfl, hl4, hC4⟩, hb4⟩
          have HC4 := Aside0.mk hC4
          have HB4 := Aside0.mk (below_step HW2.out hb4)
          have HC9' := Aside0.mk (Kd.C_below HC9.out hb4)
          clear hl4 hC4 hb4
          generalize F c = fc at HC4 HC9' HLenF
          go_wp2_with fail
          refine (refEqual_any A4 A9 c4 cap9 fc fc _ HC4.out HC9'.out (by have := HLenF.out; omega) (by have := HLenF.out; omega)).mono ?_
          rintro e w5 ⟨rfl, hb5⟩
          rw [decide_eq_true (rfl : fc = fc)]
          have HB5 := Aside0.mk (below_step HB4.out hb5)
          have h64 : (fc.length : Int) ≤ 64 := by have := HLenF.out; omega
          clear hb5
          go_wp2_with fail
          refine (HA.out _ (GL.below HG.out HB5.out)).mono ?_
          rintro e w6 ⟨rfl, hb6⟩
          go_wp2_with fail
          go_ret
          exact ⟨rfl, below_step HB5.out hb6⟩
end Go.Proofs.YtipedgkampafjaaDoor.Rf
/- Opens what came in into rows that are read. -/
namespace Go.Proofs.YtipedgkampafjaaDoor.Rf
open Go.ChangeShapes Go.WideShapes Go.Deep Go.RowKit Go.Proofs.YtipedgkampafjaaDoorW.PrintWords Go.Proofs.YtipedgkampafjaaDoorW.PrintLast Go.Proofs.YtipedgkampafjaaDoorW.PrintMore

section
variable {H : Type} {enc : TypeId × Value → H} {P : Program} {w : World} {base : Nat} {spare : Nat → Bool} {held : Bool}
theorem C_of_trod {α : Type} (d : Kd α) {t e : TypeId} (ht : P.underlying t = some (.slice e)) (hsz : P.cellsOf e = d.sz) (hK : ∀ n cs' y, DataW.trod enc P w base spare held n e cs' = some y → ∃ x, d.K w x cs') {fuel : Nat} {v : Value} {x : DataW H × List MemPlace} (h : DataW.trod enc P w base spare held fuel t [v] = some x) :
    ∃ (A : Option Addr) (xs : List α) (cap : Nat), v = .slice A xs.length cap ∧ xs.length ≤ cap ∧ d.C w A xs.length xs := by
  rcases open_slice ht h with ⟨h0, _⟩ | ⟨a, len, cap, m, n, D, Pl, hcs, hb, hl, hm, hmm, hx, hi⟩
  · simp only [List.cons.injEq, and_true] at h0
    exact ⟨none, [], 0, h0, Nat.le_refl _, Kd.C_nil _ _⟩
  · simp only [List.cons.injEq, and_true] at hcs
    have hlm : len ≤ m := by rw [hmm]; split <;> omega
    have key : ∀ k, k ≤ len → ∃ xs : List α, xs.length = k ∧ ∀ j p, xs[j]? = some p → ∃ c, c.length = d.sz ∧ d.K w p c ∧ ∀ i u, c[i]? = some u → w.cell? (a.add (j * d.sz + i)) = some u := by
      intro k
      induction k with
      | zero => intro _; exact ⟨[], rfl, fun j p hj => by simp at hj⟩
      | succ k ih =>
        intro hk
        obtain ⟨xs, hxl, hxs⟩ := ih (by omega)
        obtain ⟨cs', hc, ht'⟩ := hi k (by omega)
        obtain ⟨p0, hp0⟩ := hK _ _ _ ht'
        obtain ⟨_, hcl, hat⟩ := World.cells?_some hc
        refine ⟨xs ++ [p0], by simp [hxl], fun j p hj => ?_⟩
        by_cases hjk : j < k
        · rw [List.getElem?_append_left (by omega)] at hj
          exact hxs j p hj
        · have hjl : j < (xs ++ [p0]).length := (List.getElem?_eq_some_iff.1 hj).1
          have hje : j = k := by simp [hxl] at hjl; omega
          subst hje
          rw [List.getElem?_append_right (by omega), hxl, Nat.sub_self] at hj
          cases hj
          refine ⟨cs', by rw [hcl, hsz], hp0, fun i u hu => ?_⟩
          have hil : i < cs'.length := (List.getElem?_eq_some_iff.1 hu).1
          have h1 := hat i (by omega)
          rw [hsz] at h1
          rw [← Go.Deep.add_add, h1, hu]
    obtain ⟨xs, hxl, hxs⟩ := key len (Nat.le_refl _)
    refine ⟨some a, xs, cap, by rw [hcs, hxl], by omega, rfl, by simp [maxLen] at hm; omega, fun _ => ⟨a, rfl, hxs⟩⟩
theorem K_int {k : IntKind} {t : TypeId} (ht : P.underlying t = some (.int k)) {n : Nat} {cs : List Value} {y : DataW H × List MemPlace} (h : DataW.trod enc P w base spare held n t cs = some y) : ∃ x, (Kd.int k).K w x cs := by
  obtain ⟨a, rfl, _, _⟩ := DataW.trod_int ht h
  exact ⟨a, rfl⟩
end
section
variable {H : Type} {enc : TypeId × Value → H} {w : World} {base : Nat} {spare : Nat → Bool} {held : Bool}
theorem cells3 : Tryd.prog.cellsOf 3 = 1 := by kernel_rfl
theorem cellsI : Tryd.prog.cellsOf 31 = 1 := by kernel_rfl
theorem cellsS : Tryd.prog.cellsOf 9 = 1 := by kernel_rfl
set_option maxRecDepth 100000 in
theorem K_range {n : Nat} {cs : List Value} {y : DataW H × List MemPlace} (h : DataW.trod enc Tryd.prog w base spare held n 67 cs = some y) : ∃ x, (k67).K w x cs := by
  obtain ⟨ys, n', _, _, hl, hyl, hf⟩ := DataW.trod_struct Tryd.underlying67 h
  have hc : Tryd.prog.cellsOf 67 = 2 := by kernel_rfl
  rw [hc] at hl
  match cs, hl with
  | [a, b], _ =>
    have h0 := hf 0 _ rfl
    have h1 := hf 1 _ rfl
    simp only [List.getElem_toArray, List.getElem_cons_zero, List.getElem_cons_succ] at h0 h1
    rw [cells3] at h0 h1
    simp only [List.drop_zero, List.drop_succ_cons, List.take_succ_cons, List.take_zero] at h0 h1
    have q : ∀ i, i < 2 → ∃ z, ys[i]? = some z := fun i hi => ⟨_, List.getElem?_eq_getElem (by rw [hyl]; exact hi)⟩
    obtain ⟨z0, e0⟩ := q 0 (by omega)
    obtain ⟨z1, e1⟩ := q 1 (by omega)
    obtain ⟨x0, r0, _⟩ := DataW.trod_int Tryd.underlying3 (h0.trans e0)
    obtain ⟨x1, r1, _⟩ := DataW.trod_int Tryd.underlying3 (h1.trans e1)
    simp at r0 r1
    subst r0; subst r1
    exact ⟨⟨x0, x1⟩, k67_mk w ⟨x0, x1⟩⟩
set_option maxRecDepth 100000 in
theorem K_span {n : Nat} {cs : List Value} {y : DataW H × List MemPlace} (h : DataW.trod enc Tryd.prog w base spare held n 71 cs = some y) : ∃ x, (k71).K w x cs := by
  obtain ⟨ys, n', _, _, hl, hyl, hf⟩ := DataW.trod_struct Tryd.underlying71 h
  have hc : Tryd.prog.cellsOf 71 = 3 := by kernel_rfl
  rw [hc] at hl
  match cs, hl with
  | [a, b, c], _ =>
    have h0 := hf 0 _ rfl
    have h1 := hf 1 _ rfl
    have h2 := hf 2 _ rfl
    simp only [List.getElem_toArray, List.getElem_cons_zero, List.getElem_cons_succ] at h0 h1 h2
    rw [cells3] at h0 h1 h2
    simp only [List.drop_zero, List.drop_succ_cons, List.take_succ_cons, List.take_zero] at h0 h1 h2
    have q : ∀ i, i < 3 → ∃ z, ys[i]? = some z := fun i hi => ⟨_, List.getElem?_eq_getElem (by rw [hyl]; exact hi)⟩
    obtain ⟨z0, e0⟩ := q 0 (by omega)
    obtain ⟨z1, e1⟩ := q 1 (by omega)
    obtain ⟨z2, e2⟩ := q 2 (by omega)
    obtain ⟨x0, r0, _⟩ := DataW.trod_int Tryd.underlying3 (h0.trans e0)
    obtain ⟨x1, r1, _⟩ := DataW.trod_int Tryd.underlying3 (h1.trans e1)
    obtain ⟨x2, r2, _⟩ := DataW.trod_int Tryd.underlying3 (h2.trans e2)
    simp at r0 r1 r2
    subst r0; subst r1; subst r2
    exact ⟨⟨x0, x1, x2⟩, k71_mk w ⟨x0, x1, x2⟩⟩
set_option maxRecDepth 100000 in
theorem K_mapping {n : Nat} {cs : List Value} {y : DataW H × List MemPlace} (h : DataW.trod enc Tryd.prog w base spare held n 43 cs = some y) : ∃ x, (k43).K w x cs := by
  obtain ⟨ys, n', _, _, hl, hyl, hf⟩ := DataW.trod_struct Tryd.underlying43 h
  have hc : Tryd.prog.cellsOf 43 = 3 := by kernel_rfl
  rw [hc] at hl
  match cs, hl with
  | [a, b, c], _ =>
    have h0 := hf 0 _ rfl
    have h1 := hf 1 _ rfl
    have h2 := hf 2 _ rfl
    simp only [List.getElem_toArray, List.getElem_cons_zero, List.getElem_cons_succ] at h0 h1 h2
    rw [cells3] at h0
    rw [cellsI] at h1
    rw [cellsS] at h2
    simp only [List.drop_zero, List.drop_succ_cons, List.take_succ_cons, List.take_zero] at h0 h1 h2
    have q : ∀ i, i < 3 → ∃ z, ys[i]? = some z := fun i hi => ⟨_, List.getElem?_eq_getElem (by rw [hyl]; exact hi)⟩
    obtain ⟨z0, e0⟩ := q 0 (by omega)
    obtain ⟨z1, e1⟩ := q 1 (by omega)
    obtain ⟨z2, e2⟩ := q 2 (by omega)
    obtain ⟨x0, r0, _⟩ := DataW.trod_int Tryd.underlying3 (h0.trans e0)
    obtain ⟨x2, r2, _⟩ := DataW.trod_string Tryd.underlying9 (h2.trans e2)
    obtain ⟨A, xs, cap, rb, hcap, hC⟩ := C_of_trod (Kd.int .i64) Tryd.underlying31 cells3 (fun n cs y h => K_int Tryd.underlying3 h) (h1.trans e1)
    simp at r0 r2
    subst r0; subst r2; subst rb
    exact ⟨⟨x0, xs, x2⟩, k43_mk w ⟨x0, xs, x2⟩ hcap hC⟩
end
end Go.Proofs.YtipedgkampafjaaDoor.Rf
/- What the laid variable holds. -/
namespace Go.Proofs.YtipedgkampafjaaDoor
open Go.ChangeShapes Go.WideShapes Go.ChangeAt Go.WideMaps Go.WideElems Go.RowKit

namespace Rf
section
variable {H : Type} {enc : TypeId × Value → H} {w : World} {base : Nat} {spare : Nat → Bool} {held : Bool}
set_option maxRecDepth 100000 in
theorem range_vals {n : Nat} {cs : List Value} {y : DataW H × List MemPlace} {a b : Int} (h : DataW.trod enc Tryd.prog w base spare held n 67 cs = some y) (hy : y.1 = .agg [.lit (.int .i64 a), .lit (.int .i64 b)]) : cs = [.int .i64 a, .int .i64 b] := by
  obtain ⟨ys, n', _, hyy, hl, hyl, hf⟩ := DataW.trod_struct Tryd.underlying67 h
  have hc : Tryd.prog.cellsOf 67 = 2 := by kernel_rfl
  rw [hc] at hl
  match cs, hl with
  | [a', b'], _ =>
    have h0 := hf 0 _ rfl
    have h1 := hf 1 _ rfl
    simp only [List.getElem_toArray, List.getElem_cons_zero, List.getElem_cons_succ] at h0 h1
    rw [cells3] at h0 h1
    simp only [List.drop_zero, List.drop_succ_cons, List.take_succ_cons, List.take_zero] at h0 h1
    match ys, hyl with
    | [z0, z1], _ =>
      obtain ⟨x0, r0, s0, _⟩ := DataW.trod_int Tryd.underlying3 (x := z0) h0
      obtain ⟨x1, r1, s1, _⟩ := DataW.trod_int Tryd.underlying3 (x := z1) h1
      simp at r0 r1
      subst r0; subst r1; subst s0; subst s1
      rw [hyy] at hy
      simp at hy
      rw [hy.1, hy.2]
end
end Rf

theorem gRanges : Tryd.prog.globalNamed "unicodetext/ordering.ranges" = some 0 := by kernel_rfl
theorem tRanges : (Tryd.prog.globals[0]?).map (·.type) = some 90 := by kernel_rfl
set_option maxRecDepth 100000 in
theorem of_laid {W : World} (h : laidMetH Tryd.prog [("unicodetext/ordering.ranges", Rows.laid_unicodetext_ordering_ranges)] W) : Rf.GL W := by
  rw [MakeChecks.laidMetH_plain _ _ _ (by kernel_rfl)] at h
  obtain ⟨ps, ⟨g0, t0, cs0, f0, p0, q0, hg0, ht0, hv0, hd0, _, _⟩, _, _⟩ := h
  obtain rfl := Option.some.inj (gRanges.symm.trans hg0)
  obtain rfl := Option.some.inj (tRanges.symm.trans ht0)
  obtain ⟨xs, m1, rfl, hx1, hlen, hn4, hel⟩ := DataW.trod_array Tryd.underlying90 hd0
  have c2 : Tryd.prog.cellsOf 67 = 2 := by kernel_rfl
  have c8 : Tryd.prog.cellsOf 90 = 8 := by kernel_rfl
  rw [c8] at hlen
  rw [c2] at hel
  simp only [Prod.mk.injEq, Rows.laid_unicodetext_ordering_ranges, DataW.agg.injEq] at hx1
  obtain ⟨l⟩ := cs0
  have hc := fun i => World.var?_cell hg0 hv0 i
  simp only at hlen hel
  match l, hlen, xs, hn4, hx1.1 with
  | [a0, a1, a2, a3, a4, a5, a6, a7], _, [x0, x1, x2, x3], _, hx =>
    simp only [List.map_cons, List.map_nil, List.cons.injEq, and_true] at hx
    have e0 := Rf.range_vals (hel 0 (by decide)) hx.1.symm
    have e1 := Rf.range_vals (hel 1 (by decide)) hx.2.1.symm
    have e2 := Rf.range_vals (hel 2 (by decide)) hx.2.2.1.symm
    have e3 := Rf.range_vals (hel 3 (by decide)) hx.2.2.2.symm
    simp at e0 e1 e2 e3
    obtain ⟨rfl, rfl⟩ := e0
    obtain ⟨rfl, rfl⟩ := e1
    obtain ⟨rfl, rfl⟩ := e2
    obtain ⟨rfl, rfl⟩ := e3
    exact ⟨by simpa using hc 0, by simpa using hc 1, by simpa using hc 2, by simpa using hc 3, by simpa using hc 4, by simpa using hc 5, by simpa using hc 6, by simpa using hc 7⟩
end Go.Proofs.YtipedgkampafjaaDoor
/- The row and the card of DecomposeDistributes. -/
namespace Go.Proofs.YtipedgkampafjaaDoor
open Go.ChangeShapes Go.WideShapes Go.ChangeAt Go.WideMaps Go.WideElems Go.RowKit

abbrev laidL : List (String × DataW Unit) := [("unicodetext/ordering.ranges", Rows.laid_unicodetext_ordering_ranges)]
theorem ownK : ownKnob Tryd.prog.godebug = none := by kernel_rfl
theorem laidOutA : laidOutB Tryd.prog = true := by kernel_rfl
theorem door_met (os : Os) (args : Array Value) : laidMetH Tryd.prog laidL ((World.doorLaid Tryd.prog 400 os).forCall (fun _ _ => 0) ⟨#[], args, []⟩).memory :=
  laidMetH_of_parts3 (fuel := 8) (laidMet_of_run' 8 (by kernel_rfl) (by kernel_rfl)) (by kernel_rfl) (by kernel_rfl)

set_option maxRecDepth 100000 in
theorem openNorm {H : Type} {enc : TypeId × Value → H} {w : World} {base : Nat} {spare : Nat → Bool} {held : Bool} {cs : Array Value} {d : DataW H} {p : List MemPlace} (h : DataW.Trod enc Tryd.prog w base spare held 28 (.agg cs) d p) :
    ∃ (Ac Ad Ax : Option Addr) (cc cd cx : Nat) (cl : List Rf.S71) (dm : List Rf.S43) (ex : List Rf.S67), cs = #[.slice Ac cl.length cc, .slice Ad dm.length cd, .slice Ax ex.length cx] ∧
      (cl.length ≤ cc ∧ Rf.k71.C w Ac cl.length cl) ∧ (dm.length ≤ cd ∧ Rf.k43.C w Ad dm.length dm) ∧ (ex.length ≤ cx ∧ Rf.k67.C w Ax ex.length ex) := by
  obtain ⟨fuel, hf⟩ := h
  obtain ⟨ys, n', _, _, hl, hyl, hff⟩ := DataW.trod_struct Tryd.underlying28 hf
  have hc : Tryd.prog.cellsOf 28 = 3 := by kernel_rfl
  rw [hc] at hl
  obtain ⟨l⟩ := cs
  have hl' : l.length = 3 := by simpa [Value.cells] using hl
  match l, hl' with
  | [a, b, c], _ =>
    have h0 := hff 0 _ rfl
    have h1 := hff 1 _ rfl
    have h2 := hff 2 _ rfl
    simp only [List.getElem_toArray, List.getElem_cons_zero, List.getElem_cons_succ, Value.cells] at h0 h1 h2
    have k0 : Tryd.prog.cellsOf 22 = 1 := by kernel_rfl
    have k1 : Tryd.prog.cellsOf 23 = 1 := by kernel_rfl
    have k2 : Tryd.prog.cellsOf 26 = 1 := by kernel_rfl
    have k3 : Tryd.prog.cellsOf 24 = 1 := by kernel_rfl
    rw [k0] at h0
    rw [k1] at h1
    rw [k2] at h2
    simp only [List.drop_zero, List.drop_succ_cons, List.take_succ_cons, List.take_zero] at h0 h1 h2
    match ys, hyl with
    | [z0, z1, z2], _ =>
      obtain ⟨Ac, cl, cc, ea, hca, hCa⟩ := Rf.C_of_trod Rf.k71 Tryd.underlying22 (by kernel_rfl) (fun n cs y h => Rf.K_span h) (x := z0) h0
      obtain ⟨Ad, dm, cd, eb, hcb, hCb⟩ := Rf.C_of_trod Rf.k43 Tryd.underlying23 (by kernel_rfl) (fun n cs y h => Rf.K_mapping h) (x := z1) h1
      obtain ⟨zs, m', _, _, hl3, hzl, hg⟩ := DataW.trod_struct Tryd.underlying26 (x := z2) h2
      have h3 := hg 0 _ rfl
      simp only [List.getElem_toArray, List.getElem_cons_zero] at h3
      rw [k3] at h3
      simp only [List.drop_zero, List.take_succ_cons, List.take_zero] at h3
      match zs, hzl with
      | [u0], _ =>
        obtain ⟨Ax, ex, cx, ec, hcc, hCc⟩ := Rf.C_of_trod Rf.k67 Tryd.underlying24 (by kernel_rfl) (fun n cs y h => Rf.K_range h) (x := u0) h3
        subst ea; subst eb; subst ec
        exact ⟨Ac, Ad, Ax, cc, cd, cx, cl, dm, ex, rfl, ⟨hca, hCa⟩, ⟨hcb, hCb⟩, ⟨hcc, hCc⟩⟩

set_option maxRecDepth 100000 in
theorem distributes_lifted (os : Os) (started : os.Started) (H : Type) (enc : TypeId × Value → H) :
    ReturnsInHanded {} Tryd.checked os 3 .any (fun w args => (Rows.decomposeDistributesSpec.pre enc Tryd.prog Tryd.f3 [] false w args ∧ laidMetH Tryd.prog laidL w) ∧ sizedMet enc Tryd.prog Tryd.f3 (OpenSpec.ofChange Rows.decomposeDistributesSpec) false w args)
      (Rows.decomposeDistributesSpec.post enc Tryd.prog Tryd.f3 false true false false) := by
  refine returnsInHanded_of_change_and (C := Tryd.checked) (X := fun w _ => laidMetH Tryd.prog laidL w) (fun _ _ _ hh h => h.of_heap hh) ownK started (by kernel_rfl) Tryd.func3
    (ChangeSpec.witness_shaped (enc := enc) (C := Tryd.checked) (os := os) (X := fun w _ => laidMetH Tryd.prog laidL w) false (World.doorLaid Tryd.prog 400 os) #[.agg #[.slice none 0 0, .slice none 0 0, .slice none 0 0], .int .i64 0, .bool false] 8 rfl (World.shaped_of_RefB (by kernel_rfl) (by kernel_rfl)) (by kernel_rfl) (by kernel_rfl) (by kernel_rfl) (door_met os _)) ?_
  intro W base args ds gs before hval0 hW _ _ hL _
  have hval : ∀ (j : Nat) t v, Tryd.f3.params[j]? = some t → args[j]? = some v → Value.okWide Tryd.prog W .any base t v := hval0
  have hW' := hW
  obtain ⟨p, q, hA0, hV, rfl, hfz, hnd⟩ := hW
  have hA : DataW.TrodAll enc Tryd.prog W 0 (fun _ => true) true Tryd.f3.params.toList args.toList ds p := hA0
  rw [Tryd.params3] at hA hval
  obtain ⟨v0, v1, v2, d0, d1, d2, p0, p1, p2, rfl, rfl, rfl, h0, h1, h2⟩ := trodAll_three hA
  obtain ⟨rfl, rfl⟩ := trodVars_none hV
  obtain ⟨cs, rfl, _⟩ := okWide_struct Tryd.underlying28 (hval 0 28 v0 rfl rfl)
  have k0 := h0
  have lt0 : ∀ x ∈ p0, x.block < W.heap.size := by obtain ⟨m, hm⟩ := k0; exact DataW.trod_lt m _ _ _ hm
  obtain ⟨Ac, Ad, Ax, cc, cd, cx, cl, dm, ex, rfl, ⟨hcc, hC⟩, ⟨hcd, hD⟩, ⟨hcx, hX⟩⟩ := openNorm h0
  obtain ⟨a, rfl, rfl, rfl, wa⟩ := open_int Tryd.underlying3 (hval 1 3 v1 rfl rfl) h1
  obtain ⟨b, rfl, rfl, rfl⟩ := open_bool Tryd.underlying4 (hval 2 4 v2 rfl rfl) h2
  have hin : Rf.inR a := by
    simp [Lit.wf, IntKind.min, IntKind.max, IntKind.signed, IntKind.bits] at wa
    unfold Rf.inR; omega
  clear hA0 hval0
  refine (Rf.distributes_any Ac Ad Ax cc cd cx cl dm ex a b W (of_laid hL) hC hcc hD hcd hX hcx hin).mono fun e W' ⟨he, bel⟩ => ?_
  subst he
  exact ⟨_, rfl, _, _, _, [], _, [], hW', trodAll_mk1 (shut_bool Tryd.underlying4 _), (trodAll_cons_mk (Below.trod laidOutA (by kernel_rfl) (of_decide_eq_true (by kernel_rfl)) k0 bel lt0) (trodAll_cons_mk (shut_int Tryd.underlying3 wa) (trodAll_cons_mk (shut_bool Tryd.underlying4 _) trodAll_mk0))), rfl, bel.frame _, fun h => by cases h⟩
end Go.Proofs.YtipedgkampafjaaDoor
/- The tied card of DecomposeDistributes holds. -/
namespace Go.Proofs.YtipedgkampafjaaDoor
open Go

theorem decomposeDistributes_holds : Rows.DecomposeDistributesSaid :=
  OpenClaim.holds_of_wide 3 Tryd.f3 rfl rfl rfl rfl rfl rfl rfl ⟨rfl, rfl, rfl, rfl, rfl⟩ rfl rfl rfl rfl rfl (by kernel_rfl) Tryd.func3 (by kernel_rfl)
    (of_decide_eq_true (by kernel_rfl)) (by unfold Func.isWrapper; first | (rw [if_pos (by decide +kernel)]; kernel_rfl) | (rw [if_neg (by decide +kernel)]; exact ⟨rfl, rfl⟩))
    (fun os started H enc _ => distributes_lifted os started H enc)

theorem decomposeDistributes_card : Rows.DecomposeDistributesCardSaid :=
  Claim7.holds_tied_plain_at .later [] [.data] true Rows.decomposeDistributesCard.stood.harness false
    decomposeDistributes_holds (fun _ h => by cases h) (by kernel_rfl) (fun _ h => by cases h) decomposeDistributes_row_tie rfl ⟨rfl, rfl⟩ (by kernel_rfl) rfl
    (fun f fn hf hfn => by
      obtain rfl : f = 3 := Option.some.inj ((show Tryd.prog.funcNamed "unicodetext/unicodetextlaw21.DecomposeDistributes" = some 3 by kernel_rfl).symm.trans hf) |>.symm
      obtain rfl : fn = Tryd.f3 := (Option.some.inj (Tryd.func3.symm.trans hfn)).symm
      exact ⟨by kernel_rfl, fun j t ht => by
        rw [Tryd.params3] at ht
        have hm : t ∈ [28, 3, 4] := by simpa using Array.mem_of_getElem? ht
        have hall : ([28, 3, 4].all fun u => !Tryd.prog.wantsStandIn u) = true := by kernel_rfl
        exact (show Tryd.prog.wantsStandIn t = false by simpa using List.all_eq_true.1 hall t hm)⟩)
    (by kernel_rfl)
end Go.Proofs.YtipedgkampafjaaDoor
