import Derived.Test.YtipedgkampafjaaGreatDoorGC1
import Derived.Laws.EntriesVeiled
import Derived.Laws.AppendOwn
import Derived.Deep.QuietTactic
import Derived.BigQuiet
import Derived.Lib.QuietBelow
/- Tells when replacing ends for a number, and what cyclic finds out. -/
namespace Go.Proofs.YtipedgkampafjaaGreatDoor.Rf
open Go.Shelf Go.RowKit Go.Proofs.YtipedgkampafjaaGreatDoorW.PrintWords Go.Proofs.YtipedgkampafjaaGreatDoorW.PrintLast Go.Proofs.YtipedgkampafjaaGreatDoorW.PrintMore

/-! ### states -/
def upd (s : Int → Int) (c v : Int) : Int → Int := fun x => if x = c then v else s x
def stF (s : Int → Int) : Int → Option Value := fun x => if s x = 0 then none else some (.int .i64 (s x))
theorem stF_upd (s : Int → Int) (c v : Int) (hv : v ≠ 0) : stF (upd s c v) = fun y => if y = c then some (.int .i64 v) else stF s y := by
  funext y
  by_cases h : y = c <;> simp [stF, upd, h, hv]
/-- Where numbers that have a mapping lie. -/
def univ (dm : List S61) : List Int := dm.map (fun m => m.f0) ++ (List.range 11172).map (fun i : Nat => (44032 : Int) + (i : Int))
theorem univ_mem {dm : List S61} {cp : Bool} {c : Int} {tl : List Int} (h : onceS dm cp c = some tl) : c ∈ univ dm := by
  unfold onceS at h
  by_cases hk4 : hk c < 4
  · rw [if_pos hk4] at h
    cases hl : lastM dm c with
    | none => rw [hl] at h; cases h
    | some m =>
      obtain ⟨h1, h2⟩ := lastM_mem hl
      exact List.mem_append_left _ (List.mem_map.2 ⟨m, h1, h2⟩)
  · have := hk_syl hk4
    refine List.mem_append_right _ (List.mem_map.2 ⟨(c - 44032).toNat, List.mem_range.2 (by omega), by omega⟩)
def wh (dm : List S61) (s : Int → Int) : Nat := (univ dm).countP fun x => s x == 0
theorem countP_le {α : Type} (l : List α) (p q : α → Bool) (h : ∀ x, p x = true → q x = true) : l.countP p ≤ l.countP q := List.countP_mono_left fun x _ hx => h x hx
theorem countP_lt {α : Type} (l : List α) (p q : α → Bool) (h : ∀ x, p x = true → q x = true) (c : α) (hc : c ∈ l) (hp : p c = false) (hq : q c = true) : l.countP p + 1 ≤ l.countP q := by
  induction l with
  | nil => cases hc
  | cons y l ih =>
    have hle := countP_le l p q h
    rcases List.mem_cons.1 hc with rfl | h1
    · rw [List.countP_cons_of_neg (by simp [hp]), List.countP_cons_of_pos hq]; omega
    · have := ih h1
      rw [List.countP_cons, List.countP_cons]
      cases hpy : p y with
      | false => simp only [Bool.false_eq_true, if_false]; split <;> omega
      | true => rw [h y hpy]; simp only [if_true]; omega
theorem wh_mono (dm : List S61) {s s' : Int → Int} (h : ∀ x, s x ≠ 0 → s' x ≠ 0) : wh dm s' ≤ wh dm s :=
  countP_le _ _ _ fun x hx => by
    simp only [beq_iff_eq] at hx ⊢
    exact Classical.byContradiction fun hn => h x hn hx
theorem wh_set (dm : List S61) {s : Int → Int} {c v : Int} (hv : v ≠ 0) (h0 : s c = 0) (hc : c ∈ univ dm) : wh dm (upd s c v) + 1 ≤ wh dm s :=
  countP_lt _ _ _ (fun x hx => by
    simp only [beq_iff_eq, upd] at hx ⊢
    by_cases h : x = c
    · rw [if_pos h] at hx; exact absurd hx hv
    · rwa [if_neg h] at hx) c hc (by simp [upd, hv]) (by simp [h0])
theorem upd_ne (s : Int → Int) (c v : Int) (hv : v ≠ 0) (x : Int) (h : s x ≠ 0) : upd s c v x ≠ 0 := by
  unfold upd; split
  · exact hv
  · exact h

/-! ### edges -/
/-- x is a part of the mapping of c. -/
def Edge (dm : List S61) (cp : Bool) (x c : Int) : Prop := ∃ tl, onceS dm cp c = some tl ∧ x ∈ tl
/-- Replacing ends for c. -/
def Ends (dm : List S61) (cp : Bool) (c : Int) : Prop := Acc (Edge dm cp) c
theorem acc_irrefl {α : Type} {r : α → α → Prop} {a : α} (h : Acc r a) : ¬ r a a := by
  induction h with
  | intro x _ ih => exact fun hx => ih x hx hx
theorem acc_trans {α : Type} {r : α → α → Prop} {a : α} (h : Acc r a) : Acc (Relation.TransGen r) a := by
  induction h with
  | intro x _ ih =>
    refine Acc.intro x fun y hy => ?_
    induction hy with
    | single h => exact ih _ h
    | tail _ h ih2 => exact (ih _ h).inv ‹_›
theorem no_ends {dm : List S61} {cp : Bool} {c : Int} (h : Relation.TransGen (Edge dm cp) c c) : ¬ Ends dm cp c := fun ha => acc_irrefl (acc_trans ha) h

/-! ### the closures' surroundings -/
/-- What the closure g of data p sees: the boxes pd, ps, pv hold the data, the map bs and the closure. -/
structure VEnv (g : Nat) (w0 W : World) (p b1 b2 : Nat) (dm : List S61) (cp : Bool) (pd ps pv bs : Nat) : Prop where
  cd : W.cell? ⟨pd, 0, none⟩ = some (.pointer (some ⟨p, 0, none⟩))
  cs : W.cell? ⟨ps, 0, none⟩ = some (.map (some bs))
  cv : W.cell? ⟨pv, 0, none⟩ = some (.func (.func g) #[] #[.pointer (some ⟨pd, 0, none⟩), .pointer (some ⟨ps, 0, none⟩), .pointer (some ⟨pv, 0, none⟩)])
  dat : DataM w0 W p b1 b2 dm cp
  ne : p ≠ bs ∧ b1 ≠ bs ∧ pd ≠ bs ∧ ps ≠ bs ∧ pv ≠ bs
  low : w0.heap.size ≤ bs
variable {g : Nat} {w0 W W' : World} {p b1 b2 : Nat} {dm : List S61} {cp : Bool} {pd ps pv bs : Nat}
theorem VEnv.below (h : VEnv g w0 W p b1 b2 dm cp pd ps pv bs) (hb : Below W.heap.size W W') : VEnv g w0 W' p b1 b2 dm cp pd ps pv bs where
  cd := by rw [hb.cell (cell_lt h.cd)]; exact h.cd
  cs := by rw [hb.cell (cell_lt h.cs)]; exact h.cs
  cv := by rw [hb.cell (cell_lt h.cv)]; exact h.cv
  dat := h.dat.mono hb
  ne := h.ne
  low := h.low
theorem VEnv.turned (h : VEnv g w0 W p b1 b2 dm cp pd ps pv bs) (hg : W.grownBy W' (some bs)) (hlt : bs < W.heap.size) : VEnv g w0 W' p b1 b2 dm cp pd ps pv bs where
  cd := cell_grown hg h.ne.2.2.1 h.cd
  cs := cell_grown hg h.ne.2.2.2.1 h.cs
  cv := cell_grown hg h.ne.2.2.2.2 h.cv
  dat := h.dat.turned hg h.ne.1 h.ne.2.1 h.low hlt
  ne := h.ne
  low := h.low
theorem grown_of_below (hb : Below W.heap.size W W') (row : Option Nat) : W.grownBy W' row := ⟨hb.os, hb.tape, hb.output, hb.size, fun i hi _ => hb.block i hi⟩
theorem grown_trans {a b c : World} (h1 : a.grownBy b (some bs)) (h2 : b.grownBy c (some bs)) : a.grownBy c (some bs) := h1.andThen h2 fun j hj => Or.inr hj
/-- A row of numbers is not in the map's block. -/
theorem C_turned {A : Option Addr} {xs : List Int} {n : Nat} {f : Int → Option Value} (h : (Kd.int .i64).C W A xs.length xs) (hm : MapF Tryz.prog 3 encI W bs n f) (hg : W.grownBy W' (some bs)) : (Kd.int .i64).C W' A xs.length xs := by
  have hr : ReadsInt W .i64 A xs.length xs := ReadsInt.of_C h
  refine Kd.C_of_reads (d := (0 : Int)) (h1 := fun _ => rfl) ⟨rfl, hr.2.1, fun hn => ?_⟩
  obtain ⟨ad, e, hc⟩ := hr.2.2 hn
  refine ⟨ad, e, fun j hj => cell_grown hg ?_ (hc j hj)⟩
  intro he
  obtain ⟨D, ⟨es, clock, hb, _⟩, _⟩ := hm
  have h2 := hc j hj
  simp only [Addr.add] at he
  simp [World.cell?, Addr.add, he, hb] at h2

set_option maxRecDepth 100000 in
theorem lookS {w : World} {b n : Nat} {s : Int → Int} (h : MapF Tryz.prog 3 encI w b n (stF s)) (x : Int) (hx : -9223372036854775808 ≤ x ∧ x ≤ 9223372036854775807) :
    (Instr.lookup 86 (.map (some b)) (.int .i64 x) false).run Tryz.prog w = .ok (.int .i64 (s x)) w := by
  have h1 := h.look keyed_int Tryz.underlying86 (zeroInt w) (x := x) (keyI Tryz.underlying3 hx)
  rw [h1]
  by_cases h0 : s x = 0 <;> simp [stF, h0]
set_option maxRecDepth 100000 in
theorem lookSok {w : World} {b n : Nat} {s : Int → Int} (h : MapF Tryz.prog 3 encI w b n (stF s)) (x : Int) (hx : -9223372036854775808 ≤ x ∧ x ≤ 9223372036854775807) :
    (Instr.lookup 86 (.map (some b)) (.int .i64 x) true).run Tryz.prog w = .ok (.tuple #[.int .i64 (s x), .bool (s x != 0)]) w := by
  have h1 := h.lookOk keyed_int Tryz.underlying86 (zeroInt w) (x := x) (keyI Tryz.underlying3 hx)
  rw [h1]
  by_cases h0 : s x = 0
  · simp [stF, h0]
  · have : (s x != 0) = true := by simpa using h0
    simp [stF, h0]
set_option maxRecDepth 100000 in
theorem putS {w : World} {b n : Nat} {s : Int → Int} (h : MapF Tryz.prog 3 encI w b n (stF s)) (x v : Int) (hx : -9223372036854775808 ≤ x ∧ x ≤ 9223372036854775807) (hv : v ≠ 0) (hn : n < 9223372036854775807) :
    ∃ w', (Instr.mapUpdate 86 (.map (some b)) (.int .i64 x) (.int .i64 v)).run Tryz.prog w = .ok () w' ∧ MapF Tryz.prog 3 encI w' b (n + 1) (stF (upd s x v)) ∧ w.grownBy w' (some b) := by
  rw [stF_upd s x v hv]
  exact h.update keyed_int encI_inj Tryz.underlying86 (by simp [maxLen]; omega) (keyI Tryz.underlying3 hx)
end Go.Proofs.YtipedgkampafjaaGreatDoor.Rf
/- Tells what the closure of cyclic finds out. -/
namespace Go.Proofs.YtipedgkampafjaaGreatDoor.Rf
open Go.Shelf Go.RowKit Go.Proofs.YtipedgkampafjaaGreatDoorW.PrintWords Go.Proofs.YtipedgkampafjaaGreatDoorW.PrintLast Go.Proofs.YtipedgkampafjaaGreatDoorW.PrintMore

variable {w0 : World} {p b1 b2 : Nat} {dm : List S61} {cp : Bool} {pd ps pv bs : Nat}
def inR (x : Int) : Prop := -9223372036854775808 ≤ x ∧ x ≤ 9223372036854775807
theorem hdec_range {c x : Int} (h : ¬ hk c < 4) (hx : x ∈ hdec c) : inR x := by
  have := hk_syl h
  unfold hdec at hx
  rw [if_neg h] at hx
  have h2 : (0 : Int) ≤ hp2 c ∧ hp2 c ≤ 5000 := by unfold hp2; split <;> omega
  unfold hp0 hp1 at hx
  have h1 : (0 : Int) ≤ (c - 44032) / 28 ∧ (c - 44032) / 28 ≤ 399 := by omega
  unfold inR
  split at hx <;> simp only [List.mem_cons, List.not_mem_nil, or_false] at hx
  · rcases hx with h | h <;> omega
  · rcases hx with h | h | h <;> omega
theorem edge_range (hv : ∀ m ∈ dm, badCodes m = false) {x c : Int} (h : Edge dm cp x c) : inR x := by
  obtain ⟨tl, h1, h2⟩ := h
  unfold onceS at h1
  by_cases hk4 : hk c < 4
  · rw [if_pos hk4] at h1
    cases hl : lastM dm c with
    | none => rw [hl] at h1; cases h1
    | some m =>
      rw [hl] at h1
      simp only at h1
      split at h1
      · cases h1
      · cases h1
        have h3 := hv m (lastM_mem hl).1
        simp only [badCodes, Bool.or_eq_false_iff, Bool.not_eq_false'] at h3
        exact valid_range (List.all_eq_true.1 h3.2 x h2)
  · rw [if_neg hk4] at h1
    cases h1
    exact hdec_range hk4 h2

def VisT (dm : List S61) (cp : Bool) (bs N : Nat) (c : Int) (W w' : World) : Prop :=
  ∃ s' n', MapF Tryz.prog 3 encI w' bs n' (stF s') ∧ n' ≤ N ∧ ¬ Ends dm cp c ∧ W.grownBy w' (some bs)
def VisF (dm : List S61) (cp : Bool) (bs N : Nat) (s : Int → Int) (c : Int) (W w' : World) : Prop :=
  ∃ s' n', MapF Tryz.prog 3 encI w' bs n' (stF s') ∧ n' + 2 * wh dm s' ≤ N ∧ (∀ x, s' x = 0 ∨ s' x = 1 ∨ s' x = 2) ∧ (∀ x, s' x = 2 → Ends dm cp x) ∧ (∀ x, s' x = 1 ↔ s x = 1) ∧ (∀ x, s x ≠ 0 → s' x ≠ 0) ∧ Ends dm cp c ∧ W.grownBy w' (some bs)

set_option maxRecDepth 100000 in
set_option maxHeartbeats 8000000 in
theorem visit_any (hv : ∀ m ∈ dm, badCodes m = false) : ∀ (k N n : Nat) (s : Int → Int) (c : Int) (W : World), VEnv 62 w0 W p b1 b2 dm cp pd ps pv bs → MapF Tryz.prog 3 encI W bs n (stF s) → n + 2 * wh dm s ≤ N → N < 9223372036854775807 → wh dm s ≤ k →
    (∀ x, s x = 0 ∨ s x = 1 ∨ s x = 2) → (∀ x, s x = 2 → Ends dm cp x) → (∀ x, s x = 1 → Relation.TransGen (Edge dm cp) c x) → inR c →
    Calls Tryz.prog 62 #[.int .i64 c, .pointer (some ⟨pd, 0, none⟩), .pointer (some ⟨ps, 0, none⟩), .pointer (some ⟨pv, 0, none⟩)] W fun e w' => (e = .returned (.bool true) ∧ VisT dm cp bs N c W w') ∨ (e = .returned (.bool false) ∧ VisF dm cp bs N s c W w') := by
  intro k
  induction k using Nat.strongRecOn with
  | ind k ih =>
    intro N n s c W hE hM hN hNb hk hs h2 h1 hc
    have HIH := Aside0.mk ih
    have HE := Aside0.mk hE
    have HM := Aside0.mk hM
    have HN := Aside0.mk hN
    have HK := Aside0.mk hk
    have HS := Aside0.mk hs
    have H2 := Aside0.mk h2
    have H1 := Aside0.mk h1
    have HC := Aside0.mk hc
    have HO := Aside0.mk (once_any hE.dat c hc)
    have hcd := hE.cd
    clear ih hE hM hN hk hs h2 h1 hc
    cases ho : onceS dm cp c with
    | none =>
      rw [ho] at HO
      have HEnd : Aside0 (Ends dm cp c) := ⟨Acc.intro c fun y ⟨tl, hy, _⟩ => by rw [ho] at hy; cases hy⟩
      go_enter Tryz.func62, Tryz.ntmps62
      go_wp2_with fail
      refine HO.out.mono ?_
      rintro e w1 ⟨rfl, hb1⟩
      go_wp2_with fail
      go_ret
      exact Or.inr ⟨rfl, s, n, HM.out.below hb1 HM.out.lt, HN.out, HS.out, H2.out, fun x => Iff.rfl, fun x hx => hx, HEnd.out, grown_of_below hb1 _⟩
    | some tl =>
      rw [ho] at HO
      rcases HS.out c with h0 | h0 | h0
      · have hw1 := wh_set dm (c := c) (v := 1) (by decide) h0 (univ_mem ho)
        have HW1 := Aside0.mk hw1
        have HGray : Aside0 (∀ x y, x ∈ tl → upd s c 1 y = 1 → Relation.TransGen (Edge dm cp) x y) := ⟨fun x y hx hy => by
          have he : Edge dm cp x c := ⟨tl, ho, hx⟩
          by_cases hyc : y = c
          · subst hyc; exact .single he
          · exact Relation.TransGen.trans (.single he) (H1.out y (by simpa [upd, hyc] using hy))⟩
        have HRange : Aside0 (∀ x, x ∈ tl → inR x) := ⟨fun x hx => edge_range hv ⟨tl, ho, hx⟩⟩
        have HUp : Aside0 (∀ x, x ∈ tl → ¬ Ends dm cp x → ¬ Ends dm cp c) := ⟨fun x hx hn hcx => hn (Acc.inv hcx ⟨tl, ho, hx⟩)⟩
        have HAll : Aside0 ((∀ i, i < tl.length → Ends dm cp (tl.getD i 0)) → Ends dm cp c) := ⟨fun hi => Acc.intro c fun y ⟨tl', hy, hm⟩ => by
          rw [ho] at hy
          cases hy
          obtain ⟨i, hil, rfl⟩ := List.mem_iff_getElem.1 hm
          have := hi i hil
          rwa [List.getD_eq_getElem?_getD, List.getElem?_eq_getElem hil] at this⟩
        clear hw1
        have eg : ∀ args w, (callFunc 62 args).run Tryz.prog w = .ok (.enter 62 args) w := enters_of Tryz.func62 (by kernel_rfl) rfl
        have HEG := Aside0.mk eg
        clear eg
        go_enter Tryz.func62, Tryz.ntmps62
        go_wp2_with fail
        refine HO.out.mono ?_
        rintro e w1 ⟨⟨A, ca, rfl, hl, hr⟩, hb1⟩
        have HL := Aside0.mk hl
        have HE1 := Aside0.mk (HE.out.below hb1)
        have HM1 := Aside0.mk (HM.out.below hb1 HM.out.lt)
        have HB1 := Aside0.mk hb1
        have hcs := HE1.out.cs
        have hlook := lookS HM1.out c HC.out
        rw [h0] at hlook
        obtain ⟨w2, hup, hm2, hg2⟩ := putS HM1.out c 1 HC.out (by decide) (by have := HN.out; omega)
        have HE2 := Aside0.mk (HE1.out.turned hg2 HM1.out.lt)
        have HM2 := Aside0.mk hm2
        have HG2 := Aside0.mk (grown_trans (grown_of_below hb1 _) hg2)
        have HR2 := Aside0.mk (C_turned hr HM1.out hg2)
        have hcv2 := HE2.out.cv
        clear hm2 hg2 hl hr hb1
        go_wp2_with fail
        have hlen : tl.length ≤ 9223372036854775807 := Kd.C_max HR2.out
        refine (hasIntS (fun j Wx => ∃ s' n', MapF Tryz.prog 3 encI Wx bs n' (stF s') ∧ n' + 2 * wh dm s' ≤ N - 1 ∧ (∀ x, s' x = 0 ∨ s' x = 1 ∨ s' x = 2) ∧ (∀ x, s' x = 2 → Ends dm cp x) ∧ (∀ x, s' x = 1 ↔ upd s c 1 x = 1) ∧ (∀ x, upd s c 1 x ≠ 0 → s' x ≠ 0) ∧ (∀ i, i < j → Ends dm cp (tl.getD i 0)) ∧ VEnv 62 w0 Wx p b1 b2 dm cp pd ps pv bs ∧ w2.grownBy Wx (some bs) ∧ Kd.C (Kd.int .i64) Wx A tl.length tl)
          (fun Wx => ∃ s' n', MapF Tryz.prog 3 encI Wx bs n' (stF s') ∧ n' ≤ N - 1 ∧ ¬ Ends dm cp c ∧ VEnv 62 w0 Wx p b1 b2 dm cp pd ps pv bs ∧ w2.grownBy Wx (some bs))
          62 #[.pointer (some ⟨pd, 0, none⟩), .pointer (some ⟨ps, 0, none⟩), .pointer (some ⟨pv, 0, none⟩)] HEG.out A ca tl w2 ?_ hlen ?_ ?_).mono ?_
        · refine ⟨upd s c 1, n + 1, HM2.out, ?_, fun x => ?_, fun x hx => ?_, fun x => Iff.rfl, fun x hx => hx, fun i hi => absurd hi (by omega), HE2.out, grown_of_below (Below.refl _ _) _, HR2.out⟩
          · have := HW1.out; have := HN.out; omega
          · unfold upd; split
            · exact Or.inr (Or.inl rfl)
            · exact HS.out x
          · by_cases hxc : x = c
            · rw [hxc] at hx; simp [upd] at hx
            · exact H2.out x (by simpa [upd, hxc] using hx)
        · rintro j Wx ⟨s', n', _, _, _, _, _, _, _, _, _, hC⟩
          exact hC
        · rintro j Wx hj ⟨s', n', hm, hn, hvv, h2', hgr, hnz, hen, hve, hgw, hC⟩
          have hmem : tl.getD j 0 ∈ tl := getD_mem tl 0 j hj
          have hwle := wh_mono dm hnz
          refine (HIH.out (wh dm (upd s c 1)) (by have := HW1.out; have := HK.out; omega) (N - 1) n' s' (tl.getD j 0) Wx hve hm hn (by omega) hwle hvv h2' (fun x hx => HGray.out _ x hmem ((hgr x).1 hx)) (HRange.out _ hmem)).mono ?_
          rintro e w' (⟨he, s3, n3, hm3, hn3, hne3, hg3⟩ | ⟨he, s3, n3, hm3, hn3, hv3, h23, hgr3, hnz3, hen3, hg3⟩)
          · exact Or.inl ⟨he, s3, n3, hm3, hn3, HUp.out _ hmem hne3, hve.turned hg3 hm.lt, grown_trans hgw hg3⟩
          · refine Or.inr ⟨he, s3, n3, hm3, hn3, hv3, h23, fun x => (hgr3 x).trans (hgr x), fun x hx => hnz3 x (hnz x hx), fun i hi => ?_, hve.turned hg3 hm.lt, grown_trans hgw hg3, C_turned hC hm hg3⟩
            by_cases hij : i = j
            · rw [hij]; exact hen3
            · exact hen i (by omega)
        · rintro e w3 (⟨rfl, s', n', hm, hn, hne, hve, hgw⟩ | ⟨rfl, s', n', hm, hn, hvv, h2', hgr, hnz, hen, hve, hgw, hC⟩)
          · obtain ⟨w4, hup2, hm4, hg4⟩ := putS hm c 2 HC.out (by decide) (by have := HN.out; omega)
            have HX : Aside0 (VisT dm cp bs N c W w4) := ⟨⟨_, n' + 1, hm4, by have := HN.out; have := HW1.out; omega, hne, grown_trans HG2.out (grown_trans hgw hg4)⟩⟩
            have hcs3 := hve.cs
            clear hm hn hne hve hgw hm4 hg4
            go_wp2_with fail
            go_ret
            exact Or.inl ⟨rfl, HX.out⟩
          · obtain ⟨w4, hup2, hm4, hg4⟩ := putS hm c 2 HC.out (by decide) (by have := HN.out; omega)
            have hEnds := HAll.out hen
            have HX : Aside0 (VisF dm cp bs N s c W w4) := ⟨by
              refine ⟨_, n' + 1, hm4, ?_, fun x => ?_, fun x hx => ?_, fun x => ?_, fun x hx => ?_, hEnds, grown_trans HG2.out (grown_trans hgw hg4)⟩
              · have h5 := wh_mono dm (upd_ne s' c 2 (by decide))
                have := HN.out; have := HW1.out; omega
              · unfold upd; split
                · exact Or.inr (Or.inr rfl)
                · exact hvv x
              · by_cases hxc : x = c
                · rw [hxc]; exact hEnds
                · exact h2' x (by simpa [upd, hxc] using hx)
              · by_cases hxc : x = c
                · rw [hxc]; simp [upd, h0]
                · have h5 := hgr x
                  simp only [upd, if_neg hxc] at h5 ⊢
                  exact h5
              · by_cases hxc : x = c
                · rw [hxc]; simp [upd]
                · have h5 := hnz x (by simpa only [upd, if_neg hxc] using hx)
                  simpa only [upd, if_neg hxc] using h5⟩
            have hcs3 := hve.cs
            clear hm hn hvv h2' hgr hnz hen hve hgw hC hm4 hg4 hEnds
            go_wp2_with fail
            go_ret
            exact Or.inr ⟨rfl, HX.out⟩
      · have HT : Aside0 (¬ Ends dm cp c) := ⟨no_ends (H1.out c h0)⟩
        go_enter Tryz.func62, Tryz.ntmps62
        go_wp2_with fail
        refine HO.out.mono ?_
        rintro e w1 ⟨⟨A, ca, rfl, hl, hr⟩, hb1⟩
        clear hl hr
        have hcs := (HE.out.below hb1).cs
        have hlook := lookS (HM.out.below hb1 HM.out.lt) c HC.out
        rw [h0] at hlook
        go_wp2_with fail
        go_ret
        exact Or.inl ⟨rfl, s, n, HM.out.below hb1 HM.out.lt, by have := HN.out; omega, HT.out, grown_of_below hb1 _⟩
      · have HEnd : Aside0 (Ends dm cp c) := ⟨H2.out c h0⟩
        go_enter Tryz.func62, Tryz.ntmps62
        go_wp2_with fail
        refine HO.out.mono ?_
        rintro e w1 ⟨⟨A, ca, rfl, hl, hr⟩, hb1⟩
        clear hl hr
        have hcs := (HE.out.below hb1).cs
        have hlook := lookS (HM.out.below hb1 HM.out.lt) c HC.out
        rw [h0] at hlook
        go_wp2_with fail
        go_ret
        exact Or.inr ⟨rfl, s, n, HM.out.below hb1 HM.out.lt, HN.out, HS.out, H2.out, fun x => Iff.rfl, fun x hx => hx, HEnd.out, grown_of_below hb1 _⟩
end Go.Proofs.YtipedgkampafjaaGreatDoor.Rf
/- Tells what cyclic finds out. -/
namespace Go.Proofs.YtipedgkampafjaaGreatDoor.Rf
open Go.Shelf Go.RowKit Go.Proofs.YtipedgkampafjaaGreatDoorW.PrintWords Go.Proofs.YtipedgkampafjaaGreatDoorW.PrintLast Go.Proofs.YtipedgkampafjaaGreatDoorW.PrintMore

theorem RangeF.rest {P : Program} {k : TypeId} {w : World} {b r n : Nat} {f : Int → Option Value} {left : Int → Bool} {cnt : Nat} (h : RangeF P k w b r n f left cnt) : w.rangeLeft b r = cnt := by
  obtain ⟨D, lf, h, _⟩ := h; exact h.left_eq
theorem VEnv.other {g : Nat} {w0 W W' : World} {p b1 b2 : Nat} {dm : List S61} {cp : Bool} {pd ps pv bs r : Nat} (h : VEnv g w0 W p b1 b2 dm cp pd ps pv bs) (hg : W.grownBy W' (some r)) (hp : p ≠ r) (h1 : b1 ≠ r) (hd : pd ≠ r) (hs : ps ≠ r) (hv : pv ≠ r) (hr : w0.heap.size ≤ r) (hlt : r < W.heap.size) : VEnv g w0 W' p b1 b2 dm cp pd ps pv bs where
  cd := cell_grown hg hd h.cd
  cs := cell_grown hg hs h.cs
  cv := cell_grown hg hv h.cv
  dat := h.dat.turned hg hp h1 hr hlt
  ne := h.ne
  low := h.low

/-- The world in which a closure g over data p is laid, with an empty map. -/
def envW (g tf : Nat) (w : World) (p : Nat) : World :=
  (((w.alloc (.cells #[.pointer (some ⟨p, 0, none⟩)] 57)).alloc (.map #[] 0)).alloc (.cells #[.map (some (w.heap.size + 1))] 86)).alloc
    (.cells #[.func (.func g) #[] #[.pointer (some ⟨w.heap.size, 0, none⟩), .pointer (some ⟨w.heap.size + 1 + 1, 0, none⟩), .pointer (some ⟨w.heap.size + 1 + 1 + 1, 0, none⟩)]] tf)
theorem envW_size (g tf : Nat) (w : World) (p : Nat) : (envW g tf w p).heap.size = w.heap.size + 4 := by simp [envW]
theorem envW_below (g tf : Nat) (w : World) (p : Nat) : Below w.heap.size w (envW g tf w p) := by
  unfold envW; exact below_alloc (below_alloc (below_alloc (below_alloc (Below.refl _ _) _) _) _) _
theorem cell_keep {w : World} {a : Addr} {v : Value} (h : w.cell? a = some v) (o : Obj) : (w.alloc o).cell? a = some v := by
  rw [(below_alloc (Below.refl w.heap.size w) o).cell (cell_lt h)]; exact h
theorem envW_env {g tf : Nat} {w0 w : World} {p b1 b2 : Nat} {dm : List S61} {cp : Bool} (h : DataM w0 w p b1 b2 dm cp) :
    VEnv g w0 (envW g tf w p) p b1 b2 dm cp w.heap.size (w.heap.size + 1 + 1) (w.heap.size + 1 + 1 + 1) (w.heap.size + 1) where
  cd := by unfold envW; exact cell_keep (cell_keep (cell_keep (by simp) _) _) _
  cs := by
    unfold envW
    refine cell_keep ?_ _
    rw [show w.heap.size + 1 + 1 = ((w.alloc (.cells #[.pointer (some ⟨p, 0, none⟩)] 57)).alloc (.map #[] 0)).heap.size by simp]
    simp only [World.cell?_alloc_new]
    rfl
  cv := by
    unfold envW
    rw [show w.heap.size + 1 + 1 + 1 = (((w.alloc (.cells #[.pointer (some ⟨p, 0, none⟩)] 57)).alloc (.map #[] 0)).alloc (.cells #[.map (some (w.heap.size + 1))] 86)).heap.size by simp]
    simp only [World.cell?_alloc_new]
    rfl
  dat := h.mono (envW_below _ _ _ _)
  ne := by
    have h1 := cell_lt h.c0
    obtain ⟨f, hf, _⟩ := h.maps
    have h2 := hf.lt
    simp only at h1
    refine ⟨by omega, by omega, by omega, by omega, by omega⟩
  low := by have := h.below.size; omega
theorem stF_zero : stF (fun _ => 0) = fun _ => none := by funext x; simp [stF]
theorem envW_map (g tf : Nat) (w : World) (p : Nat) : MapF Tryz.prog 3 encI (envW g tf w p) (w.heap.size + 1) 0 (stF fun _ => 0) := by
  have h := MapF.made (w.alloc (.cells #[.pointer (some ⟨p, 0, none⟩)] 57)) Tryz.prog 3 encI
  rw [show (w.alloc (.cells #[.pointer (some ⟨p, 0, none⟩)] 57)).heap.size = w.heap.size + 1 by simp] at h
  rw [stF_zero]
  exact (h.alloc _).alloc _
theorem univ_len (dm : List S61) (s : Int → Int) : wh dm s ≤ dm.length + 11172 := by
  refine Nat.le_trans List.countP_le_length ?_
  simp [univ]
theorem relM_some {w0 : World} {v : Option Value} {m : Option S61} (h : RelM w0 v m) : v.isSome = m.isSome := by
  match v, m, h with
  | none, none, _ => rfl
  | some v, some m, _ => rfl

set_option maxRecDepth 100000 in
set_option maxHeartbeats 8000000 in
theorem cyclic_any {w0 w : World} {p b1 b2 : Nat} {dm : List S61} {cp : Bool} (hv : ∀ m ∈ dm, badCodes m = false) (hl : dm.length < 1152921504606846976) (h : DataM w0 w p b1 b2 dm cp) :
    Calls Tryz.prog 34 #[.pointer (some ⟨p, 0, none⟩)] w fun e w' => ∃ b, e = .returned (.bool b) ∧ (b = true → ∃ c m, lastM dm c = some m ∧ ¬ Ends dm cp c) ∧ (b = false → ∀ c m, lastM dm c = some m → Ends dm cp c) ∧ Below w.heap.size w w' := by
  have hmm := @run_makeMap Tryz.prog
  have HV := Aside0.mk hv
  have hk0 := h.c0
  have hpl : p < w.heap.size := cell_lt hk0
  have HE := Aside0.mk (envW_env (g := 62) (tf := 68) h)
  have HM := Aside0.mk (envW_map 62 68 w p)
  obtain ⟨f, hf, hrel⟩ := HE.out.dat.maps
  have HF := Aside0.mk hrel
  obtain ⟨w1, cnt, hrange, hrf, hg1, hs1⟩ := RangeF.start Tryz.underlying3 hf Tryz.underlying82
  rw [envW_size] at hrf
  have hs0 := envW_size 62 68 w p
  have HLo := Aside0.mk (show w0.heap.size ≤ w.heap.size from h.below.size)
  have HR := Aside0.mk hrf
  have hb1 : Below (envW 62 68 w p).heap.size (envW 62 68 w p) w1 := ⟨hg1.os, hg1.tape, hg1.output, hg1.size, fun k hk => hg1.block k hk (by simp)⟩
  have HE1 := Aside0.mk (HE.out.below hb1)
  have HM1 := Aside0.mk (HM.out.below hb1 HM.out.lt)
  have HB1 := Aside0.mk (below_step (envW_below 62 68 w p) hb1)
  have hsz : w1.heap.size = w.heap.size + 4 + 1 := by rw [hs1, hs0]
  have hb1l : b1 < w.heap.size := by obtain ⟨f', hf', _⟩ := h.maps; exact hf'.lt
  rw [hs0] at hrange
  have hcp := HE.out.dat.c0
  clear hf hrel hrf hg1 hs1 hs0 hb1 HE HM h hv
  unfold envW at hrange hcp
  go_enter Tryz.func34, Tryz.ntmps34
  go_wp2_with fail
  go_loopw [] (fun wr => ∃ left cnt n s, RangeF Tryz.prog 3 wr b1 (w.heap.size + 4) dm.length f left cnt ∧ MapF Tryz.prog 3 encI wr (w.heap.size + 1) n (stF s) ∧ n + 2 * wh dm s ≤ 2 * (dm.length + 11172) ∧ (∀ x, s x = 0 ∨ s x = 1 ∨ s x = 2) ∧ (∀ x, s x = 2 → Ends dm cp x) ∧ (∀ x, s x ≠ 1) ∧
    VEnv 62 w0 wr p b1 b2 dm cp w.heap.size (w.heap.size + 1 + 1) (w.heap.size + 1 + 1 + 1) (w.heap.size + 1) ∧ Below w.heap.size w wr ∧ (∀ x, inR x → (f x).isSome = true → left x = false → Ends dm cp x)) (fun wr => wr.rangeLeft b1 (w.heap.size + 4))
  case atStart =>
    refine ⟨_, cnt, 0, fun _ => 0, HR.out, HM1.out, ?_, fun x => Or.inl rfl, fun x hx => (by cases hx), fun x hx => (by cases hx), HE1.out, HB1.out, fun x _ h1 h2 => by rw [h1] at h2; cases h2⟩
    have := univ_len dm (fun _ => 0); omega
  case round =>
    clear HE1 HM1 HB1 HR hrange hcp hsz
    obtain ⟨left, cnt, n, s, hr, hm, hn, hvs, h2, h1, hve, hbw, hle⟩ := hrel
    have HRest := Aside0.mk hr.rest
    rcases hr.next Tryz.underlying3 0 with ⟨hdone, hnext⟩ | ⟨x, v, w2, cnt2, hx, hlx, hfx, hnext, hr2, hlt2, hg2, hs2, hent⟩
    · have HEnd : Aside0 (∀ c m, lastM dm c = some m → Ends dm cp c) := ⟨fun c m hc => by
        have hcm := lastM_mem hc
        have hb := HV.out m hcm.1
        simp only [badCodes, Bool.or_eq_false_iff, Bool.not_eq_false'] at hb
        have hin : inR c := hcm.2 ▸ valid_range hb.1
        exact hle c hin (by rw [relM_some (HF.out c), hc]; rfl) (hdone c hin)⟩
      have HB := Aside0.mk hbw
      clear hr hm hn hvs h2 h1 hve hbw hle hdone HRest
      go_wp2_with fail
      go_ret
      exact ⟨false, rfl, fun h => (by cases h), fun _ => HEnd.out, HB.out⟩
    · have hrl := hr.lt
      have HVE2 := Aside0.mk (hve.other (r := w.heap.size + 4) hg2 (by omega) (by omega) (by omega) (by omega) (by omega) (by have := HLo.out; omega) hrl.2.1)
      have hm2 := hm.kept hg2 (by intro e; simp at e)
      have hcv := HVE2.out.cv
      have HB2 := Aside0.mk (below_turned hbw hg2 (by omega) hrl.2.1)
      have HVis := Aside0.mk (visit_any HV.out (wh dm s) (2 * (dm.length + 11172)) n s x w2 HVE2.out hm2 hn (by omega) (Nat.le_refl _) hvs h2 (fun y hy => absurd hy (h1 y)) hx)
      have HR2 := Aside0.mk hr2
      have HM2 := Aside0.mk hm2
      have HX := Aside0.mk (show ∃ m, lastM dm x = some m by
        have := relM_some (HF.out x)
        rw [hfx] at this
        exact Option.isSome_iff_exists.1 this.symm)
      have HLE := Aside0.mk hle
      have H1 := Aside0.mk h1
      have HLT := Aside0.mk hlt2
      clear hr hm hn hvs h2 h1 hve hbw hle hr2 hm2 hlx hfx hlt2 hs2 hrl hg2
      go_wp2_with fail
      refine HVis.out.mono ?_
      rintro e w3 (⟨rfl, s', n', hm3, hn3, hne3, hg3⟩ | ⟨rfl, s', n', hm3, hn3, hv3, h23, hgr3, hnz3, hen3, hg3⟩)
      · have HN := Aside0.mk hne3
        have HB3 := Aside0.mk (below_turned HB2.out hg3 (by omega) HM2.out.lt)
        clear hm3 hn3 hne3 hg3
        go_wp2_with fail
        go_ret
        obtain ⟨m, hxm⟩ := HX.out
        exact ⟨true, rfl, fun _ => ⟨x, m, hxm, HN.out⟩, fun h => (by cases h), HB3.out⟩
      · have HR3 := Aside0.mk (HR2.out.kept hg3 (by intro e; simp at e; omega) (by intro e; simp at e))
        have HVE3 := Aside0.mk (HVE2.out.turned hg3 HM2.out.lt)
        have HB3 := Aside0.mk (below_turned HB2.out hg3 (by omega) HM2.out.lt)
        have HM3 := Aside0.mk hm3
        have HN3 := Aside0.mk hn3
        have HV3 := Aside0.mk hv3
        have H23 := Aside0.mk h23
        have HG3 := Aside0.mk hgr3
        have HE3 := Aside0.mk hen3
        clear hm3 hn3 hv3 h23 hgr3 hnz3 hen3 hg3
        go_wp2_with fail
        go_roundw
        case rel =>
          refine ⟨_, cnt2, n', s', HR3.out, HM3.out, HN3.out, HV3.out, H23.out, fun y hy => H1.out y ((HG3.out y).1 hy), HVE3.out, HB3.out, fun y hy hfy hly => ?_⟩
          by_cases hyx : y = x
          · rw [hyx]; exact HE3.out
          · exact HLE.out y hy hfy (by simpa [hyx] using hly)
        case measure =>
          rw [HR3.out.rest, HRest.out]; exact HLT.out
end Go.Proofs.YtipedgkampafjaaGreatDoor.Rf
/- Tells what the closure of long counts. -/
namespace Go.Proofs.YtipedgkampafjaaGreatDoor.Rf
open Go.Shelf Go.RowKit Go.Proofs.YtipedgkampafjaaGreatDoorW.PrintWords Go.Proofs.YtipedgkampafjaaGreatDoorW.PrintLast Go.Proofs.YtipedgkampafjaaGreatDoorW.PrintMore

/-- A sum that stops at 65. -/
def sat (l : List Int) : Int := l.foldl (fun n v => min (n + v) 65) 0
theorem sat_snoc (l : List Int) (v : Int) : sat (l ++ [v]) = min (sat l + v) 65 := by simp [sat, List.foldl_append]
theorem sat_range (l : List Int) (h : ∀ v ∈ l, 0 ≤ v) : 0 ≤ sat l ∧ sat l ≤ 65 := by
  suffices ∀ (l : List Int) (a : Int), (∀ v ∈ l, 0 ≤ v) → 0 ≤ a → a ≤ 65 → 0 ≤ l.foldl (fun n v => min (n + v) 65) a ∧ l.foldl (fun n v => min (n + v) 65) a ≤ 65 from this l 0 h (by omega) (by omega)
  intro l
  induction l with
  | nil => intro a _ h0 h1; exact ⟨h0, h1⟩
  | cons x l ih =>
    intro a hv h0 h1
    have hx := hv x (List.mem_cons_self)
    exact ih (min (a + x) 65) (fun v hv' => hv v (List.mem_cons_of_mem _ hv')) (by omega) (by omega)
theorem mx_max (a b : Int) : mx a b = max a b := by unfold mx; split <;> omega
theorem mn_min (a b : Int) : mn a b = min a b := by unfold mn; split <;> omega
/-- L tells how many elements the full decompositions have. -/
def IsLen (dm : List S61) (cp : Bool) (L : Int → Int) : Prop :=
  (∀ c, onceS dm cp c = none → L c = 1) ∧ (∀ c tl, onceS dm cp c = some tl → L c = max (sat (tl.map L)) 1) ∧ ∀ c, 1 ≤ L c ∧ L c ≤ 65

variable {w0 : World} {p b1 b2 : Nat} {dm : List S61} {cp : Bool} {pd ps pv bs : Nat} {L : Int → Int}
def CntF (dm : List S61) (cp : Bool) (L : Int → Int) (bs N : Nat) (s : Int → Int) (c : Int) (W w' : World) : Prop :=
  ∃ s' n', MapF Tryz.prog 3 encI w' bs n' (stF s') ∧ n' + wh dm s' ≤ N ∧ (∀ x, s' x ≠ 0 → s' x = L x) ∧ (∀ x, s x ≠ 0 → s' x ≠ 0) ∧ (∀ x, s' x ≠ 0 → s x ≠ 0 ∨ x = c ∨ Relation.TransGen (Edge dm cp) x c) ∧ W.grownBy w' (some bs)

attribute [local go_sem] max2_mx min2_mn max_two min_two
set_option maxRecDepth 100000 in
set_option maxHeartbeats 8000000 in
theorem count_any (hv : ∀ m ∈ dm, badCodes m = false) (hL : IsLen dm cp L) (N : Nat) (hNb : N < 9223372036854775807) (c : Int) (hEnds : Ends dm cp c) : ∀ (n : Nat) (s : Int → Int) (W : World), VEnv 64 w0 W p b1 b2 dm cp pd ps pv bs → MapF Tryz.prog 3 encI W bs n (stF s) → n + wh dm s ≤ N →
    (∀ x, s x ≠ 0 → s x = L x) → inR c →
    Calls Tryz.prog 64 #[.int .i64 c, .pointer (some ⟨pd, 0, none⟩), .pointer (some ⟨ps, 0, none⟩), .pointer (some ⟨pv, 0, none⟩)] W fun e w' => e = .returned (.int .i64 (L c)) ∧ CntF dm cp L bs N s c W w' := by
  induction hEnds with
  | intro c hacc ih =>
    intro n s W hE hM hN hs hc
    have HIH := Aside0.mk ih
    have HE := Aside0.mk hE
    have HM := Aside0.mk hM
    have HN := Aside0.mk hN
    have HS := Aside0.mk hs
    have HC := Aside0.mk hc
    have HO := Aside0.mk (once_any hE.dat c hc)
    have HNC := Aside0.mk (no_ends (dm := dm) (cp := cp) (c := c))
    have HA := Aside0.mk (Acc.intro c hacc)
    have hcd := hE.cd
    clear ih hE hM hN hs hc hacc
    cases ho : onceS dm cp c with
    | none =>
      rw [ho] at HO
      have HLc := Aside0.mk (hL.1 c ho)
      go_enter Tryz.func64, Tryz.ntmps64
      go_wp2_with fail
      refine HO.out.mono ?_
      rintro e w1 ⟨rfl, hb1⟩
      go_wp2_with fail
      go_ret
      exact ⟨ret_int (by rw [HLc.out]), s, n, HM.out.below hb1 HM.out.lt, HN.out, HS.out, fun x hx => hx, fun x hx => Or.inl hx, grown_of_below hb1 _⟩
    | some tl =>
      rw [ho] at HO
      cases h0 : (s c != 0) with
      | true =>
        have hne : s c ≠ 0 := by simpa using h0
        have HLc := Aside0.mk (HS.out c hne)
        go_enter Tryz.func64, Tryz.ntmps64
        go_wp2_with fail
        refine HO.out.mono ?_
        rintro e w1 ⟨⟨A, ca, rfl, hl, hr⟩, hb1⟩
        clear hl hr
        have hcs := (HE.out.below hb1).cs
        have hlook := lookSok (HM.out.below hb1 HM.out.lt) c HC.out
        rw [h0] at hlook
        go_wp2_with fail
        go_ret
        exact ⟨ret_int (by rw [HLc.out]), s, n, HM.out.below hb1 HM.out.lt, HN.out, HS.out, fun x hx => hx, fun x hx => Or.inl hx, grown_of_below hb1 _⟩
      | false =>
        go_enter Tryz.func64, Tryz.ntmps64
        go_wp2_with fail
        refine HO.out.mono ?_
        rintro e w1 ⟨⟨A, ca, rfl, hl, hr⟩, hb1⟩
        have hcs := (HE.out.below hb1).cs
        have hlook := lookSok (HM.out.below hb1 HM.out.lt) c HC.out
        rw [h0] at hlook
        have HE1 := Aside0.mk (HE.out.below hb1)
        have HM1 := Aside0.mk (HM.out.below hb1 HM.out.lt)
        have HG1 := Aside0.mk (grown_of_below hb1 (some bs))
        have HR1 := Aside0.mk hr
        have hlen : tl.length ≤ 9223372036854775807 := Kd.C_max hr
        clear hl hr hb1
        go_wp2_with fail
        go_loopw [10, 31] (fun v v2 wr => ∃ j : Nat, v2 = .int .i64 (j : Int) ∧ v = .int .i64 (sat ((tl.take j).map L)) ∧ j ≤ tl.length ∧ Aside0 (VEnv 64 w0 wr p b1 b2 dm cp pd ps pv bs) ∧ Aside0 (∃ s' n', MapF Tryz.prog 3 encI wr bs n' (stF s') ∧ n' + wh dm s' ≤ N ∧ (∀ x, s' x ≠ 0 → s' x = L x) ∧ (∀ x, s x ≠ 0 → s' x ≠ 0) ∧ (∀ x, s' x ≠ 0 → s x ≠ 0 ∨ Relation.TransGen (Edge dm cp) x c)) ∧ Aside0 (W.grownBy wr (some bs)) ∧ Aside0 (Kd.C (Kd.int .i64) wr A tl.length tl)) (fun _ v2 _ => tl.length - (intOf v2).toNat)
        case atStart => exact ⟨0, rfl, rfl, by omega, HE1, ⟨s, n, HM1.out, HN.out, HS.out, fun x hx => hx, fun x hx => Or.inl hx⟩, HG1, HR1⟩
        case round =>
          clear HE1 HM1 HG1 HR1 hlook hcs
          obtain ⟨j, rfl, rfl, hj, HE1, HS1, HG1, HR1⟩ := hrel
          have hsr := sat_range ((tl.take j).map L) (fun v hv => by
            obtain ⟨y, _, rfl⟩ := List.mem_map.1 hv
            have := hL.2.2 y; omega)
          by_cases hlt : j < tl.length
          · have HT : Aside0 (sat ((tl.take (j + 1)).map L) = min (sat ((tl.take j).map L) + L (tl.getD j 0)) 65) := ⟨by
              rw [List.take_succ_eq_append_getElem hlt, List.map_append, List.map_singleton, sat_snoc, List.getD_eq_getElem?_getD, List.getElem?_eq_getElem hlt]; rfl⟩
            obtain ⟨ad, e, hx0⟩ := ReadsInt.at_ (ReadsInt.of_C HR1.out) j (by omega) (by omega)
            subst e
            simp only [Int.toNat_natCast] at hx0
            have hrd : rd tl (j : Int) = tl.getD j 0 := by rw [rd, Int.toNat_natCast]
            rw [hrd] at hx0
            have hmem : tl.getD j 0 ∈ tl := getD_mem tl 0 j hlt
            have hed : Edge dm cp (tl.getD j 0) c := ⟨tl, ho, hmem⟩
            obtain ⟨s', n', hm, hn, hss, hnz, hde⟩ := HS1.out
            have HCall := Aside0.mk (HIH.out _ hed n' s' wr HE1.out hm hn hss (edge_range hv hed))
            have HMl := Aside0.mk hm
            have HNZ := Aside0.mk hnz
            have HDE := Aside0.mk hde
            have HED := Aside0.mk hed
            have hcv := HE1.out.cv
            have hLb := hL.2.2 (tl.getD j 0)
            clear hrd hmem hed hm hn hss hnz hde
            generalize tl.getD j 0 = x at HT hx0 HCall HED hLb
            generalize hLx : L x = lx at HT HCall hLb
            generalize sat ((tl.take j).map L) = a at HT hsr
            go_wp2_with fail
            refine HCall.out.mono ?_
            rintro e w2 ⟨rfl, s3, n3, hm3, hn3, hs3, hnz3, hde3, hg3⟩
            have HE3 := Aside0.mk (HE1.out.turned hg3 HMl.out.lt)
            have HG3 := Aside0.mk (grown_trans HG1.out hg3)
            have HR3 := Aside0.mk (C_turned HR1.out HMl.out hg3)
            have HS3 := Aside0.mk (show ∃ s' n', MapF Tryz.prog 3 encI w2 bs n' (stF s') ∧ n' + wh dm s' ≤ N ∧ (∀ x, s' x ≠ 0 → s' x = L x) ∧ (∀ x, s x ≠ 0 → s' x ≠ 0) ∧ (∀ x, s' x ≠ 0 → s x ≠ 0 ∨ Relation.TransGen (Edge dm cp) x c) from
              ⟨s3, n3, hm3, hn3, hs3, fun y hy => hnz3 y (HNZ.out y hy), fun y hy => by
                rcases hde3 y hy with h | h | h
                · exact HDE.out y h
                · rw [h]; exact Or.inr (.single HED.out)
                · exact Or.inr (.tail h HED.out)⟩)
            clear hm3 hn3 hs3 hnz3 hde3 hg3
            go_wp2_with fail
            go_roundw
            case rel => exact ⟨j + 1, by first | rfl | go_num, by rw [HT.out, ← mn_min], by omega, HE3, HS3, HG3, HR3⟩
            case measure => simp [intOf]; omega
          · have HLc := Aside0.mk (hL.2.1 c tl ho)
            rw [← List.take_of_length_le (l := tl) (show tl.length ≤ j by omega)] at HLc
            obtain ⟨s', n', hm, hn, hss, hnz, hde⟩ := HS1.out
            have h0' : s' c = 0 := Classical.byContradiction fun hne => by
              rcases hde c hne with h | h
              · simp at h0; exact h h0
              · exact HNC.out h HA.out
            generalize sat ((tl.take j).map L) = a at HLc hsr
            have hmx : mx a 1 = max a 1 := mx_max a 1
            have hne1 : mx a 1 ≠ 0 := by rw [hmx]; omega
            obtain ⟨w4, hup, hm4, hg4⟩ := putS hm c (mx a 1) HC.out hne1 (by omega)
            have hlook2 := lookS hm4 c HC.out
            have hcs := HE1.out.cs
            have hcs4 := (HE1.out.turned hg4 hm.lt).cs
            have HX : Aside0 (CntF dm cp L bs N s c W w4) := ⟨⟨_, n' + 1, hm4, by have := wh_set dm hne1 h0' (univ_mem ho); omega, fun x hx => by
              by_cases hxc : x = c
              · rw [hxc]; simp only [upd, if_pos]; rw [HLc.out]; exact hmx
              · simp only [upd, if_neg hxc] at hx ⊢; exact hss x hx, fun x hx => by
              exact upd_ne s' c _ hne1 x (hnz x hx), fun x hx => by
              by_cases hxc : x = c
              · exact Or.inr (Or.inl hxc)
              · simp only [upd, if_neg hxc] at hx
                rcases hde x hx with h | h
                · exact Or.inl h
                · exact Or.inr (Or.inr h), grown_trans HG1.out hg4⟩⟩
            have hul : upd s' c (mx a 1) c = mx a 1 := by simp [upd]
            rw [hul, hmx] at hlook2
            rw [hmx] at hup
            clear hm hn hss hnz hde h0' hm4 hg4 hul hne1
            go_wp2_with fail
            go_ret
            exact ⟨ret_int (by rw [HLc.out]), HX.out⟩
end Go.Proofs.YtipedgkampafjaaGreatDoor.Rf
/- Tells what long finds out. -/
namespace Go.Proofs.YtipedgkampafjaaGreatDoor.Rf
open Go.Shelf Go.RowKit Go.Proofs.YtipedgkampafjaaGreatDoorW.PrintWords Go.Proofs.YtipedgkampafjaaGreatDoorW.PrintLast Go.Proofs.YtipedgkampafjaaGreatDoorW.PrintMore

set_option maxRecDepth 100000 in
set_option maxHeartbeats 8000000 in
theorem long_any {w0 w : World} {p b1 b2 : Nat} {dm : List S61} {cp : Bool} {L : Int → Int} (hL : IsLen dm cp L) (hAll : ∀ c m, lastM dm c = some m → Ends dm cp c) (hv : ∀ m ∈ dm, badCodes m = false) (hl : dm.length < 1152921504606846976) (h : DataM w0 w p b1 b2 dm cp) :
    Calls Tryz.prog 35 #[.pointer (some ⟨p, 0, none⟩)] w fun e w' => ∃ b, e = .returned (.bool b) ∧ (b = true → ∃ c m, lastM dm c = some m ∧ 64 < L c) ∧ (b = false → ∀ c m, lastM dm c = some m → L c ≤ 64) ∧ Below w.heap.size w w' := by
  have hmm := @run_makeMap Tryz.prog
  have HV := Aside0.mk hv
  have HLen := Aside0.mk hL
  have HAll := Aside0.mk hAll
  clear hL hAll
  have hk0 := h.c0
  have hpl : p < w.heap.size := cell_lt hk0
  have HE := Aside0.mk (envW_env (g := 64) (tf := 62) h)
  have HM := Aside0.mk (envW_map 64 62 w p)
  obtain ⟨f, hf, hrel⟩ := HE.out.dat.maps
  have HF := Aside0.mk hrel
  obtain ⟨w1, cnt, hrange, hrf, hg1, hs1⟩ := RangeF.start Tryz.underlying3 hf Tryz.underlying82
  rw [envW_size] at hrf
  have hs0 := envW_size 64 62 w p
  have HLo := Aside0.mk (show w0.heap.size ≤ w.heap.size from h.below.size)
  have HR := Aside0.mk hrf
  have hb1 : Below (envW 64 62 w p).heap.size (envW 64 62 w p) w1 := ⟨hg1.os, hg1.tape, hg1.output, hg1.size, fun k hk => hg1.block k hk (by simp)⟩
  have HE1 := Aside0.mk (HE.out.below hb1)
  have HM1 := Aside0.mk (HM.out.below hb1 HM.out.lt)
  have HB1 := Aside0.mk (below_step (envW_below 64 62 w p) hb1)
  have hsz : w1.heap.size = w.heap.size + 4 + 1 := by rw [hs1, hs0]
  have hb1l : b1 < w.heap.size := by obtain ⟨f', hf', _⟩ := h.maps; exact hf'.lt
  rw [hs0] at hrange
  have hcp := HE.out.dat.c0
  clear hf hrel hrf hg1 hs1 hs0 hb1 HE HM h hv
  unfold envW at hrange hcp
  go_enter Tryz.func35, Tryz.ntmps35
  go_wp2_with fail
  go_loopw [] (fun wr => ∃ left cnt n s, RangeF Tryz.prog 3 wr b1 (w.heap.size + 4) dm.length f left cnt ∧ MapF Tryz.prog 3 encI wr (w.heap.size + 1) n (stF s) ∧ n + wh dm s ≤ dm.length + 11172 ∧ (∀ x, s x ≠ 0 → s x = L x) ∧
    VEnv 64 w0 wr p b1 b2 dm cp w.heap.size (w.heap.size + 1 + 1) (w.heap.size + 1 + 1 + 1) (w.heap.size + 1) ∧ Below w.heap.size w wr ∧ (∀ x, inR x → (f x).isSome = true → left x = false → L x ≤ 64)) (fun wr => wr.rangeLeft b1 (w.heap.size + 4))
  case atStart =>
    refine ⟨_, cnt, 0, fun _ => 0, HR.out, HM1.out, ?_, fun x hx => absurd rfl hx, HE1.out, HB1.out, fun x _ h1 h2 => by rw [h1] at h2; cases h2⟩
    have := univ_len dm (fun _ => 0); omega
  case round =>
    clear HE1 HM1 HB1 HR hrange hcp hsz
    obtain ⟨left, cnt, n, s, hr, hm, hn, hvs, hve, hbw, hle⟩ := hrel
    have HRest := Aside0.mk hr.rest
    rcases hr.next Tryz.underlying3 0 with ⟨hdone, hnext⟩ | ⟨x, v, w2, cnt2, hx, hlx, hfx, hnext, hr2, hlt2, hg2, hs2, hent⟩
    · have HEnd : Aside0 (∀ c m, lastM dm c = some m → L c ≤ 64) := ⟨fun c m hc => by
        have hcm := lastM_mem hc
        have hb := HV.out m hcm.1
        simp only [badCodes, Bool.or_eq_false_iff, Bool.not_eq_false'] at hb
        have hin : inR c := hcm.2 ▸ valid_range hb.1
        exact hle c hin (by rw [relM_some (HF.out c), hc]; rfl) (hdone c hin)⟩
      have HB := Aside0.mk hbw
      clear hr hm hn hvs hve hbw hle hdone HRest
      go_wp2_with fail
      go_ret
      exact ⟨false, rfl, fun h => (by cases h), fun _ => HEnd.out, HB.out⟩
    · have hrl := hr.lt
      have HVE2 := Aside0.mk (hve.other (r := w.heap.size + 4) hg2 (by omega) (by omega) (by omega) (by omega) (by omega) (by have := HLo.out; omega) hrl.2.1)
      have hm2 := hm.kept hg2 (by intro e; simp at e)
      have hcv := HVE2.out.cv
      have HB2 := Aside0.mk (below_turned hbw hg2 (by omega) hrl.2.1)
      have HR2 := Aside0.mk hr2
      have HM2 := Aside0.mk hm2
      have HX := Aside0.mk (show ∃ m, lastM dm x = some m by
        have := relM_some (HF.out x)
        rw [hfx] at this
        exact Option.isSome_iff_exists.1 this.symm)
      have HVis := Aside0.mk (count_any HV.out HLen.out (dm.length + 11172) (by omega) x (by obtain ⟨m, hxm⟩ := HX.out; exact HAll.out x m hxm) n s w2 HVE2.out hm2 hn hvs hx)
      have HLE := Aside0.mk hle
      have HLT := Aside0.mk hlt2
      clear hr hm hn hvs hve hbw hle hr2 hm2 hlx hfx hlt2 hs2 hrl hg2
      go_wp2_with fail
      refine HVis.out.mono ?_
      rintro e w3 ⟨rfl, s', n', hm3, hn3, hs3, hnz3, hde3, hg3⟩
      have HB3 := Aside0.mk (below_turned HB2.out hg3 (by omega) HM2.out.lt)
      have HR3 := Aside0.mk (HR2.out.kept hg3 (by intro e; simp at e; omega) (by intro e; simp at e))
      have HVE3 := Aside0.mk (HVE2.out.turned hg3 HM2.out.lt)
      have HM3 := Aside0.mk hm3
      have HN3 := Aside0.mk hn3
      have HS3 := Aside0.mk hs3
      clear hm3 hn3 hs3 hnz3 hde3 hg3 HVis
      generalize hLx : L x = lx
      have HLx := Aside0.mk hLx
      clear hLx
      cases h64 : decide (64 < lx) with
      | true =>
        go_wp2_with fail
        go_ret
        obtain ⟨m, hxm⟩ := HX.out
        exact ⟨true, rfl, fun _ => ⟨x, m, hxm, by rw [HLx.out]; exact of_decide_eq_true h64⟩, fun h => (by cases h), HB3.out⟩
      | false =>
        go_wp2_with fail
        go_roundw
        case rel =>
          refine ⟨_, cnt2, n', s', HR3.out, HM3.out, HN3.out, HS3.out, HVE3.out, HB3.out, fun y hy hfy hly => ?_⟩
          by_cases hyx : y = x
          · rw [hyx, HLx.out]; have := of_decide_eq_false h64; omega
          · exact HLE.out y hy hfy (by simpa [hyx] using hly)
        case measure =>
          rw [HR3.out.rest, HRest.out]; exact HLT.out
end Go.Proofs.YtipedgkampafjaaGreatDoor.Rf
/- Tells what cpset.Make gathers. -/
namespace Go.Proofs.YtipedgkampafjaaGreatDoor.Rf
open Go.Shelf Go.RowKit Go.Proofs.YtipedgkampafjaaGreatDoorW.PrintWords Go.Proofs.YtipedgkampafjaaGreatDoorW.PrintLast Go.Proofs.YtipedgkampafjaaGreatDoorW.PrintMore

abbrev RR := S52
def encR2 (x : RR) : List Value := [.int .i64 x.f0, .int .i64 x.f1]
def flatR (l : List RR) : List Value := l.flatMap encR2
theorem flatR_len (l : List RR) : (flatR l).length = l.length * 2 := by
  induction l with
  | nil => rfl
  | cons x l ih => simp only [flatR, List.flatMap_cons, List.length_append] at ih ⊢; rw [ih]; simp [encR2]; omega
/-- A row of ranges of the call's own. -/
def RowR (w : World) (base : Nat) (v : Value) (l : List RR) : Prop := w.ownsRow base 52 2 v l.length (flatR l)
def clampR (x : RR) : RR := ⟨mx x.f0 0, mn x.f1 1114111⟩
def goodR (x : RR) : Bool := decide (x.f0 ≤ x.f1)
def gathR (l : List RR) : List RR := (l.map clampR).filter goodR

theorem gathR_snoc (l : List RR) (x : RR) : gathR (l ++ [x]) = if goodR (clampR x) then gathR l ++ [clampR x] else gathR l := by
  simp only [gathR, List.map_append, List.map_singleton, List.filter_append]
  cases h : goodR (clampR x) <;> simp [h]

set_option maxRecDepth 100000 in
theorem appendR {w : World} {base : Nat} {v : Value} {l : List RR} (h : RowR w base v l) (x : RR) (a : Addr) (h0 : w.cell? a = some (.int .i64 x.f0)) (h1 : w.cell? (a.add 1) = some (.int .i64 x.f1)) (hb : base ≤ w.heap.size) (hl : l.length ≤ 1000000) (ty : TypeId) :
    ∃ v' w', (Builtin.append_ #[24, 24] ty #[v, .slice (some a) 1 1]).run Tryz.prog w = .ok v' w' ∧ RowR w' base v' (l ++ [x]) ∧ w.grownBy w' v.ownBlock := by
  obtain ⟨v', w', h3, h4, h5, _⟩ := run_append_own (P := Tryz.prog) w base 24 ty 52 Tryz.t52 (.agg #[.int .i64 0, .int .i64 0]) 2 16 Tryz.underlying24 (by kernel_rfl) rfl rfl rfl rfl (by omega) v l.length (flatR l) h a 1 1 (encR2 x) (by simp [encR2])
    (fun j u hu => by
      match j, hu with
      | 0, hu => simp [encR2] at hu; subst hu; simpa [Addr.add] using h0
      | 1, hu => simp [encR2] at hu; subst hu; exact h1
      | j + 2, hu => simp [encR2] at hu) (fun u hu => by simp [encR2] at hu; rcases hu with rfl | rfl <;> rfl) (by simp [maxLen]; omega) (by omega) hb
  exact ⟨v', w', h3, by simpa [RowR, flatR] using h4, h5⟩
theorem infoR : (Tryz.prog.info? 52).map (fun i => (i.zero, i.size, i.bytes)) = some (some (.agg #[.int .i64 0, .int .i64 0]), 2, 16) := by kernel_rfl
theorem RowR.ge {w : World} {base : Nat} {v : Value} {l : List RR} (h : RowR w base v l) (k : Nat) (hk : v.ownBlock = some k) : base ≤ k := by
  rcases h.2 with ⟨rfl, _⟩ | ⟨g, cap, cur, rfl, hg, _⟩
  · cases hk
  · cases hk; exact hg
theorem RowR.alloc {w : World} {base : Nat} {v : Value} {l : List RR} (h : RowR w base v l) (o : Obj) : RowR (w.alloc o) base v l := World.ownsRow.alloc h o
theorem RowR.nil (w : World) (base : Nat) : RowR w base (.slice none 0 0) [] := World.ownsRow_nil _ _ _ _


instance : Inhabited RR := ⟨z52⟩
theorem flatR_get : ∀ (l : List RR) (t : Nat), t < l.length * 2 → (flatR l)[t]? = some ((encR2 (l.getD (t / 2) z52)).getD (t % 2) (.int .i64 0))
  | [], t, h => by simp at h
  | x :: l, 0, _ => by simp [flatR, encR2]
  | x :: l, 1, _ => by simp [flatR, encR2]
  | x :: l, t + 2, h => by
    have ih := flatR_get l t (by simp at h; omega)
    rw [show flatR (x :: l) = .int .i64 x.f0 :: .int .i64 x.f1 :: flatR l by simp [flatR, encR2]]
    rw [List.getElem?_cons_succ, List.getElem?_cons_succ, ih, show (t + 2) / 2 = t / 2 + 1 by omega, show (t + 2) % 2 = t % 2 by omega, List.getD_cons_succ]
theorem flatK_get (l : List RR) (t : Nat) (h : t < l.length * 2) : (Sort.flatK encR2 2 l.toArray)[t]! = (encR2 (l.getD (t / 2) z52)).getD (t % 2) (.int .i64 0) := by
  rw [Sort.get_flatK _ _ _ _ (by simpa using h)]
  have h1 : t / 2 < l.length := by omega
  have h2 : t % 2 = 0 ∨ t % 2 = 1 := by omega
  have h3 : l.getD (t / 2) z52 = l[t / 2] := by simp [List.getD_eq_getElem?_getD, List.getElem?_eq_getElem h1]
  rw [getElem!_pos l.toArray (t / 2) (by simpa using h1), h3]
  rcases h2 with h2 | h2 <;> simp [h2, encR2]

theorem holdsR {w : World} {base g cap n : Nat} {l : List RR} (h : RowR w base (.slice (some ⟨g, 0, none⟩) n cap) l) : n = l.length ∧ g < w.heap.size ∧ base ≤ g ∧ Sort.HoldsK encR2 2 w g 0 l.toArray := by
  rcases h.2 with ⟨e0, _⟩ | ⟨g', cap', cur, e0, hb, hg, hn, hm, hs, ht⟩
  · cases e0
  · injection e0 with e1 e2 e3
    injection e1 with e1
    injection e1 with e1
    subst e1; subst e2; subst e3
    refine ⟨rfl, (Array.getElem?_eq_some_iff.1 hg).1, hb, fun j hj => ⟨?_, by simp [World.frozen?, hg]⟩⟩
    have hj' : j < l.length * 2 := by simpa using hj
    have e1 : (cur.toList.take (l.length * 2))[j]? = (flatR l)[j]? := by rw [ht]
    rw [List.getElem?_take, if_pos hj', Array.getElem?_toList, flatR_get l j hj'] at e1
    simp only [World.cell?, hg, Nat.zero_add, Option.isSome_none, Bool.false_eq_true, if_false]
    rw [e1, flatK_get l j hj']
    rfl

theorem rowR_put {w : World} {base g cap n q : Nat} {l l' : List RR} {os : Array Obj} (h : RowR w base (.slice (some ⟨g, 0, none⟩) n cap) l) (hl : l'.length = l.length) :
    RowR (sortWorldK encR2 2 w g 0 q l'.toArray os) base (.slice (some ⟨g, 0, none⟩) n cap) l' ∧ w.grownBy (sortWorldK encR2 2 w g 0 q l'.toArray os) (some g) := by
  rcases h.2 with ⟨e0, _⟩ | ⟨g', cap', cur, e0, hb, hg, hn, hm, hs, ht⟩
  · cases e0
  · injection e0 with e1 e2 e3
    injection e1 with e1
    injection e1 with e1
    subst e1; subst e2; subst e3
    have hgl : g < w.heap.size := (Array.getElem?_eq_some_iff.1 hg).1
    refine ⟨⟨flatR_len l', .inr ⟨g, cap, Sort.putCells id 0 (Sort.flatK encR2 2 l'.toArray) cur, by rw [hl], hb, ?_, by omega, hm, by simpa [Sort.putCells] using hs, ?_⟩⟩, ⟨rfl, rfl, rfl, by simp [sortWorldK, Sort.grow, Sort.putRowK, Sort.ahead], fun i hi hne => ?_⟩⟩
    · simp only [sortWorldK, Sort.grow]
      rw [Array.getElem?_append_left (by simp [Sort.putRowK, Sort.ahead]; exact hgl)]
      simp [Sort.putRowK, Sort.putRow, Sort.mapBlock, Sort.ahead, Array.getElem?_modify, hg, Sort.onCells]
    · apply List.ext_getElem?
      intro j
      rw [List.getElem?_take]
      by_cases hj : j < l'.length * 2
      · have hjc : j < cur.size := by omega
        rw [if_pos hj, flatR_get l' j hj, Array.getElem?_toList]
        simp only [Sort.putCells, Array.getElem?_mapIdx, Array.getElem?_eq_getElem hjc, Option.map_some]
        rw [if_pos (by simp; omega), Nat.sub_zero, flatK_get l' j hj]
        rfl
      · rw [if_neg hj, List.getElem?_eq_none (by rw [flatR_len]; omega)]
    · have hne' : g ≠ i := fun e => hne (by rw [e])
      simp only [sortWorldK, Sort.grow]
      rw [Array.getElem?_append_left (by simp [Sort.putRowK, Sort.ahead]; exact hi)]
      simp [Sort.putRowK, Sort.putRow, Sort.mapBlock, Sort.ahead, Array.getElem?_modify, hne']

theorem grow_two (W : World) (a b : Obj) : (W.alloc a).alloc b = Sort.grow (W.drewN 0) #[a, b] := by
  cases W
  simp only [World.alloc, Sort.grow, World.drewN]
  congr 1
set_option maxRecDepth 100000 in
set_option maxHeartbeats 4000000 in
theorem cpMake1_any (x y : RR) (W : World) : Calls Tryz.prog 70 #[.agg #[.int .i64 x.f0, .int .i64 x.f1], .agg #[.int .i64 y.f0, .int .i64 y.f1]] W fun e w' => e = .returned (.int .i64 (cmpI x.f0 y.f0)) ∧ ∃ q os', w' = Sort.grow (W.drewN q) os' := by
  have HC := Aside0.mk (cmpInt_any x.f0 y.f0)
  go_enter Tryz.func70, Tryz.ntmps70
  go_wp2_with fail
  refine (HC.out _).mono ?_
  rintro e w' ⟨rfl, rfl⟩
  go_wp2_with fail
  go_ret
  exact ⟨rfl, 0, _, grow_two _ _ _⟩

def cfR (x y : RR) : Int := cmpI x.f0 y.f0
theorem ltR (x y : RR) : ltOf cfR x y = decide (x.f0 < y.f0) := by
  rw [ltOf, cfR, cmpI, Bool.eq_iff_iff, decide_eq_true_eq, decide_eq_true_eq]
  split
  · simp_all
  · split <;> simp <;> omega
theorem swoR : Sort.SWO (ltOf cfR) where
  irrefl x := by rw [ltR]; simp
  trans x y z h1 h2 := by rw [ltR, decide_eq_true_eq] at *; omega
  ntrans x y z h1 h2 := by rw [ltR, decide_eq_false_iff_not] at *; omega
theorem aggR : ∀ w, (isAgg 52).run Tryz.prog w = .ok true w := fun w => by kernel_rfl
theorem sizeR : ∀ w, (Go.sizeOf 52).run Tryz.prog w = .ok 2 w := fun w => by kernel_rfl

/-- What the sort of a row of ranges leaves. -/
theorem sortR_any {w : World} {base : Nat} {v : Value} {l : List RR} (h : RowR w base v l) (hl : l.length ≤ 1000000) :
    Calls Tryz.prog 69 #[v, .func (.func 70) #[] #[]] w fun e w' => e = .returned (.tuple #[]) ∧ ∃ l', l'.Perm l ∧ l'.Pairwise (fun a b => a.f0 ≤ b.f0) ∧ RowR w' base v l' ∧ w.grownBy w' v.ownBlock := by
  rcases h.2 with ⟨rfl, h0⟩ | ⟨g, cap, cur, rfl, _⟩
  · have hn : l = [] := List.eq_nil_of_length_eq_zero h0
    subst hn
    exact (AnyF.slices_SortFunc_none Tryz.sortR none 0 _ w).mono fun e w' ⟨h1, h2⟩ => ⟨h1, [], .refl _, .nil, h2 ▸ h, h2 ▸ ⟨rfl, rfl, rfl, Nat.le_refl _, fun _ _ _ => rfl⟩⟩
  · obtain ⟨_, hg, hb, hH⟩ := holdsR h
    have eg : ∀ args w, (callFunc 70 args).run Tryz.prog w = .ok (.enter 70 args) w := enters_of Tryz.func70 (by kernel_rfl) rfl
    have hc := AnyQ.slices_SortFunc Tryz.sortR 2 aggR sizeR encR2 (fun _ => rfl) (fun x v hv => by simp [encR2] at hv; rcases hv with rfl | rfl <;> rfl) cfR swoR 70 #[] g 0 cap l.toArray w eg (fun m os dk _ x y => cpMake1_any x y _) hH hg (by simp; omega)
    refine hc.mono ?_
    rintro e w' ⟨h1, d', n, os, hp, hs, rfl⟩
    have hsz : d'.toList.length = l.length := by have := hp.1; simpa using this
    have hpm : d'.toList.Perm l := by
      have h3 := hp.2.2
      have e1 : (d'.extract 0 l.toArray.size) = d' := by rw [← hp.1]; simp
      have e2 : (l.toArray.extract 0 l.toArray.size) = l.toArray := by simp
      rw [e1, e2] at h3
      simpa using h3
    have hr := rowR_put (q := n) (os := os) (l' := d'.toList) h hsz
    rw [show d'.toList.toArray = d' by simp] at hr
    refine ⟨h1, d'.toList, hpm, ?_, hr.1, hr.2⟩
    rw [List.pairwise_iff_getElem]
    intro i j hi hj hij
    have h4 := hs i j (Nat.zero_le _) hij (by simpa using (hsz ▸ hj))
    rw [ltR, decide_eq_false_iff_not] at h4
    rw [getElem!_pos d' i (by simpa using hi), getElem!_pos d' j (by simpa using hj)] at h4
    simpa using h4
end Go.Proofs.YtipedgkampafjaaGreatDoor.Rf
/- Tells what cpset.Make makes. -/
namespace Go.Proofs.YtipedgkampafjaaGreatDoor.Rf
open Go.Shelf Go.RowKit Go.Proofs.YtipedgkampafjaaGreatDoorW.PrintWords Go.Proofs.YtipedgkampafjaaGreatDoorW.PrintLast Go.Proofs.YtipedgkampafjaaGreatDoorW.PrintMore

/-- A range is joined to those before it. -/
def stepR (out : List RR) (r : RR) : List RR :=
  match out.getLast? with
  | some z => if r.f0 ≤ z.f1 + 1 then out.dropLast ++ [⟨z.f0, mx z.f1 r.f1⟩] else out ++ [r]
  | none => [r]
def joinR (l : List RR) : List RR := l.foldl stepR []
theorem joinR_snoc (l : List RR) (x : RR) : joinR (l ++ [x]) = stepR (joinR l) x := by simp [joinR, List.foldl_append]
theorem stepR_len (out : List RR) (r : RR) : (stepR out r).length ≤ out.length + 1 := by
  unfold stepR
  split
  · split
    · simp
    · simp
  · simp
theorem joinR_len (l : List RR) : (joinR l).length ≤ l.length := by
  suffices ∀ (l : List RR) (o : List RR), (l.foldl stepR o).length ≤ o.length + l.length by simpa [joinR] using this l []
  intro l
  induction l with
  | nil => intro o; simp
  | cons x l ih => intro o; have h1 := ih (stepR o x); have h2 := stepR_len o x; simp only [List.foldl_cons, List.length_cons]; omega

theorem rowR_C {w : World} {base : Nat} {v : Value} {l : List RR} (h : RowR w base v l) (hl : l.length ≤ 1000000) : ∃ A cap, v = .slice A l.length cap ∧ l.length ≤ cap ∧ Kd.C k52 w A l.length l := by
  rcases h.2 with ⟨rfl, h0⟩ | ⟨g, cap, cur, rfl, hb, hg, hn, hm, hs, ht⟩
  · have : l = [] := List.eq_nil_of_length_eq_zero h0
    subst this
    exact ⟨none, 0, rfl, Nat.le_refl _, Kd.C_nil _ _⟩
  · refine ⟨_, _, rfl, hn, rfl, by omega, fun _ => ⟨⟨g, 0, none⟩, rfl, fun j p hj => ⟨encR2 p, rfl, k52_mk w p, fun i u hu => ?_⟩⟩⟩
    have hjl : j < l.length := (List.getElem?_eq_some_iff.1 hj).1
    have hi : i < 2 := (List.getElem?_eq_some_iff.1 hu).1
    have e1 : (cur.toList.take (l.length * 2))[j * 2 + i]? = (flatR l)[j * 2 + i]? := by rw [ht]
    rw [List.getElem?_take, if_pos (by omega), Array.getElem?_toList, flatR_get l _ (by omega), show (j * 2 + i) / 2 = j by omega, show (j * 2 + i) % 2 = i by omega] at e1
    have hz : Kd.sz k52 = 2 := rfl
    rw [hz]
    simp only [Addr.add_lit]
    simp only [World.cell?, hg, Nat.zero_add, Option.isSome_none, Bool.false_eq_true, if_false]
    have hg2 : l.getD j z52 = p := by rw [List.getD_eq_getElem?_getD, hj]; rfl
    rw [e1, hg2, List.getD_eq_getElem?_getD, hu]
    rfl

theorem rowR_set {w : World} {base g cap n : Nat} {l : List RR} {z : RR} (h : RowR w base (.slice (some ⟨g, 0, none⟩) n cap) (l ++ [z])) (y : Int) :
    RowR (w.setCell ⟨g, l.length * 2 + 1, none⟩ (.int .i64 y)) base (.slice (some ⟨g, 0, none⟩) n cap) (l ++ [⟨z.f0, y⟩]) ∧ w.grownBy (w.setCell ⟨g, l.length * 2 + 1, none⟩ (.int .i64 y)) (some g) := by
  rcases h.2 with ⟨e0, _⟩ | ⟨g', cap', cur, e0, hb, hg, hn, hm, hs, ht⟩
  · cases e0
  · injection e0 with e1 e2 e3
    injection e1 with e1
    injection e1 with e1
    subst e1; subst e2; subst e3
    have hgl : g < w.heap.size := (Array.getElem?_eq_some_iff.1 hg).1
    have hlen : (l ++ [z]).length = l.length + 1 := by simp
    rw [hlen] at hn ht
    refine ⟨⟨flatR_len _, .inr ⟨g, cap, cur.setIfInBounds (l.length * 2 + 1) (.int .i64 y), by simp, hb, ?_, by simp; omega, hm, by simpa using hs, ?_⟩⟩, ⟨rfl, rfl, rfl, by simp [World.setCell], fun i hi hne => Below.heap_setCell _ _ _ _ (fun e => hne (by rw [e]))⟩⟩
    · rw [Sort.setCell_eq]
      simp [Sort.mapBlock, Array.getElem?_modify, hg, Sort.onCells]
    · rw [show (l ++ [(⟨z.f0, y⟩ : RR)]).length = l.length + 1 by simp, Array.toList_setIfInBounds, List.take_set, ht]
      have e1 : flatR (l ++ [z]) = flatR l ++ [.int .i64 z.f0, .int .i64 z.f1] := by simp [flatR, encR2]
      have e2 : flatR (l ++ [(⟨z.f0, y⟩ : RR)]) = flatR l ++ [.int .i64 z.f0, .int .i64 y] := by simp [flatR, encR2]
      rw [e1, e2, List.set_append_right _ _ (by rw [flatR_len]; omega), flatR_len, show l.length * 2 + 1 - l.length * 2 = 1 by omega]
      rfl
end Go.Proofs.YtipedgkampafjaaGreatDoor.Rf
/- Tells what the reference's Valid, hangul and Check (of classes) compute. -/
namespace Go.Proofs.YtipedgkampafjaaGreatDoor.Rf
open Go.Shelf Go.RowKit Go.Proofs.YtipedgkampafjaaGreatDoorW.PrintWords Go.Proofs.YtipedgkampafjaaGreatDoorW.PrintLast Go.Proofs.YtipedgkampafjaaGreatDoorW.PrintMore

/-- A number is a code point. -/
def okC (c : Int) : Bool := decide (0 ≤ c) && decide (c ≤ 1114111)
theorem okC_true {c : Int} : okC c = true ↔ 0 ≤ c ∧ c ≤ 1114111 := by simp [okC]
theorem okC_false {c : Int} : okC c = false ↔ c < 0 ∨ 1114111 < c := by
  rw [← Bool.not_eq_true, okC_true]; omega
set_option maxRecDepth 100000 in
theorem refValid_any (c : Int) (w : World) : Calls Tryz.prog 46 #[.int .i64 c] w fun e w' => e = .returned (.bool (okC c)) ∧ w' = w := by
  have HK := Lib.hid (show okC c = (decide (0 ≤ c) && decide (c ≤ 1114111)) from rfl)
  generalize okC c = r at HK
  cases h0 : decide (0 ≤ c) with
  | true =>
    cases h1 : decide (c ≤ 1114111) with
    | true =>
      rw [h0, h1] at HK
      go_enter Tryz.func46, Tryz.ntmps46
      go_wp2_with fail
      go_ret
      exact ⟨ret_bool HK.out.symm, rfl⟩
    | false =>
      rw [h0, h1] at HK
      go_enter Tryz.func46, Tryz.ntmps46
      go_wp2_with fail
      go_ret
      exact ⟨ret_bool HK.out.symm, rfl⟩
  | false =>
    rw [h0, Bool.false_and] at HK
    go_enter Tryz.func46, Tryz.ntmps46
    go_wp2_with fail
    go_ret
    exact ⟨ret_bool HK.out.symm, rfl⟩

theorem alloc_new (w : World) (o : Obj) : (w.alloc o).heap[w.heap.size]? = some o := by
  show (w.heap.push o)[w.heap.size]? = _
  simp
/-- The ranges of Hangul. -/
def hgL : List S52 := [⟨4352, 4370⟩, ⟨4449, 4469⟩, ⟨4520, 4546⟩, ⟨44032, 55203⟩]
set_option maxRecDepth 100000 in
set_option maxHeartbeats 4000000 in
theorem refHangul_any (w : World) : Calls Tryz.prog 65 #[] w fun e w' => (∃ A, e = .returned (.slice A 4 4) ∧ Kd.C k52 w' A 4 hgL) ∧ Below w.heap.size w w' := by
  go_enter Tryz.func65, Tryz.ntmps65
  go_wp2_with fail
  go_ret
  have hrow : RowR (w.alloc (.cells #[.int .i64 4352, .int .i64 4370, .int .i64 4449, .int .i64 4469, .int .i64 4520, .int .i64 4546, .int .i64 44032, .int .i64 55203] 52)) w.heap.size (.slice (some ⟨w.heap.size, 0, none⟩) hgL.length 4) hgL :=
    ⟨flatR_len _, .inr ⟨w.heap.size, 4, _, rfl, Nat.le_refl _, alloc_new w _, Nat.le_refl _, by simp [maxLen], rfl, rfl⟩⟩
  obtain ⟨A, cap, e, _, hC⟩ := rowR_C hrow (by decide)
  injection e with e1 e2 e3
  subst e1
  exact ⟨⟨_, rfl, hC⟩, below_alloc (Below.refl _ _) _⟩
end Go.Proofs.YtipedgkampafjaaGreatDoor.Rf
/- Tells what the reference's checks of mappings compute, part by part. -/
namespace Go.Proofs.YtipedgkampafjaaGreatDoor.Rf
open Go.Shelf Go.RowKit Go.Proofs.YtipedgkampafjaaGreatDoorW.PrintWords Go.Proofs.YtipedgkampafjaaGreatDoorW.PrintLast Go.Proofs.YtipedgkampafjaaGreatDoorW.PrintMore

theorem nameCh_iff (n : Nat) : nameCh n = true ↔ (65 ≤ n ∧ n ≤ 90) ∨ (97 ≤ n ∧ n ≤ 122) ∨ (48 ≤ n ∧ n ≤ 57) ∨ n = 95 := by
  unfold nameCh
  simp only [Bool.or_eq_true, Bool.and_eq_true, decide_eq_true_eq, beq_iff_eq]
  omega
set_option maxRecDepth 100000 in
set_option maxHeartbeats 4000000 in
theorem refName_any (s : ByteArray) (w : World) (hs : s.size ≤ 1000000000000) : Calls Tryz.prog 89 #[.string s] w fun e w' => e = .returned (.bool (nameP s)) ∧ w' = w := by
  have HN := Aside0.mk (nameP_iff s)
  generalize nameP s = r at HN
  go_enter Tryz.func89, Tryz.ntmps89
  go_wp2_with fail
  go_loop [3] (fun v => ∃ i : Nat, v = .int .i64 i ∧ i ≤ s.size ∧ Aside0 (∀ j (h : j < s.size), j < i → nameCh (s[j]'h).toNat = true)) (fun v => s.size - (intOf v).toNat)
  case atStart => exact ⟨0, rfl, Nat.zero_le _, ⟨fun j _ h => by omega⟩⟩
  case round =>
    obtain ⟨i, rfl, hi, HA⟩ := hrel
    by_cases hlt : i < s.size
    · have hltz : (i : Int) < (s.size : Int) := by omega
      go_wp2_with fail
      all_goals first
        | (have hb : nameCh (s[i]'hlt).toNat = false := (by rw [← Bool.not_eq_true, nameCh_iff]; clear HN HA; first | omega | (simp at *; omega))
           go_ret
           exact ⟨ret_bool (by
             cases r with
             | false => rfl
             | true => have := (HN.out.1 rfl).2.2 i hlt; rw [hb] at this; cases this), rfl⟩)
        | (have hb : nameCh (s[i]'hlt).toNat = true := (by rw [nameCh_iff]; clear HN HA; first | omega | (simp at *; omega))
           go_round
           case rel => exact ⟨i + 1, by go_num, by omega, ⟨fun j h hj => by
             by_cases e : j = i
             · subst e; exact hb
             · exact HA.out j h (by omega)⟩⟩
           case measure => simp [intOf]; omega)
    · have hltz : ¬ (i : Int) < (s.size : Int) := by omega
      have HAll : Aside0 (∀ j (h : j < s.size), nameCh (s[j]'h).toNat = true) := ⟨fun j h => HA.out j h (by omega)⟩
      have HR : Aside0 (r = true ↔ 1 ≤ s.size ∧ s.size ≤ 32) := ⟨by rw [HN.out]; exact ⟨fun h => ⟨h.1, h.2.1⟩, fun h => ⟨h.1, h.2, HAll.out⟩⟩⟩
      clear HN HA HAll
      by_cases h1 : 1 ≤ s.size
      · have h1d : decide (1 ≤ (s.size : Int)) = true := decide_eq_true (by omega)
        by_cases h2 : s.size ≤ 32
        · have h2d : decide ((s.size : Int) ≤ 32) = true := decide_eq_true (by omega)
          go_wp2_with fail
          go_ret
          exact ⟨ret_bool (HR.out.2 ⟨h1, h2⟩).symm, rfl⟩
        · have h2d : decide ((s.size : Int) ≤ 32) = false := decide_eq_false (by omega)
          go_wp2_with fail
          go_ret
          exact ⟨ret_bool (by cases r with | false => rfl | true => exact absurd (HR.out.1 rfl).2 h2), rfl⟩
      · have h1d : decide (1 ≤ (s.size : Int)) = false := decide_eq_false (by omega)
        go_wp2_with fail
        go_ret
        exact ⟨ret_bool (by cases r with | false => rfl | true => exact absurd (HR.out.1 rfl).1 h1), rfl⟩

set_option maxRecDepth 100000 in
set_option maxHeartbeats 8000000 in
theorem refCodes_any (x : S61) (A : Option Addr) (c : Nat) (w : World) (hr : Kd.C (Kd.int .i64) w A x.f1.length x.f1) (hl : x.f1.length ≤ 1000000000) :
    Calls Tryz.prog 88 #[.agg #[.int .i64 x.f0, .slice A x.f1.length c, .string x.f2]] w fun e w' => e = .returned (.bool (!badCodes x)) ∧ Below w.heap.size w w' := by
  have HC := Aside0.mk (show badCodes x = (!okC x.f0 || !x.f1.all okC) from rfl)
  have HR := Aside0.mk hr
  have hb0 : Below w.heap.size w (w.alloc (.cells #[.int .i64 x.f0, .slice A x.f1.length c, .string x.f2] 61)) := below_alloc (Below.refl _ _) _
  have hx0 : (w.alloc (.cells #[.int .i64 x.f0, .slice A x.f1.length c, .string x.f2] 61)).cell? ⟨w.heap.size, 0, none⟩ = some (.int .i64 x.f0) := by simp
  have hx1 : (w.alloc (.cells #[.int .i64 x.f0, .slice A x.f1.length c, .string x.f2] 61)).cell? ⟨w.heap.size, 1, none⟩ = some (.slice A x.f1.length c) := by simp
  have HRb := Aside0.mk (Kd.C_below hr hb0)
  have HB := Aside0.mk hb0
  clear hr hb0
  generalize badCodes x = r at HC
  go_enter Tryz.func88, Tryz.ntmps88
  go_wp2_with fail
  generalize w.alloc (.cells #[.int .i64 x.f0, .slice A x.f1.length c, .string x.f2] 61) = w1 at hx0 hx1 HRb HB ⊢
  go_loop [3] (fun v => ∃ i : Nat, v = .int .i64 i ∧ i ≤ x.f1.length ∧ Aside0 ((x.f1.take i).all okC = true)) (fun v => x.f1.length - (intOf v).toNat)
  case atStart => exact ⟨0, rfl, Nat.zero_le _, ⟨rfl⟩⟩
  case round =>
    obtain ⟨i, rfl, hi, HA⟩ := hrel
    by_cases hlt : i < x.f1.length
    · have hltz : (i : Int) < (x.f1.length : Int) := by omega
      obtain ⟨ad, e, hy⟩ := ReadsInt.at_ (ReadsInt.of_C HRb.out) i (by omega) (by omega)
      subst e
      simp only [Int.toNat_natCast] at hy
      have hrd : rd x.f1 (i : Int) = x.f1.getD i 0 := by rw [rd, Int.toNat_natCast]
      rw [hrd] at hy
      have HT : Aside0 ((x.f1.take (i + 1)).all okC = okC (x.f1.getD i 0)) := ⟨by
        rw [List.take_succ_eq_append_getElem hlt, List.all_append, HA.out, List.getD_eq_getElem?_getD, List.getElem?_eq_getElem hlt]; simp⟩
      have HM : Aside0 (x.f1.all okC = true → okC (x.f1.getD i 0) = true) := ⟨fun h => by
        rw [List.getD_eq_getElem?_getD, List.getElem?_eq_getElem hlt]
        exact List.all_eq_true.1 h _ (List.getElem_mem hlt)⟩
      clear hrd
      generalize x.f1.getD i 0 = y at hy HT HM
      cases hok : okC y with
      | true =>
        have HOk := Aside0.mk hok
        go_wp2_with (go_at_call 46; refine (refValid_any _ _).mono ?_; rintro e w' ⟨rfl, rfl⟩)
        go_round
        case rel => exact ⟨i + 1, by first | rfl | go_num, by omega, ⟨by rw [HT.out, HOk.out]⟩⟩
        case measure => simp [intOf]; omega
      | false =>
        have HOk := Aside0.mk hok
        go_wp2_with (go_at_call 46; refine (refValid_any _ _).mono ?_; rintro e w' ⟨rfl, rfl⟩)
        go_ret
        refine ⟨ret_bool ?_, HB.out⟩
        rw [HC.out]
        cases ha : x.f1.all okC with
        | false => simp
        | true => have := HM.out ha; rw [HOk.out] at this; cases this
    · have hltz : ¬ (i : Int) < (x.f1.length : Int) := by omega
      have HAll : Aside0 (x.f1.all okC = true) := ⟨by have := HA.out; rwa [List.take_of_length_le (by omega)] at this⟩
      go_wp2_with (go_at_call 46; refine (refValid_any _ _).mono ?_; rintro e w' ⟨rfl, rfl⟩)
      go_ret
      refine ⟨ret_bool ?_, HB.out⟩
      rw [HC.out, HAll.out]
      cases okC x.f0 <;> rfl

/-- One mapping comes before another. -/
theorem ltMap_iff (a b : S61) : ltMap a b = (decide (a.f0 < b.f0) || ((a.f0 == b.f0) && Op.bytesLess a.f2.toList b.f2.toList)) := by
  unfold ltMap ordM
  rw [Lib.toList_data, Lib.toList_data, bytesLess_cmp]
  simp only [orI, cmpI, cmpS]
  by_cases h1 : a.f0 < b.f0
  · simp [h1]
  · by_cases h2 : b.f0 < a.f0
    · have h3 : ¬ a.f0 = b.f0 := by omega
      simp [h1, h2, h3]
    · have h3 : a.f0 = b.f0 := by omega
      simp only [h3]
      by_cases h4 : Lib.compareBytes a.f2.data.toList b.f2.data.toList = 0
      · simp [h4]
      · simp [h4]
set_option maxRecDepth 100000 in
set_option maxHeartbeats 8000000 in
theorem refBefore_any (x y : S61) (A1 A2 : Option Addr) (c1 c2 n1 n2 : Nat) (w : World) :
    Calls Tryz.prog 67 #[.agg #[.int .i64 x.f0, .slice A1 n1 c1, .string x.f2], .agg #[.int .i64 y.f0, .slice A2 n2 c2, .string y.f2]] w fun e w' => e = .returned (.bool (ltMap x y)) ∧ Below w.heap.size w w' := by
  have HC := Aside0.mk (ltMap_iff x y)
  generalize ltMap x y = r at HC
  cases h1 : decide (x.f0 < y.f0) <;> cases h2 : (x.f0 == y.f0) <;> cases h3 : Op.bytesLess x.f2.toList y.f2.toList
  all_goals
    rw [h1, h2, h3] at HC
    go_enter Tryz.func67, Tryz.ntmps67
    go_wp2_with fail
    go_ret
    exact ⟨ret_bool HC.out.symm, by repeat (first | exact Below.refl _ _ | apply below_alloc)⟩
end Go.Proofs.YtipedgkampafjaaGreatDoor.Rf
/- Tells that the reference's Check of mappings is the program's. -/
namespace Go.Proofs.YtipedgkampafjaaGreatDoor.Rf
open Go.Shelf Go.RowKit Go.Sort Go.Proofs.YtipedgkampafjaaGreatDoorW.PrintWords Go.Proofs.YtipedgkampafjaaGreatDoorW.PrintLast Go.Proofs.YtipedgkampafjaaGreatDoorW.PrintMore

theorem twice_iff {α : Type} [DecidableEq α] (d : α) : ∀ (l : List α), twice l = true ↔ ∃ i k, k < i ∧ i < l.length ∧ l.getD i d = l.getD k d
  | [] => by simp [twice]
  | x :: l => by
    rw [twice, Bool.or_eq_true, hasB_iff, twice_iff d l]
    constructor
    · rintro (h | ⟨i, k, h1, h2, h3⟩)
      · obtain ⟨i, hi, e⟩ := List.mem_iff_getElem.1 h
        exact ⟨i + 1, 0, by omega, by simp; omega, by simp [List.getD_eq_getElem?_getD, hi, e]⟩
      · exact ⟨i + 1, k + 1, by omega, by simp; omega, by simpa using h3⟩
    · rintro ⟨i, k, h1, h2, h3⟩
      cases i with
      | zero => omega
      | succ i =>
        cases k with
        | zero =>
          left
          have hi : i < l.length := by simpa using h2
          simp [List.getD_eq_getElem?_getD, hi] at h3
          rw [← h3]; exact List.getElem_mem hi
        | succ k => exact .inr ⟨i, k, by omega, by simpa using h2, by simpa using h3⟩
theorem getD_keys (xs : List S61) (i : Nat) (h : i < xs.length) : (xs.map keyM).getD i (keyM z61) = keyM (xs.getD i z61) := by
  simp [List.getD_eq_getElem?_getD, h]

set_option maxRecDepth 100000 in
set_option maxHeartbeats 16000000 in
theorem refTwice_any (A : Option Addr) (c : Nat) (xs : List S61) (w : World) (hr : Kd.C k61 w A xs.length xs) (hl : xs.length ≤ 1000000000) :
    Calls Tryz.prog 90 #[.slice A xs.length c] w fun e w' => e = .returned (.bool (twice (xs.map keyM))) ∧ Below w.heap.size w w' := by
  have HR := Aside0.mk hr
  have HT := Aside0.mk (twice_iff (keyM z61) (xs.map keyM))
  generalize twice (xs.map keyM) = r at HT
  clear hr
  go_enter Tryz.func90, Tryz.ntmps90
  go_wp2_with fail
  go_loopw [3] (fun v wr => ∃ i : Nat, v = .int .i64 i ∧ i ≤ xs.length ∧ Aside0 (∀ j k, k < j → j < i → keyM (xs.getD j z61) ≠ keyM (xs.getD k z61)) ∧ Aside0 (Below w.heap.size w wr)) (fun v _ => xs.length - (intOf v).toNat)
  case atStart => exact ⟨0, rfl, Nat.zero_le _, ⟨fun j k _ h => by omega⟩, ⟨Below.refl _ _⟩⟩
  case round =>
    obtain ⟨i, rfl, hi, HA, HB⟩ := hrel
    by_cases hlt : i < xs.length
    · have hltz : (i : Int) < (xs.length : Int) := by omega
      go_wp2_with fail
      go_loopw [4] (fun v wr => ∃ k : Nat, v = .int .i64 k ∧ k ≤ i ∧ Aside0 (∀ j, j < k → keyM (xs.getD i z61) ≠ keyM (xs.getD j z61)) ∧ Aside0 (Below w.heap.size w wr)) (fun v _ => i - (intOf v).toNat)
      case atStart => exact ⟨0, rfl, Nat.zero_le _, ⟨fun j h => by omega⟩, HB⟩
      case round =>
        clear HB
        obtain ⟨k, rfl, hk, HK, HB⟩ := hrel
        by_cases hki : k < i
        · have hkz : (k : Int) < (i : Int) := by omega
          have hkz2 : (k : Int) < (xs.length : Int) := by omega
          obtain ⟨ad, A1, c1, e, hx0, hx1, hx2, hl1, hi1⟩ := at_T61 (Kd.C_below HR.out HB.out) (i : Int) (by omega) (by omega)
          obtain ⟨ad', A2, c2, e', hy0, hy1, hy2, hl2, hi2⟩ := at_T61 (Kd.C_below HR.out HB.out) (k : Int) (by omega) (by omega)
          subst e
          cases e'
          clear hl1 hi1 hl2 hi2
          simp only [Int.toNat_natCast] at hx0 hx1 hx2 hy0 hy1 hy2
          have HX : Aside0 (rd_T61 xs i = xs.getD i z61) := ⟨by simp [rd_T61]⟩
          have HY : Aside0 (rd_T61 xs k = xs.getD k z61) := ⟨by simp [rd_T61]⟩
          generalize rd_T61 xs i = x at hx0 hx1 hx2 HX
          generalize rd_T61 xs k = y at hy0 hy1 hy2 HY
          have HE : Aside0 (keyM x = keyM y ↔ (x.f0 == y.f0) = true ∧ (x.f2.toList == y.f2.toList) = true) := ⟨by
            simp only [keyM, Prod.mk.injEq, beq_iff_eq]
            constructor
            · rintro ⟨h1, h2⟩; exact ⟨h1, by rw [h2]⟩
            · rintro ⟨h1, h2⟩
              refine ⟨h1, ?_⟩
              rw [Lib.toList_data, Lib.toList_data] at h2
              have : x.f2.data = y.f2.data := Array.toList_inj.1 h2
              cases hx : x.f2; cases hy : y.f2; rw [hx, hy] at this; simp only at this; rw [this]⟩
          have next : Aside0 (keyM x ≠ keyM y → ∀ j, j < k + 1 → keyM (xs.getD i z61) ≠ keyM (xs.getD j z61)) := ⟨fun h j hj => by
            by_cases e : j = k
            · rw [e, ← HX.out, ← HY.out]; exact h
            · exact HK.out j (by omega)⟩
          cases g1 : (x.f0 == y.f0) with
          | true =>
            cases g2 : (x.f2.toList == y.f2.toList) with
            | true =>
              have HY2 : Aside0 (r = true) := ⟨HT.out.2 ⟨i, k, hki, by simpa using hlt, by rw [getD_keys xs i hlt, getD_keys xs k (by omega), ← HX.out, ← HY.out]; exact HE.out.2 ⟨g1, g2⟩⟩⟩
              go_wp2_with fail
              go_quiet (fail)
              go_wp2_with fail
              go_ret
              exact ⟨ret_bool HY2.out.symm, pw_below_drewN HB.out _⟩
            | false =>
              have HNx := Aside0.mk (next.out (by rw [Ne, HE.out]; simp [g2]))
              clear next HE
              go_wp2_with fail
              go_quiet (fail)
              go_wp2_with fail
              go_roundw
              case rel => exact ⟨k + 1, by first | rfl | go_num, by omega, HNx, ⟨pw_below_drewN HB.out _⟩⟩
              case measure => simp [intOf]; omega
          | false =>
            have HNx := Aside0.mk (next.out (by rw [Ne, HE.out]; simp [g1]))
            clear next HE
            go_wp2_with fail
            go_quiet (fail)
            go_wp2_with fail
            go_roundw
            case rel => exact ⟨k + 1, by first | rfl | go_num, by omega, HNx, ⟨pw_below_drewN HB.out _⟩⟩
            case measure => simp [intOf]; omega
        · have hkz : ¬ (k : Int) < (i : Int) := by omega
          have HNx : Aside0 (∀ j k, k < j → j < i + 1 → keyM (xs.getD j z61) ≠ keyM (xs.getD k z61)) := ⟨fun j k' h1 h2 => by
            by_cases e : j = i
            · rw [e]; exact HK.out k' (by omega)
            · exact HA.out j k' h1 (by omega)⟩
          go_wp2_with fail
          go_roundw
          case rel => exact ⟨i + 1, by first | rfl | go_num, by omega, HNx, HB⟩
          case measure => simp [intOf]; omega
    · have hltz : ¬ (i : Int) < (xs.length : Int) := by omega
      have HF : Aside0 (r = false) := ⟨by
        rw [← Bool.not_eq_true, HT.out]
        rintro ⟨j, k, h1, h2, h3⟩
        have h2' : j < xs.length := by simpa using h2
        rw [getD_keys xs j h2', getD_keys xs k (by omega)] at h3
        exact HA.out j k h1 (by omega) h3⟩
      go_wp2_with fail
      go_ret
      exact ⟨ret_bool HF.out.symm, HB.out⟩

set_option maxRecDepth 100000 in
set_option maxHeartbeats 16000000 in
theorem refUnsorted_any (A : Option Addr) (c : Nat) (xs : List S61) (w : World) (hr : Kd.C k61 w A xs.length xs) (hl : xs.length ≤ 1000000000) (hsm : ∀ x ∈ xs, x.f1.length ≤ 1000000000 ∧ x.f2.size ≤ 1000000000) :
    Calls Tryz.prog 66 #[.slice A xs.length c] w fun e w' => e = .returned (.int .i64 (mapChk xs)) ∧ Below w.heap.size w w' := by
  have HR := Aside0.mk hr
  have HM := Aside0.mk (show mapChk xs = if xs.any badCodes then 1 else if xs.any badSize then 2 else if xs.any badName then 6 else if twice (xs.map keyM) then 5 else 0 from rfl)
  have HSm : Aside0 (∀ i, i < xs.length → (xs.getD i z61).f1.length ≤ 1000000000 ∧ (xs.getD i z61).f2.size ≤ 1000000000) := ⟨fun i hi => hsm _ (getD_mem xs z61 i hi)⟩
  generalize mapChk xs = r at HM
  clear hr hsm
  go_enter Tryz.func66, Tryz.ntmps66
  go_wp2_with fail
  go_loopw [3] (fun v wr => ∃ i : Nat, v = .int .i64 i ∧ i ≤ xs.length ∧ Aside0 ((xs.take i).any badCodes = false) ∧ Aside0 (Below w.heap.size w wr)) (fun v _ => xs.length - (intOf v).toNat)
  case atStart => exact ⟨0, rfl, Nat.zero_le _, ⟨rfl⟩, ⟨Below.refl _ _⟩⟩
  case round =>
    obtain ⟨i, rfl, hi, HA, HB⟩ := hrel
    by_cases hlt : i < xs.length
    · have hltz : (i : Int) < (xs.length : Int) := by omega
      obtain ⟨ad, A1, c1, e, hx0, hx1, hx2, hl1, hi1⟩ := at_T61 (Kd.C_below HR.out HB.out) (i : Int) (by omega) (by omega)
      subst e
      simp only [Int.toNat_natCast] at hx0 hx1 hx2
      have HX : Aside0 (rd_T61 xs i = xs.getD i z61) := ⟨by simp [rd_T61]⟩
      have HS := Aside0.mk (HSm.out i hlt)
      rw [← HX.out] at HS
      generalize rd_T61 xs i = x at hx0 hx1 hx2 HX HS hl1 hi1
      have HCo := Aside0.mk (refCodes_any x A1 c1 wr hi1 HS.out.1)
      clear hl1 hi1
      cases hb : badCodes x with
      | true =>
        rw [hb] at HCo
        have HBd : Aside0 (xs.any badCodes = true) := ⟨any_of_take badCodes xs z61 i hlt (by rw [← HX.out]; exact hb)⟩
        clear hb
        go_wp2_with fail
        refine HCo.out.mono ?_
        rintro e w' ⟨rfl, hb1⟩
        go_wp2_with fail
        go_ret
        exact ⟨ret_int (by rw [HM.out, if_pos HBd.out]), below_step HB.out hb1⟩
      | false =>
        rw [hb] at HCo
        have HBd := Aside0.mk (any_take_succ badCodes xs z61 i hlt HA.out (by rw [← HX.out]; exact hb))
        clear hb
        go_wp2_with fail
        refine HCo.out.mono ?_
        rintro e w' ⟨rfl, hb1⟩
        have HB1 := Aside0.mk (below_step HB.out hb1)
        clear hb1
        go_wp2_with fail
        go_roundw
        case rel => exact ⟨i + 1, by first | rfl | go_num, by omega, HBd, HB1⟩
        case measure => simp [intOf]; omega
    · have hltz : ¬ (i : Int) < (xs.length : Int) := by omega
      have HN1 := Aside0.mk (any_full badCodes xs i hlt HA.out)
      clear HA
      go_wp2_with fail
      clear hltz hlt hi
      go_loopw [4] (fun v wr => ∃ i : Nat, v = .int .i64 i ∧ i ≤ xs.length ∧ Aside0 ((xs.take i).any badSize = false) ∧ Aside0 (Below w.heap.size w wr)) (fun v _ => xs.length - (intOf v).toNat)
      case atStart => exact ⟨0, rfl, Nat.zero_le _, ⟨rfl⟩, HB⟩
      case round =>
        clear HB
        obtain ⟨i, rfl, hi, HA, HB⟩ := hrel
        by_cases hlt : i < xs.length
        · have hltz : (i : Int) < (xs.length : Int) := by omega
          obtain ⟨ad, A1, c1, e, hx0, hx1, hx2, hl1, hi1⟩ := at_T61 (Kd.C_below HR.out HB.out) (i : Int) (by omega) (by omega)
          subst e
          simp only [Int.toNat_natCast] at hx0 hx1 hx2
          have HX : Aside0 (rd_T61 xs i = xs.getD i z61) := ⟨by simp [rd_T61]⟩
          clear hl1 hi1
          generalize rd_T61 xs i = x at hx0 hx1 hx2 HX
          have HBs := Aside0.mk (show badSize x = decide ((64 : Int) < (x.f1.length : Int)) from rfl)
          by_cases hb : (64 : Int) < (x.f1.length : Int)
          · have HBd : Aside0 (xs.any badSize = true) := ⟨any_of_take badSize xs z61 i hlt (by rw [← HX.out, HBs.out]; simpa using hb)⟩
            go_wp2_with fail
            go_ret
            exact ⟨ret_int (by rw [HM.out, HN1.out, if_neg (by simp), if_pos HBd.out]), HB.out⟩
          · have HBd := Aside0.mk (any_take_succ badSize xs z61 i hlt HA.out (by rw [← HX.out, HBs.out]; simpa using hb))
            go_wp2_with fail
            go_roundw
            case rel => exact ⟨i + 1, by first | rfl | go_num, by omega, HBd, HB⟩
            case measure => simp [intOf]; omega
        · have hltz : ¬ (i : Int) < (xs.length : Int) := by omega
          have HN2 := Aside0.mk (any_full badSize xs i hlt HA.out)
          clear HA
          go_wp2_with fail
          clear hltz hlt hi
          go_loopw [5] (fun v wr => ∃ i : Nat, v = .int .i64 i ∧ i ≤ xs.length ∧ Aside0 ((xs.take i).any badName = false) ∧ Aside0 (Below w.heap.size w wr)) (fun v _ => xs.length - (intOf v).toNat)
          case atStart => exact ⟨0, rfl, Nat.zero_le _, ⟨rfl⟩, HB⟩
          case round =>
            clear HB
            obtain ⟨i, rfl, hi, HA, HB⟩ := hrel
            by_cases hlt : i < xs.length
            · have hltz : (i : Int) < (xs.length : Int) := by omega
              obtain ⟨ad, A1, c1, e, hx0, hx1, hx2, hl1, hi1⟩ := at_T61 (Kd.C_below HR.out HB.out) (i : Int) (by omega) (by omega)
              subst e
              simp only [Int.toNat_natCast] at hx0 hx1 hx2
              have HX : Aside0 (rd_T61 xs i = xs.getD i z61) := ⟨by simp [rd_T61]⟩
              have HS := Aside0.mk (HSm.out i hlt)
              rw [← HX.out] at HS
              clear hl1 hi1
              generalize rd_T61 xs i = x at hx0 hx1 hx2 HX HS
              have HBs := Aside0.mk (show badName x = (!x.f2.toList.isEmpty && !nameP x.f2) from rfl)
              have HNm := Aside0.mk (fun w => refName_any x.f2 w (by have := HS.out.2; omega))
              generalize nameP x.f2 = nm at HBs HNm
              cases he : x.f2.toList.isEmpty with
              | true =>
                have hne : (!x.f2.toList.isEmpty) = false := by rw [he]; rfl
                have HBd := Aside0.mk (any_take_succ badName xs z61 i hlt HA.out (by rw [← HX.out, HBs.out, hne]; rfl))
                go_wp2_with fail
                go_roundw
                case rel => exact ⟨i + 1, by first | rfl | go_num, by omega, HBd, HB⟩
                case measure => simp [intOf]; omega
              | false =>
                have hne : (!x.f2.toList.isEmpty) = true := by rw [he]; rfl
                cases nm with
                | true =>
                  have HBd := Aside0.mk (any_take_succ badName xs z61 i hlt HA.out (by rw [← HX.out, HBs.out]; simp))
                  go_wp2_with fail
                  refine (HNm.out _).mono ?_
                  rintro e w' ⟨rfl, rfl⟩
                  go_wp2_with fail
                  go_roundw
                  case rel => exact ⟨i + 1, by first | rfl | go_num, by omega, HBd, HB⟩
                  case measure => simp [intOf]; omega
                | false =>
                  have HBd : Aside0 (xs.any badName = true) := ⟨any_of_take badName xs z61 i hlt (by rw [← HX.out, HBs.out, hne]; rfl)⟩
                  go_wp2_with fail
                  refine (HNm.out _).mono ?_
                  rintro e w' ⟨rfl, rfl⟩
                  go_wp2_with fail
                  go_ret
                  exact ⟨ret_int (by rw [HM.out, HN1.out, if_neg (by simp), HN2.out, if_neg (by simp), if_pos HBd.out]), HB.out⟩
            · have hltz : ¬ (i : Int) < (xs.length : Int) := by omega
              have HN3 := Aside0.mk (any_full badName xs i hlt HA.out)
              have HTw := Aside0.mk (refTwice_any A c xs wr (Kd.C_below HR.out HB.out) hl)
              clear HA
              generalize twice (xs.map keyM) = tw at HTw HM
              cases tw with
              | true =>
                go_wp2_with fail
                refine HTw.out.mono ?_
                rintro e w' ⟨rfl, hb1⟩
                go_wp2_with fail
                go_ret
                exact ⟨ret_int (by rw [HM.out, HN1.out, if_neg (by simp), HN2.out, if_neg (by simp), HN3.out, if_neg (by simp)]; simp), below_step HB.out hb1⟩
              | false =>
                go_wp2_with fail
                refine HTw.out.mono ?_
                rintro e w' ⟨rfl, hb1⟩
                go_wp2_with fail
                go_ret
                exact ⟨ret_int (by rw [HM.out, HN1.out, if_neg (by simp), HN2.out, if_neg (by simp), HN3.out, if_neg (by simp), if_neg (by simp)]), below_step HB.out hb1⟩

theorem bytesLess_swap : ∀ (a b : List UInt8), a ≠ b → (!Op.bytesLess a b) = Op.bytesLess b a
  | [], [], h => absurd rfl h
  | [], _ :: _, _ => rfl
  | _ :: _, [], _ => rfl
  | x :: a, y :: b, h => by
    simp only [Op.bytesLess]
    by_cases h1 : x < y
    · have h2 : ¬ y < x := fun h2 => absurd (UInt8.lt_trans h1 h2) (UInt8.lt_irrefl x)
      have h3 : ¬ y = x := fun e => by subst e; exact UInt8.lt_irrefl _ h1
      simp [h1, h2, h3]
    · by_cases h2 : y < x
      · have h3 : ¬ x = y := fun e => by subst e; exact UInt8.lt_irrefl _ h2
        simp [h1, h2, h3]
      · have h3 : x = y := UInt8.le_antisymm (UInt8.not_lt.1 h2) (UInt8.not_lt.1 h1)
        subst h3
        have ih := bytesLess_swap a b (fun e => h (by rw [e]))
        simp [h1, ih]
theorem ltMap_swap {a b : S61} (h : keyM a ≠ keyM b) : (!ltMap a b) = ltMap b a := by
  rw [ltMap_iff, ltMap_iff]
  by_cases h1 : a.f0 < b.f0
  · have h2 : ¬ b.f0 < a.f0 := by omega
    have h3 : ¬ b.f0 = a.f0 := by omega
    simp [h1, h2, h3]
  · by_cases h2 : b.f0 < a.f0
    · have h3 : ¬ a.f0 = b.f0 := by omega
      simp [h1, h2, h3]
    · have h3 : a.f0 = b.f0 := by omega
      have h4 : a.f2.toList ≠ b.f2.toList := fun e => h (by
        simp only [keyM, Prod.mk.injEq]
        refine ⟨h3, ?_⟩
        rw [Lib.toList_data, Lib.toList_data] at e
        have : a.f2.data = b.f2.data := Array.toList_inj.1 e
        cases hx : a.f2; cases hy : b.f2; rw [hx, hy] at this; simp only at this; rw [this])
      have h5 := bytesLess_swap _ _ h4
      simp [h3, ← h5]
theorem mapChk_keys {xs : List S61} (h : mapChk xs = 0) (i : Nat) (hi : i + 1 < xs.length) : keyM (xs.getD i z61) ≠ keyM (xs.getD (i + 1) z61) := by
  unfold mapChk at h
  cases h1 : xs.any badCodes with
  | true => simp [h1] at h
  | false =>
    cases h2 : xs.any badSize with
    | true => simp [h1, h2] at h
    | false =>
      cases h3 : xs.any badName with
      | true => simp [h1, h2, h3] at h
      | false =>
        cases h4 : twice (xs.map keyM) with
        | true => simp [h1, h2, h3, h4] at h
        | false =>
          intro e
          have : twice (xs.map keyM) = true := (twice_iff (keyM z61) _).2 ⟨i + 1, i, by omega, by simpa using hi, by rw [getD_keys xs (i + 1) hi, getD_keys xs i (by omega)]; exact e.symm⟩
          rw [h4] at this; cases this

set_option maxRecDepth 100000 in
set_option maxHeartbeats 16000000 in
theorem ref11Check_any (A : Option Addr) (c : Nat) (xs : List S61) (w : World) (hr : Kd.C k61 w A xs.length xs) (hl : xs.length ≤ 1000000000) (hsm : ∀ x ∈ xs, x.f1.length ≤ 1000000000 ∧ x.f2.size ≤ 1000000000) :
    Calls Tryz.prog 37 #[.slice A xs.length c] w fun e w' => e = .returned (.int .i64 (mapChkO xs)) ∧ Below w.heap.size w w' := by
  have HR := Aside0.mk hr
  have HC := Lib.hid (show mapChkO xs = if mapChk xs = 0 then (if sortedB ltMap xs then 0 else 4) else mapChk xs from rfl)
  have HU := Aside0.mk (refUnsorted_any A c xs w hr hl hsm)
  have hcs := mapChk_cases xs
  have HKe : Aside0 (mapChk xs = 0 → ∀ i, i + 1 < xs.length → keyM (xs.getD i z61) ≠ keyM (xs.getD (i + 1) z61)) := ⟨fun h i hi => mapChk_keys h i hi⟩
  generalize mapChkO xs = r at HC
  generalize mapChk xs = v at HC HU hcs HKe
  clear hr hsm
  by_cases hv : v = 0
  · subst hv
    rw [if_pos rfl] at HC
    go_enter Tryz.func37, Tryz.ntmps37
    go_wp2_with fail
    refine HU.out.mono ?_
    rintro e w1 ⟨rfl, hb1⟩
    have HB1 := Aside0.mk hb1
    clear hb1 hcs
    go_wp2_with fail
    go_loopw [4] (fun v wr => ∃ k : Nat, v = .int .i64 ((k : Int) + 1) ∧ (k = 0 ∨ k < xs.length) ∧ Aside0 (pairAny (fun a b => ltMap b a) (xs.take (k + 1)) = false) ∧ Aside0 (Below w.heap.size w wr)) (fun v _ => xs.length - (intOf v).toNat)
    case atStart => exact ⟨0, rfl, .inl rfl, ⟨pairAny_short _ _ (by simp; omega)⟩, HB1⟩
    case round =>
      clear HB1
      obtain ⟨k, rfl, hk, HA, HB⟩ := hrel
      by_cases hlt : k + 1 < xs.length
      · have hltz : (k : Int) + 1 < (xs.length : Int) := by omega
        have hkz : (k : Int) < (xs.length : Int) := by omega
        have hw : IntKind.i64.wrap (k : Int) = (k : Int) := IntWalk.i64_in _ (by omega)
        have ei : ((k : Int) + 1).toNat = k + 1 := by omega
        have p0 : (0 : Int) ≤ (k : Int) + 1 := by omega
        obtain ⟨ad, A1, c1, e, hx0, hx1, hx2, hl1, hi1⟩ := at_T61 (Kd.C_below HR.out HB.out) (k : Int) (by omega) (by omega)
        obtain ⟨ad', A2, c2, e', hy0, hy1, hy2, hl2, hi2⟩ := at_T61 (Kd.C_below HR.out HB.out) ((k : Int) + 1) (by omega) (by omega)
        subst e
        cases e'
        clear hl1 hi1 hl2 hi2
        simp only [ei, Int.toNat_natCast] at hx0 hx1 hx2 hy0 hy1 hy2
        have HX : Aside0 (rd_T61 xs k = xs.getD k z61) := ⟨by simp [rd_T61]⟩
        have HY : Aside0 (rd_T61 xs ((k : Int) + 1) = xs.getD (k + 1) z61) := ⟨by rw [rd_T61, ei]⟩
        have HT := Aside0.mk (pairAny_take (fun a b => ltMap b a) xs z61 (k + 1) (by omega) hlt)
        rw [HA.out, Bool.false_or, show k + 1 - 1 = k from rfl, ← HX.out, ← HY.out] at HT
        have HSw := Aside0.mk (ltMap_swap (HKe.out (by first | rfl | trivial) k hlt))
        rw [← HX.out, ← HY.out] at HSw
        generalize rd_T61 xs k = x at hx0 hx1 hx2 HX HT HSw
        generalize rd_T61 xs ((k : Int) + 1) = y at hy0 hy1 hy2 HY HT HSw
        have HBf := Aside0.mk (fun w => refBefore_any x y A1 A2 c1 c2 x.f1.length y.f1.length w)
        have kx0 := cell_regrown hx0
        have kx1 := cell_regrown hx1
        have kx2 := cell_regrown hx2
        have ky0 := cell_regrown hy0
        have ky1 := cell_regrown hy1
        have ky2 := cell_regrown hy2
        clear hx0 hx1 hx2 hy0 hy1 hy2
        cases hl : ltMap x y with
        | true =>
          have HF : Aside0 (pairAny (fun a b => ltMap b a) (xs.take (k + 1 + 1)) = false) := ⟨by rw [HT.out, ← HSw.out, hl]; rfl⟩
          rw [hl] at HBf
          clear hl HSw HT
          go_wp2_with fail
          refine wp_region_quiet_below (by kernel_rfl) (by kernel_rfl) ?_
          repeat (quiet_step (exact Calls.regrown_of (HBf.out _)))
          refine wpQuiet_nil ?_
          intro _ hw'
          obtain ⟨⟨dq, osq⟩, hw''⟩ := hw'
          subst hw''
          have HB2 : Aside0 (Below w.heap.size w (grow (redrawn wr dq) osq)) := ⟨below_step HB.out (below_regrown wr dq osq)⟩
          clear kx0 kx1 kx2 ky0 ky1 ky2
          go_wp2_with fail
          go_roundw
          case rel => exact ⟨k + 1, by first | rfl | go_num | (congr 1; omega), .inr hlt, HF, HB2⟩
          case measure => simp [intOf]; omega
        | false =>
          have HF : Aside0 (sortedB ltMap xs = false) := ⟨by
            have h1 : pairAny (fun a b => ltMap b a) (xs.take (k + 1 + 1)) = true := by rw [HT.out, ← HSw.out, hl]; rfl
            unfold sortedB
            rw [pairAny_prefix _ xs _ h1]; rfl⟩
          rw [hl] at HBf
          clear hl HSw HT
          go_wp2_with fail
          refine wp_region_quiet_below (by kernel_rfl) (by kernel_rfl) ?_
          repeat (quiet_step (exact Calls.regrown_of (HBf.out _)))
          refine wpQuiet_nil ?_
          intro _ hw'
          obtain ⟨⟨dq, osq⟩, hw''⟩ := hw'
          subst hw''
          have HB2 : Aside0 (Below w.heap.size w (grow (redrawn wr dq) osq)) := ⟨below_step HB.out (below_regrown wr dq osq)⟩
          clear kx0 kx1 kx2 ky0 ky1 ky2
          go_wp2_with fail
          go_ret
          exact ⟨ret_int (by rw [HC.out, HF.out]; simp), HB2.out⟩
      · have hltz : ¬ (k : Int) + 1 < (xs.length : Int) := by omega
        have HF : Aside0 (sortedB ltMap xs = true) := ⟨by
          have h1 := HA.out
          rw [List.take_of_length_le (by omega)] at h1
          unfold sortedB
          rw [h1]; rfl⟩
        go_wp2_with fail
        go_ret
        exact ⟨ret_int (by rw [HC.out, HF.out]; simp), HB.out⟩
  · rw [if_neg hv] at HC
    go_enter Tryz.func37, Tryz.ntmps37
    go_wp2_with fail
    refine HU.out.mono ?_
    rintro e w1 ⟨rfl, hb1⟩
    rcases hcs with h | h | h | h | h
    · exact absurd h hv
    all_goals
      subst h
      go_wp2_with fail
      go_ret
      exact ⟨ret_int (by rw [HC.out]), hb1⟩
end Go.Proofs.YtipedgkampafjaaGreatDoor.Rf
/- Tells what cpset.Make makes, by its walk. -/
namespace Go.Proofs.YtipedgkampafjaaGreatDoor.Rf
open Go.Shelf Go.RowKit Go.Proofs.YtipedgkampafjaaGreatDoorW.PrintWords Go.Proofs.YtipedgkampafjaaGreatDoorW.PrintLast Go.Proofs.YtipedgkampafjaaGreatDoorW.PrintMore

/-- What Make may make of ranges. -/
def MadeR (xs out : List RR) : Prop := ∃ l', l'.Perm (gathR xs) ∧ l'.Pairwise (fun a b => a.f0 ≤ b.f0) ∧ out = joinR l'
theorem gathR_len (xs : List RR) : (gathR xs).length ≤ xs.length := by
  refine Nat.le_trans (List.length_filter_le _ _) ?_
  simp
/-- What the merging holds: numbers in range. -/
def inB (r : RR) : Prop := 0 ≤ r.f0 ∧ r.f0 ≤ 1114111 ∧ 0 ≤ r.f1 ∧ r.f1 ≤ 1114111
theorem gathR_in {xs : List RR} {r : RR} (h : r ∈ gathR xs) : inB r := by
  obtain ⟨h1, h2⟩ := List.mem_filter.1 h
  obtain ⟨x, _, rfl⟩ := List.mem_map.1 h1
  simp only [goodR, clampR, decide_eq_true_eq, mx_max, mn_min, inB] at h2 ⊢
  omega
theorem stepR_in {out : List RR} {r : RR} (ho : ∀ x ∈ out, inB x) (hr : inB r) : ∀ x ∈ stepR out r, inB x := by
  intro x hx
  unfold stepR at hx
  split at hx
  · rename_i z hz
    have hzm : inB z := ho z (List.mem_of_getLast? hz)
    split at hx
    · rcases List.mem_append.1 hx with h | h
      · exact ho x (List.dropLast_subset _ h)
      · rw [List.mem_singleton] at h
        subst h
        simp only [inB, mx_max] at hzm hr ⊢
        omega
    · rcases List.mem_append.1 hx with h | h
      · exact ho x h
      · rw [List.mem_singleton.1 h]; exact hr
  · rw [List.mem_singleton.1 hx]; exact hr
theorem joinR_in {l : List RR} (h : ∀ x ∈ l, inB x) : ∀ x ∈ joinR l, inB x := by
  suffices ∀ (l o : List RR), (∀ x ∈ l, inB x) → (∀ x ∈ o, inB x) → ∀ x ∈ l.foldl stepR o, inB x from this l [] h (by simp)
  intro l
  induction l with
  | nil => intro o _ h; exact h
  | cons y l ih => intro o h1 h2; exact ih _ (fun x hx => h1 x (List.mem_cons_of_mem _ hx)) (stepR_in h2 (h1 y List.mem_cons_self))

theorem rowR_last {w : World} {base : Nat} {v : Value} {l0 : List RR} {z : RR} (h : RowR w base v (l0 ++ [z])) :
    ∃ g cap, v = .slice (some ⟨g, 0, none⟩) (l0.length + 1) cap ∧ base ≤ g ∧ g < w.heap.size ∧ w.cell? ⟨g, l0.length * 2, none⟩ = some (.int .i64 z.f0) ∧ w.cell? ⟨g, l0.length * 2 + 1, none⟩ = some (.int .i64 z.f1) ∧ w.frozen? ⟨g, l0.length * 2 + 1, none⟩ = false := by
  rcases h.2 with ⟨_, h0⟩ | ⟨g, cap, cur, rfl, hb, hg, hn, hm, hs, ht⟩
  · simp at h0
  · have hc : ∀ i, i < 2 → w.cell? ⟨g, l0.length * 2 + i, none⟩ = (encR2 z)[i]? := fun i hi => by
      have e1 : (cur.toList.take ((l0 ++ [z]).length * 2))[l0.length * 2 + i]? = (flatR (l0 ++ [z]))[l0.length * 2 + i]? := by rw [ht]
      rw [List.getElem?_take, if_pos (by simp; omega), Array.getElem?_toList, show flatR (l0 ++ [z]) = flatR l0 ++ encR2 z by simp [flatR], List.getElem?_append_right (by rw [flatR_len]; omega), flatR_len, show l0.length * 2 + i - l0.length * 2 = i by omega] at e1
      simp only [World.cell?, hg, Option.isSome_none, Bool.false_eq_true, if_false]
      exact e1
    exact ⟨g, cap, by simp, hb, (Array.getElem?_eq_some_iff.1 hg).1, hc 0 (by omega), hc 1 (by omega), by simp [World.frozen?, hg]⟩
attribute [local go_sem] max2_mx min2_mn max_two min_two
set_option maxRecDepth 100000 in
set_option maxHeartbeats 8000000 in
theorem cpMake_any (A : Option Addr) (c : Nat) (xs : List RR) (w : World) (hr : Kd.C k52 w A xs.length xs) (hl : xs.length ≤ 1000000) :
    Calls Tryz.prog 43 #[.slice A xs.length c] w fun e w' => (∃ out B cap, MadeR xs out ∧ e = .returned (.agg #[.slice B out.length cap]) ∧ out.length ≤ cap ∧ Kd.C k52 w' B out.length out) ∧ Below w.heap.size w w' := by
  obtain ⟨wa, hwa⟩ : ∃ wa, w.alloc (.cells #[.slice none 0 0] 26) = wa := ⟨_, rfl⟩
  have HWa : Aside0 (Below w.heap.size w wa) := ⟨hwa ▸ below_alloc (Below.refl _ _) _⟩
  have HCell : Aside0 (wa.heap[w.heap.size]? = some (.cells #[.slice none 0 0] 26)) := ⟨by rw [← hwa]; show (w.heap.push _)[w.heap.size]? = _; simp⟩
  have hsz : w.heap.size < wa.heap.size := by rw [← hwa]; simp
  have HR := Aside0.mk (Kd.C_below hr HWa.out)
  have HL := Aside0.mk hl
  clear hr
  go_enter Tryz.func43, Tryz.ntmps43
  go_wp2_with fail
  clear hwa
  go_loopw [3, 12] (fun v v2 wr => ∃ j : Nat, v2 = .int .i64 (j : Int) ∧ j ≤ xs.length ∧ Aside0 (RowR wr wa.heap.size v (gathR (xs.take j))) ∧ Aside0 (Below wa.heap.size wa wr)) (fun _ v2 _ => xs.length - (intOf v2).toNat)
  case atStart => exact ⟨0, rfl, by omega, ⟨RowR.nil _ _⟩, ⟨Below.refl _ _⟩⟩
  case round =>
    obtain ⟨j, rfl, hj, HO, HB⟩ := hrel
    by_cases hlt : j < xs.length
    · obtain ⟨ad, e, hx0, hx1⟩ := at_T52 (Kd.C_below HR.out HB.out) (j : Int) (by omega) (by omega)
      subst e
      simp only [Int.toNat_natCast] at hx0 hx1
      have HT : Aside0 (gathR (xs.take (j + 1)) = if goodR (clampR (rd_T52 xs (j : Int))) then gathR (xs.take j) ++ [clampR (rd_T52 xs (j : Int))] else gathR (xs.take j)) := ⟨by
        rw [List.take_succ_eq_append_getElem hlt, gathR_snoc]
        rw [rd_T52, Int.toNat_natCast, List.getD_eq_getElem?_getD, List.getElem?_eq_getElem hlt]; rfl⟩
      have HLen : Aside0 (((gathR (xs.take j)).length + 1) * 16 ≤ 140737488355328) := ⟨by
        have := gathR_len (xs.take j)
        have := HL.out
        simp only [List.length_take] at *; omega⟩
      generalize rd_T52 xs (j : Int) = x at hx0 hx1 HT
      generalize gathR (xs.take j) = l at HT HO HLen
      cases hg : decide (mx x.f0 0 ≤ mn x.f1 1114111) with
      | true =>
        rw [if_pos (by exact hg)] at HT
        have HOO := Aside0.mk (RowR.alloc HO.out (.cells #[.int .i64 (mx x.f0 0), .int .i64 (mn x.f1 1114111)] 52))
        have HBB := Aside0.mk (below_alloc HB.out (.cells #[.int .i64 (mx x.f0 0), .int .i64 (mn x.f1 1114111)] 52))
        have HSz : Aside0 ((wr.alloc (.cells #[.int .i64 (mx x.f0 0), .int .i64 (mn x.f1 1114111)] 52)).heap.size = wr.heap.size + 1) := ⟨by simp⟩
        go_wp2_with (at_builtin; refine print_append_cells (w0 := wa) wa.heap.size rfl (.tmp 29) (.tmp 31) 24 52 (.agg #[.int .i64 0, .int .i64 0]) 2 16 rfl Tryz.underlying24 infoR rfl (by decide) (by decide) _ l.length (flatR l) [.int .i64 (mx x.f0 0), .int .i64 (mn x.f1 1114111)] rfl (by rw [HSz.out]; rfl) rfl (by intro u hu; simp at hu; rcases hu with rfl | rfl <;> rfl) HOO.out HBB.out HBB.out.size HLen.out ?_; intro v1 w1 h1 h2 h3 h4)
        go_roundw
        case rel => exact ⟨j + 1, by first | rfl | go_num, by omega, ⟨by rw [HT.out]; simpa [RowR, flatR, encR2, clampR] using h1⟩, ⟨h2⟩⟩
        case measure => simp [intOf]; omega
      | false =>
        rw [if_neg (by exact Bool.eq_false_iff.1 hg)] at HT
        go_wp2_with fail
        go_roundw
        case rel => exact ⟨j + 1, by first | rfl | go_num, by omega, ⟨by rw [HT.out]; exact HO.out.alloc _⟩, ⟨below_alloc HB.out _⟩⟩
        case measure => simp [intOf]; omega
    · have HO2 : Aside0 (RowR wr wa.heap.size u3 (gathR xs)) := ⟨by have h := HO.out; rwa [List.take_of_length_le (by omega)] at h⟩
      have HLen : Aside0 ((gathR xs).length ≤ 1000000) := ⟨Nat.le_trans (gathR_len xs) HL.out⟩
      go_wp2_with fail
      refine (sortR_any HO2.out HLen.out).mono ?_
      rintro e wB ⟨rfl, l', hpm, hpw, hrB, hgB⟩
      obtain ⟨B, capB, hv3, hcapB, hCB⟩ := rowR_C hrB (by rw [hpm.length_eq]; exact HLen.out)
      have HBB := Aside0.mk (HB.out.grown hgB HB.out.size (fun k hk => HO2.out.ge k hk))
      have HL2 : Aside0 (l'.length ≤ 1000000) := ⟨by rw [hpm.length_eq]; exact HLen.out⟩
      have HMade : Aside0 (MadeR xs (joinR l')) := ⟨⟨l', hpm, hpw, rfl⟩⟩
      have HIn : Aside0 (∀ x ∈ l', inB x) := ⟨fun x hx => gathR_in (hpm.mem_iff.1 hx)⟩
      have HCB := Aside0.mk hCB
      clear HO HO2 HLen HB hrB hgB hCB hpm hpw hlt hj
      subst hv3
      go_wp2_with fail
      go_loopw [6, 38] (fun v v2 wr => ∃ j : Nat, v2 = .int .i64 (j : Int) ∧ j ≤ l'.length ∧ Aside0 (RowR wr wB.heap.size v (joinR (l'.take j))) ∧ Aside0 (Below wB.heap.size wB wr)) (fun _ v2 _ => l'.length - (intOf v2).toNat)
      case atStart => exact ⟨0, rfl, by omega, ⟨RowR.nil _ _⟩, ⟨Below.refl _ _⟩⟩
      case round =>
        obtain ⟨j, rfl, hj, HO, HB⟩ := hrel
        have hl2 := HL2.out
        by_cases hlt : j < l'.length
        · obtain ⟨ad, e, hx0, hx1⟩ := at_T52 (Kd.C_below HCB.out HB.out) (j : Int) (by omega) (by omega)
          subst e
          simp only [Int.toNat_natCast] at hx0 hx1
          have HT : Aside0 (joinR (l'.take (j + 1)) = stepR (joinR (l'.take j)) (rd_T52 l' (j : Int))) := ⟨by
            rw [List.take_succ_eq_append_getElem hlt, joinR_snoc]
            rw [rd_T52, Int.toNat_natCast, List.getD_eq_getElem?_getD, List.getElem?_eq_getElem hlt]; rfl⟩
          have HLen : Aside0 ((joinR (l'.take j)).length ≤ 1000000) := ⟨by
            have := joinR_len (l'.take j)
            have := HL2.out
            simp only [List.length_take] at *; omega⟩
          have HIo : Aside0 (∀ x ∈ joinR (l'.take j), inB x) := ⟨joinR_in fun x hx => HIn.out x (List.mem_of_mem_take hx)⟩
          have HIx : Aside0 (inB (rd_T52 l' (j : Int))) := ⟨HIn.out _ (getD_mem l' _ _ (by simpa using hlt))⟩
          generalize rd_T52 l' (j : Int) = x at hx0 hx1 HT HIx
          generalize joinR (l'.take j) = o at HT HO HLen HIo
          rcases List.eq_nil_or_concat o with rfl | ⟨l0, z, rfl⟩
          · obtain ⟨C, capC, hv6, hcapC, hCC⟩ := rowR_C HO.out HLen.out
            subst hv6
            have HOO := Aside0.mk (RowR.alloc HO.out (.cells #[.int .i64 x.f0, .int .i64 x.f1] 52))
            have HBO := Aside0.mk (below_alloc HB.out (.cells #[.int .i64 x.f0, .int .i64 x.f1] 52))
            obtain ⟨W, hW⟩ : ∃ W, wr.alloc (.cells #[.int .i64 x.f0, .int .i64 x.f1] 52) = W := ⟨_, rfl⟩
            have m0 : W.cell? ⟨wr.heap.size, 0, none⟩ = some (.int .i64 x.f0) := by rw [← hW]; simp
            have m1 : W.cell? ⟨wr.heap.size, 1, none⟩ = some (.int .i64 x.f1) := by rw [← hW]; simp
            go_wp2_with fail
            try rw [hW]
            go_quiet (fail)
            have HO2 : Aside0 (RowR (W.drewN nq) wB.heap.size (.slice C [].length capC) []) := ⟨by rw [hW] at HOO; exact HOO.out⟩
            have HB2 : Aside0 (Below wB.heap.size wB (W.drewN nq)) := ⟨by rw [hW] at HBO; exact pw_below_drewN HBO.out _⟩
            have n0 : (W.drewN nq).cell? ⟨wr.heap.size, 0, none⟩ = some (.int .i64 x.f0) := m0
            have n1 : (W.drewN nq).cell? ⟨wr.heap.size, 1, none⟩ = some (.int .i64 x.f1) := m1
            have HLen16 : Aside0 ((([] : List RR).length + 1) * 16 ≤ 140737488355328) := ⟨by simp⟩
            clear HOO HBO hW m0 m1
            generalize W.drewN nq = W2 at HO2 HB2 n0 n1 ⊢
            go_wp2_with (at_builtin; refine print_append_cells (w0 := wB) wB.heap.size rfl (.tmp 72) (.tmp 74) 24 52 (.agg #[.int .i64 0, .int .i64 0]) 2 16 rfl Tryz.underlying24 infoR rfl (by decide) (by decide) _ ([] : List RR).length (flatR ([] : List RR)) [.int .i64 x.f0, .int .i64 x.f1] rfl rfl rfl (by intro u hu; simp at hu; rcases hu with rfl | rfl <;> rfl) HO2.out HB2.out HB2.out.size HLen16.out ?_; intro v1 w1 h1 h2 h3 h4)
            go_roundw
            case rel => exact ⟨j + 1, by first | rfl | go_num, by omega, ⟨by rw [HT.out]; simpa [RowR, flatR, encR2, stepR] using h1⟩, ⟨h2⟩⟩
            case measure => simp [intOf]; omega
          · rw [List.concat_eq_append] at *
            obtain ⟨g, capC, hv6, hgb, hgl, hz0, hz1, hfz⟩ := rowR_last HO.out
            subst hv6
            have HIz : Aside0 (inB z) := ⟨HIo.out z (by simp)⟩
            generalize hn : l0.length = n at hz0 hz1 hfz HO
            obtain ⟨W, hW⟩ : ∃ W, wr.alloc (.cells #[.int .i64 x.f0, .int .i64 x.f1] 52) = W := ⟨_, rfl⟩
            have m0 : W.cell? ⟨wr.heap.size, 0, none⟩ = some (.int .i64 x.f0) := by rw [← hW]; simp
            have m1 : W.cell? ⟨wr.heap.size, 1, none⟩ = some (.int .i64 x.f1) := by rw [← hW]; simp
            have zz0 : W.cell? ⟨g, n * 2, none⟩ = some (.int .i64 z.f0) := by rw [← hW]; exact cell_keep hz0 _
            have zz1 : W.cell? ⟨g, n * 2 + 1, none⟩ = some (.int .i64 z.f1) := by rw [← hW]; exact cell_keep hz1 _
            have hwz : IntKind.i64.wrap (z.f1 + 1) = z.f1 + 1 := IntWalk.i64_in _ (by have := HIz.out; simp only [inB] at this; omega)
            have hwn : IntKind.i64.wrap (n : Int) = (n : Int) := IntWalk.i64_in _ (by have := HLen.out; simp at this; omega)
            have HOO := Aside0.mk (RowR.alloc HO.out (.cells #[.int .i64 x.f0, .int .i64 x.f1] 52))
            have HBO := Aside0.mk (below_alloc HB.out (.cells #[.int .i64 x.f0, .int .i64 x.f1] 52))
            have zf : W.frozen? ⟨g, n * 2 + 1, none⟩ = false := by
              rw [← hW, (below_alloc (Below.refl wr.heap.size wr) _).frozen hgl]; exact hfz
            have hgr : g ≠ wr.heap.size := by omega
            cases hm : decide (x.f0 ≤ z.f1 + 1) with
            | true =>
              have HS : Aside0 (stepR (l0 ++ [z]) x = l0 ++ [⟨z.f0, mx z.f1 x.f1⟩]) := ⟨by simp [stepR, of_decide_eq_true hm]⟩
              go_wp2_with fail
              try rw [hW]
              go_quiet (fail)
              have HO2 : Aside0 (RowR (W.drewN nq).drew wB.heap.size (.slice (some ⟨g, 0, none⟩) (n + 1) capC) (l0 ++ [z])) := ⟨by rw [hW] at HOO; exact HOO.out⟩
              have HB2 : Aside0 (Below wB.heap.size wB (W.drewN nq).drew) := ⟨by rw [hW] at HBO; exact below_drew (pw_below_drewN HBO.out _)⟩
              have n0 : (W.drewN nq).cell? ⟨wr.heap.size, 0, none⟩ = some (.int .i64 x.f0) := m0
              have n1 : (W.drewN nq).cell? ⟨wr.heap.size, 1, none⟩ = some (.int .i64 x.f1) := m1
              have y0 : (W.drewN nq).cell? ⟨g, n * 2, none⟩ = some (.int .i64 z.f0) := zz0
              have y1 : (W.drewN nq).cell? ⟨g, n * 2 + 1, none⟩ = some (.int .i64 z.f1) := zz1
              have yf : (W.drewN nq).frozen? ⟨g, n * 2 + 1, none⟩ = false := zf
              clear HOO HBO hW m0 m1 zz0 zz1 zf hz0 hz1 hfz
              generalize W.drewN nq = W2 at HO2 HB2 n0 n1 y0 y1 yf ⊢
              go_wp2_with fail
              have q1 : (n : Int) < (n : Int) + 1 := by omega
              refine wp_region_still_tail 14 (by kernel_rfl) (by kernel_rfl) ?_
              simp only [List.take_succ_cons, List.take_zero, List.drop_succ_cons, List.drop_zero]
              change wpStill _ _ W2.drew _ _ _
              repeat still_step
              refine wpStill_nil ?_
              go_wp2_with fail
              go_roundw
              case rel =>
                have hset := rowR_set HO2.out (mx z.f1 x.f1)
                rw [hn] at hset
                exact ⟨j + 1, by first | rfl | go_num, by omega, ⟨by rw [HT.out, HS.out]; exact hset.1⟩, ⟨HB2.out.grown hset.2 HB2.out.size (fun k hk => by cases hk; exact hgb)⟩⟩
              case measure => simp [intOf]; omega
            | false =>
              have HS : Aside0 (stepR (l0 ++ [z]) x = l0 ++ [z] ++ [x]) := ⟨by simp [stepR, of_decide_eq_false hm]⟩
              go_wp2_with fail
              try rw [hW]
              go_quiet (fail)
              have HO2 : Aside0 (RowR (W.drewN nq) wB.heap.size (.slice (some ⟨g, 0, none⟩) (n + 1) capC) (l0 ++ [z])) := ⟨by rw [hW] at HOO; exact HOO.out⟩
              have HB2 : Aside0 (Below wB.heap.size wB (W.drewN nq)) := ⟨by rw [hW] at HBO; exact pw_below_drewN HBO.out _⟩
              have n0 : (W.drewN nq).cell? ⟨wr.heap.size, 0, none⟩ = some (.int .i64 x.f0) := m0
              have n1 : (W.drewN nq).cell? ⟨wr.heap.size, 1, none⟩ = some (.int .i64 x.f1) := m1
              have HLen16 : Aside0 (((l0 ++ [z]).length + 1) * 16 ≤ 140737488355328) := ⟨by have := HLen.out; omega⟩
              clear HOO HBO hW m0 m1 zz0 zz1 zf hz0 hz1 hfz
              generalize W.drewN nq = W2 at HO2 HB2 n0 n1 ⊢
              go_wp2_with (at_builtin; refine print_append_cells (w0 := wB) wB.heap.size rfl (.tmp 72) (.tmp 74) 24 52 (.agg #[.int .i64 0, .int .i64 0]) 2 16 rfl Tryz.underlying24 infoR rfl (by decide) (by decide) _ (l0 ++ [z]).length (flatR (l0 ++ [z])) [.int .i64 x.f0, .int .i64 x.f1] rfl rfl rfl (by intro u hu; simp at hu; rcases hu with rfl | rfl <;> rfl) HO2.out HB2.out HB2.out.size HLen16.out ?_; intro v1 w1 h1 h2 h3 h4)
              go_roundw
              case rel => exact ⟨j + 1, by first | rfl | go_num, by omega, ⟨by rw [HT.out, HS.out]; simpa [RowR, flatR, encR2] using h1⟩, ⟨h2⟩⟩
              case measure => simp [intOf]; omega
        · have HO2 : Aside0 (RowR wr wB.heap.size u6 (joinR l')) := ⟨by have h := HO.out; rwa [List.take_of_length_le (by omega)] at h⟩
          have hb2 := below_step HBB.out HB.out
          have hheap : wr.heap[w.heap.size]? = some (.cells #[.slice none 0 0] 26) := by rw [hb2.block _ hsz]; exact HCell.out
          have hcw : wr.cell? ⟨w.heap.size, 0, none⟩ = some (.slice none 0 0) := by simp [World.cell?, hheap]
          have hfw : wr.frozen? ⟨w.heap.size, 0, none⟩ = false := by simp [World.frozen?, hheap]
          obtain ⟨C, capC, hv6, hcapC, hCC⟩ := rowR_C HO2.out (Nat.le_trans (joinR_len l') HL2.out)
          subst hv6
          have HHeap := Aside0.mk hheap
          have HB2 := Aside0.mk hb2
          generalize joinR l' = out at HMade HO2 hcapC hCC
          clear hCC hheap hb2 HO
          go_wp2_with fail
          (try simp only [Exit.inBlock, Exit.then])
          have hg9 : wr.grownBy (wr.setCell ⟨w.heap.size, 0, none⟩ (.slice C out.length capC)) (some w.heap.size) := ⟨rfl, rfl, rfl, by simp [World.setCell], fun i hi hne => Below.heap_setCell _ _ _ _ (fun e => hne (by rw [e]))⟩
          refine bodyPost_ret (results_cell_row rfl _ _ w.heap.size 26 #[.slice C out.length capC] (0, 0) _ rfl (by
            rw [Sort.setCell_eq]
            simp [Sort.mapBlock, Array.getElem?_modify, HHeap.out, Sort.onCells]) Tryz.underlying26 rfl (by kernel_rfl)) rfl ?_
          have hro : RowR (wr.setCell ⟨w.heap.size, 0, none⟩ (.slice C out.length capC)) wB.heap.size (.slice C out.length capC) out := World.ownsRow.kept HO2.out hg9 (by
            cases hC : (Value.slice C out.length capC).ownBlock with
            | none => exact Or.inl rfl
            | some k =>
              refine Or.inr fun e => ?_
              have h1 := HO2.out.ge k hC
              cases e
              have := HBB.out.size
              omega)
          obtain ⟨C', capC', hv', hcap', hC'⟩ := rowR_C hro (by have := HMade.out; obtain ⟨l2, h1, _, h3⟩ := this; rw [h3]; exact Nat.le_trans (joinR_len l2) (by rw [h1.length_eq]; exact Nat.le_trans (gathR_len xs) HL.out))
          injection hv' with e1 e2 e3
          subst e1; subst e3
          exact ⟨⟨out, C, capC, HMade.out, rfl, hcap', hC'⟩, (below_step HWa.out HB2.out).grown hg9 (by have := (below_step HWa.out HB2.out).size; omega) (fun k hk => by cases hk; exact Nat.le_refl _)⟩
end Go.Proofs.YtipedgkampafjaaGreatDoor.Rf
/- Tells what cpset.Valid tells. -/
namespace Go.Proofs.YtipedgkampafjaaGreatDoor.Rf
open Go.Shelf Go.RowKit Go.Proofs.YtipedgkampafjaaGreatDoorW.PrintWords Go.Proofs.YtipedgkampafjaaGreatDoorW.PrintLast Go.Proofs.YtipedgkampafjaaGreatDoorW.PrintMore

instance : DecidableEq RR := fun a b => decidable_of_iff (a.f0 = b.f0 ∧ a.f1 = b.f1) (by cases a; cases b; simp)
set_option maxRecDepth 100000 in
theorem eqRange (a b a' b' : Int) (w : World) : (Op.equalIn 10000 52 (.agg #[.int .i64 a, .int .i64 b]) (.agg #[.int .i64 a', .int .i64 b'])).run Tryz.prog w = .ok (a == a' && b == b') w :=
  eqA_of (d := 9999) Tryz.underlying52 (by kernel_rfl) (eqf_cons (by decide) (a := .int .i64 a) (b := .int .i64 a') (by kernel_rfl) (by kernel_rfl) (run_equalIn_int w 9998 3 .i64 .i64 a a' Tryz.underlying3) (eqf_last (by decide) (a := .int .i64 b) (b := .int .i64 b') (by kernel_rfl) (by kernel_rfl) (run_equalIn_int w 9998 3 .i64 .i64 b b' Tryz.underlying3)))

theorem fieldR (B : Option Addr) (n cap : Nat) (w : World) : (Instr.field 26 (.agg #[.slice B n cap]) 0).run Tryz.prog w = .ok (.slice B n cap) w := by kernel_rfl
set_option maxRecDepth 100000 in
set_option maxHeartbeats 8000000 in
theorem cpValidR_any (A : Option Addr) (c : Nat) (xs : List RR) (w : World) (hr : Kd.C k52 w A xs.length xs) (hc : xs.length ≤ c) (hl : xs.length ≤ 1000000) :
    Calls Tryz.prog 31 #[.agg #[.slice A xs.length c]] w fun e w' => (∃ out, MadeR xs out ∧ e = .returned (.bool (decide (out = xs)))) ∧ Below w.heap.size w w' := by
  have HR := Aside0.mk hr
  have HL := Aside0.mk hl
  have HMk := Aside0.mk (cpMake_any A c xs (w.alloc (.cells #[.slice A xs.length c] 26)) (Kd.C_alloc hr _) hl)
  clear hr
  have hbx : Below w.heap.size w (w.alloc (.cells #[.slice A xs.length c] 26)) := below_alloc (Below.refl _ _) _
  have hcx : (w.alloc (.cells #[.slice A xs.length c] 26)).cell? ⟨w.heap.size, 0, none⟩ = some (.slice A xs.length c) := by simp
  have HBX := Aside0.mk hbx
  have HCX := Aside0.mk hcx
  clear hbx hcx
  go_enter Tryz.func31, Tryz.ntmps31
  go_wp2_with fail
  refine HMk.out.mono ?_
  rintro e w1 ⟨⟨out, B, cap, hm, rfl, hcap, hC⟩, hb1⟩
  have HM := Aside0.mk hm
  have HC := Aside0.mk hC
  have hcw : w1.cell? ⟨w.heap.size, 0, none⟩ = some (.slice A xs.length c) := by rw [hb1.cell (by simp)]; exact HCX.out
  have HB1 := Aside0.mk (below_step HBX.out hb1)
  have hol : out.length ≤ 9223372036854775807 := Kd.C_max hC
  have hfld := fieldR B out.length cap w1
  clear hm hC hb1
  cases hlen : ((out.length : Int) != (xs.length : Int)) with
  | true =>
    go_wp2_with fail
    go_ret
    have hne : decide (out = xs) = false := by
      rw [decide_eq_false_iff_not]; intro h; rw [h] at hlen; simp at hlen
    exact ⟨⟨out, HM.out, by rw [hne]; rfl⟩, HB1.out⟩
  | false =>
    have HLE : Aside0 (out.length = xs.length) := ⟨by
      have : ((out.length : Int) = (xs.length : Int)) := by simpa using hlen
      omega⟩
    go_wp2_with fail
    go_loopw [18] (fun v wr => ∃ j : Nat, v = .int .i64 (j : Int) ∧ j ≤ out.length ∧ Aside0 (out.take j = xs.take j) ∧ Aside0 (Below w1.heap.size w1 wr)) (fun v _ => out.length - (intOf v).toNat)
    case atStart => exact ⟨0, rfl, by omega, ⟨rfl⟩, ⟨Below.refl _ _⟩⟩
    case round =>
      obtain ⟨j, rfl, hj, HA, HB⟩ := hrel
      have hle := HLE.out
      by_cases hlt : j < out.length
      · obtain ⟨ad, e, hx0, hx1⟩ := at_T52 (Kd.C_below HC.out HB.out) (j : Int) (by omega) (by omega)
        obtain ⟨ad2, e2, hy0, hy1⟩ := at_T52 (Kd.C_below HR.out (below_step HB1.out HB.out)) (j : Int) (by omega) (by omega)
        subst e
        subst e2
        simp only [Int.toNat_natCast] at hx0 hx1 hy0 hy1
        have HT : Aside0 (out.take (j + 1) = xs.take (j + 1) ↔ rd_T52 out (j : Int) = rd_T52 xs (j : Int)) := ⟨by
          rw [List.take_succ_eq_append_getElem hlt, List.take_succ_eq_append_getElem (by omega : j < xs.length), HA.out, rd_T52, rd_T52, Int.toNat_natCast, List.getD_eq_getElem?_getD, List.getD_eq_getElem?_getD, List.getElem?_eq_getElem hlt, List.getElem?_eq_getElem (by omega : j < xs.length)]
          exact ⟨fun h => by simpa using List.append_cancel_left h, fun h => by simp only [Option.getD_some] at h; rw [h]⟩⟩
        generalize rd_T52 out (j : Int) = x at hx0 hx1 HT
        generalize rd_T52 xs (j : Int) = y at hy0 hy1 HT
        have hcw2 : wr.cell? ⟨w.heap.size, 0, none⟩ = some (.slice (some ad2) xs.length c) := by
          rw [HB.out.cell (cell_lt hcw)]; exact hcw
        obtain ⟨W, hW⟩ : ∃ W, wr.alloc (.cells #[.int .i64 x.f0, .int .i64 x.f1] 52) = W := ⟨_, rfl⟩
        have m0 : W.cell? ⟨wr.heap.size, 0, none⟩ = some (.int .i64 x.f0) := by rw [← hW]; simp
        have m1 : W.cell? ⟨wr.heap.size, 1, none⟩ = some (.int .i64 x.f1) := by rw [← hW]; simp
        have z0 : W.cell? (ad2.add (j * 2)) = some (.int .i64 y.f0) := by rw [← hW]; exact cell_keep hy0 _
        have z1 : W.cell? ⟨(ad2.add (j * 2)).block, (ad2.add (j * 2)).off + 1, none⟩ = some (.int .i64 y.f1) := by rw [← hW]; exact cell_keep hy1 _
        have zc : W.cell? ⟨w.heap.size, 0, none⟩ = some (.slice (some ad2) xs.length c) := by rw [← hW]; exact cell_keep hcw2 _
        have HBW : Aside0 (Below w1.heap.size w1 W) := ⟨by rw [← hW]; exact below_alloc HB.out _⟩
        have heq := fun w => eqRange x.f0 x.f1 y.f0 y.f1 w
        have hjx : (j : Int) < (xs.length : Int) := by omega
        have hjx2 : j < xs.length := by omega
        clear hle
        cases hq : (x.f0 == y.f0 && x.f1 == y.f1) with
        | true =>
          have HXY : Aside0 (x = y) := ⟨by
            obtain ⟨x0, x1⟩ := x
            obtain ⟨y0, y1⟩ := y
            simp at hq
            rw [hq.1, hq.2]⟩
          rw [hq] at heq
          go_wp2_with fail
          try rw [hW]
          go_quiet (fail)
          go_wp2_with fail
          go_roundw
          case rel => exact ⟨j + 1, by first | rfl | go_num, by omega, ⟨HT.out.2 HXY.out⟩, ⟨pw_below_drewN HBW.out _⟩⟩
          case measure => simp [intOf]; omega
        | false =>
          have HXY : Aside0 (¬ x = y) := ⟨by
            intro h; subst h; simp at hq⟩
          rw [hq] at heq
          go_wp2_with fail
          try rw [hW]
          go_quiet (fail)
          go_wp2_with fail
          go_ret
          have hne : decide (out = xs) = false := by
            rw [decide_eq_false_iff_not]; intro h; rw [h] at HT; exact HXY.out (HT.out.1 rfl)
          exact ⟨⟨out, HM.out, by rw [hne]; rfl⟩, below_step HB1.out (pw_below_drewN HBW.out _)⟩
      · have HDE : Aside0 (decide (out = xs) = true) := ⟨by
          have h := HA.out
          rw [List.take_of_length_le (by omega), List.take_of_length_le (by omega)] at h
          simpa using h⟩
        clear hle
        go_wp2_with fail
        go_ret
        exact ⟨⟨out, HM.out, by rw [HDE.out]; rfl⟩, below_step HB1.out HB.out⟩
end Go.Proofs.YtipedgkampafjaaGreatDoor.Rf
/- When a set is valid, when replacing ends, how long it gets. -/
namespace Go.Proofs.YtipedgkampafjaaGreatDoor.Rf
open Go.Shelf Go.RowKit Go.Proofs.YtipedgkampafjaaGreatDoorW.PrintWords Go.Proofs.YtipedgkampafjaaGreatDoorW.PrintLast Go.Proofs.YtipedgkampafjaaGreatDoorW.PrintMore

/-! ### sets -/
def badR (r : RR) : Bool := decide (r.f0 < 0) || decide (r.f1 < r.f0) || decide (1114111 < r.f1)
def nearR (a b : RR) : Bool := decide (b.f0 ≤ a.f1 + 1)
/-- Is a list of ranges as Make would have it? -/
def canonR (l : List RR) : Bool := !l.any badR && !pairAny nearR l
theorem pairAny_cons {α : Type} (p : α → α → Bool) (x : α) (l : List α) : pairAny p (x :: l) = ((match l with | [] => false | y :: _ => p x y) || pairAny p l) := by
  cases l <;> simp [pairAny]
theorem stepR_canon {o : List RR} {r : RR} (ho : canonR o = true) (hr : badR r = false) (hs : ∀ z, o.getLast? = some z → z.f0 ≤ r.f0) : canonR (stepR o r) = true := by
  simp only [canonR, Bool.and_eq_true, Bool.not_eq_true'] at ho ⊢
  have hb : 0 ≤ r.f0 ∧ r.f0 ≤ r.f1 ∧ r.f1 ≤ 1114111 := by simp [badR] at hr; omega
  rcases List.eq_nil_or_concat o with rfl | ⟨l0, z, rfl⟩
  · simp [stepR, hr, pairAny]
  · rw [List.concat_eq_append] at *
    have hzl := hs z (by simp)
    have hz : badR z = false := by have := ho.1; simp at this; exact this.2
    have hzb : 0 ≤ z.f0 ∧ z.f0 ≤ z.f1 ∧ z.f1 ≤ 1114111 := by simp [badR] at hz; omega
    by_cases hn : r.f0 ≤ z.f1 + 1
    · have e : stepR (l0 ++ [z]) r = l0 ++ [⟨z.f0, mx z.f1 r.f1⟩] := by simp [stepR, hn]
      rw [e]
      refine ⟨?_, ?_⟩
      · have h1 := ho.1
        rw [List.any_append, Bool.or_eq_false_iff] at h1 ⊢
        refine ⟨h1.1, ?_⟩
        simp [badR, mx_max]; omega
      · have h2 := ho.2
        rcases List.eq_nil_or_concat l0 with rfl | ⟨l1, y, rfl⟩
        · simp [pairAny]
        · rw [List.concat_eq_append] at *
          rw [pairAny_snoc, Bool.or_eq_false_iff] at h2 ⊢
          exact ⟨h2.1, by simpa [nearR] using h2.2⟩
    · have e : stepR (l0 ++ [z]) r = l0 ++ [z] ++ [r] := by simp [stepR, hn]
      rw [e]
      refine ⟨?_, ?_⟩
      · rw [List.any_append, ho.1]; simp [hr]
      · rw [pairAny_snoc, ho.2]; simp [nearR]; omega
theorem stepR_last (o : List RR) (r : RR) (hs : ∀ z, o.getLast? = some z → z.f0 ≤ r.f0) : ∀ z, (stepR o r).getLast? = some z → z.f0 ≤ r.f0 := by
  intro z hz
  unfold stepR at hz
  split at hz
  · rename_i y hy
    split at hz
    · simp at hz; subst hz; exact hs y hy
    · simp at hz; subst hz; omega
  · simp at hz; subst hz; omega
theorem goodR_bad {xs : List RR} {r : RR} (h : r ∈ gathR xs) : badR r = false := by
  have h1 := gathR_in h
  have h2 := (List.mem_filter.1 h).2
  simp only [goodR, decide_eq_true_eq, inB] at h1 h2
  simp [badR]; omega
theorem joinR_canon {l : List RR} (hg : ∀ r ∈ l, badR r = false) (hp : l.Pairwise fun a b => a.f0 ≤ b.f0) : canonR (joinR l) = true := by
  suffices ∀ (l o : List RR), (∀ r ∈ l, badR r = false) → l.Pairwise (fun a b => a.f0 ≤ b.f0) → canonR o = true → (∀ z, o.getLast? = some z → ∀ r ∈ l, z.f0 ≤ r.f0) → canonR (l.foldl stepR o) = true from
    this l [] hg hp (by simp [canonR, pairAny]) (by simp)
  intro l
  induction l with
  | nil => intro o _ _ h _; exact h
  | cons x l ih =>
    intro o h1 h2 h3 h4
    rw [List.pairwise_cons] at h2
    refine ih _ (fun r hr => h1 r (List.mem_cons_of_mem _ hr)) h2.2 (stepR_canon h3 (h1 x List.mem_cons_self) (fun z hz => h4 z hz x List.mem_cons_self)) (fun z hz r hr => ?_)
    have h5 := stepR_last o x (fun z hz => h4 z hz x List.mem_cons_self) z hz
    have h6 := h2.1 r hr
    omega
theorem canon_step {l : List RR} {x : RR} (h : canonR (l ++ [x]) = true) : stepR l x = l ++ [x] ∧ canonR l = true := by
  simp only [canonR, Bool.and_eq_true, Bool.not_eq_true'] at h ⊢
  rcases List.eq_nil_or_concat l with rfl | ⟨l0, z, rfl⟩
  · simp [stepR, pairAny]
  · rw [List.concat_eq_append] at *
    have h2 := h.2
    rw [pairAny_snoc, Bool.or_eq_false_iff] at h2
    have h1 := h.1
    rw [List.any_append, Bool.or_eq_false_iff] at h1
    have h3 : ¬ x.f0 ≤ z.f1 + 1 := by simpa [nearR] using h2.2
    exact ⟨by simp [stepR, h3], h1.1, h2.1⟩
theorem joinR_id : ∀ (n : Nat) (l : List RR), l.length = n → canonR l = true → joinR l = l := by
  intro n
  induction n with
  | zero => intro l hl _; rw [List.eq_nil_of_length_eq_zero hl]; rfl
  | succ n ih =>
    intro l hl h
    rcases List.eq_nil_or_concat l with rfl | ⟨l0, z, rfl⟩
    · rfl
    · rw [List.concat_eq_append] at *
      obtain ⟨h1, h2⟩ := canon_step h
      rw [joinR_snoc, ih l0 (by simpa using hl) h2, h1]
theorem canon_gath {l : List RR} (h : canonR l = true) : gathR l = l := by
  simp only [canonR, Bool.and_eq_true, Bool.not_eq_true'] at h
  have h1 := h.1
  clear h
  induction l with
  | nil => rfl
  | cons x l ih =>
    rw [List.any_cons, Bool.or_eq_false_iff] at h1
    have hb : 0 ≤ x.f0 ∧ x.f0 ≤ x.f1 ∧ x.f1 ≤ 1114111 := by have := h1.1; simp [badR] at this; omega
    have e : clampR x = x := by
      unfold clampR
      rw [mx_max, mn_min, show max x.f0 0 = x.f0 by omega, show min x.f1 1114111 = x.f1 by omega]
    have ih' := ih h1.2
    simp only [gathR, List.map_cons, e] at ih' ⊢
    rw [List.filter_cons_of_pos (by simp [goodR]; omega), ih']
theorem canon_strict {l : List RR} (h : canonR l = true) : l.Pairwise fun a b => a.f0 < b.f0 := by
  simp only [canonR, Bool.and_eq_true, Bool.not_eq_true'] at h
  obtain ⟨h1, h2⟩ := h
  induction l with
  | nil => exact .nil
  | cons x l ih =>
    rw [List.any_cons, Bool.or_eq_false_iff] at h1
    rw [pairAny_cons, Bool.or_eq_false_iff] at h2
    have ih' := ih h1.2 h2.2
    refine List.pairwise_cons.2 ⟨fun y hy => ?_, ih'⟩
    cases l with
    | nil => cases hy
    | cons z l =>
      have h3 : ¬ z.f0 ≤ x.f1 + 1 := by simpa [nearR] using h2.1
      have h4 : x.f0 ≤ x.f1 := by have := h1.1; simp [badR] at this; omega
      have h5 : z.f0 ≤ y.f0 := by
        rcases List.mem_cons.1 hy with rfl | hy'
        · omega
        · have := (List.pairwise_cons.1 ih').1 y hy'; omega
      omega
theorem strict_perm {l l' : List RR} (h : l.Pairwise fun a b => a.f0 < b.f0) (hp : l'.Perm l) (hs : l'.Pairwise fun a b => a.f0 ≤ b.f0) : l' = l := by
  induction l generalizing l' with
  | nil => exact hp.eq_nil
  | cons x l ih =>
    cases l' with
    | nil => exact (hp.symm.eq_nil).symm ▸ rfl
    | cons y l' =>
      rw [List.pairwise_cons] at h hs
      have hxy : y = x := by
        have h1 : y ∈ x :: l := hp.mem_iff.1 List.mem_cons_self
        have h2 : x ∈ y :: l' := hp.mem_iff.2 List.mem_cons_self
        rcases List.mem_cons.1 h1 with h1 | h1
        · exact h1
        · rcases List.mem_cons.1 h2 with h2 | h2
          · exact h2.symm
          · have h3 := h.1 y h1
            have h4 := hs.1 x h2
            omega
      subst hxy
      rw [ih h.2 (List.Perm.cons_inv hp) hs.2]
/-- What Make makes is the set itself exactly if the set is as Make would have it. -/
theorem made_iff {xs out : List RR} (h : MadeR xs out) : decide (out = xs) = canonR xs := by
  obtain ⟨l', hp, hs, rfl⟩ := h
  rw [Bool.eq_iff_iff, decide_eq_true_eq]
  constructor
  · intro e
    rw [← e]
    exact joinR_canon (fun r hr => goodR_bad (hp.mem_iff.1 hr)) hs
  · intro hc
    rw [canon_gath hc] at hp
    rw [strict_perm (canon_strict hc) hp hs]
    exact joinR_id _ xs rfl hc
end Go.Proofs.YtipedgkampafjaaGreatDoor.Rf
/- When replacing ends for all, and that lengths exist. -/
namespace Go.Proofs.YtipedgkampafjaaGreatDoor.Rf
open Go.Shelf Go.RowKit Go.Proofs.YtipedgkampafjaaGreatDoorW.PrintWords Go.Proofs.YtipedgkampafjaaGreatDoorW.PrintLast Go.Proofs.YtipedgkampafjaaGreatDoorW.PrintMore

variable {dm : List S61} {cp : Bool}
/-- Replacing ends for all code points that have a mapping. -/
def AllEnds (dm : List S61) : Prop := ∀ c m, lastM dm c = some m → Ends dm true c
theorem edge_false {x c : Int} (h : Edge dm false x c) : Edge dm true x c := by
  obtain ⟨tl, h1, h2⟩ := h
  refine ⟨tl, ?_, h2⟩
  unfold onceS at h1 ⊢
  split
  · rename_i hk4
    rw [if_pos hk4] at h1
    cases hl : lastM dm c with
    | none => rw [hl] at h1; cases h1
    | some m =>
      rw [hl] at h1
      simp only at h1 ⊢
      split at h1
      · cases h1
      · rw [if_neg (by simp)]; exact h1
  · rename_i hk4
    rwa [if_neg hk4] at h1
theorem ends_false {c : Int} (h : Ends dm true c) : Ends dm false c := by
  unfold Ends at h ⊢
  induction h with
  | intro c _ ih => exact Acc.intro c fun y hy => ih y (edge_false hy)
theorem hk_parts {c x : Int} (h : ¬ hk c < 4) (hx : x ∈ hdec c) : hk x < 4 ∧ hk x ≠ 0 := by
  have hs := hk_syl h
  unfold hdec at hx
  rw [if_neg h] at hx
  have a0 : 4352 ≤ hp0 c ∧ hp0 c < 4371 := by unfold hp0; omega
  have a1 : 4449 ≤ hp1 c ∧ hp1 c < 4470 := by unfold hp1; omega
  have k0 : ∀ y, 4352 ≤ y ∧ y < 4371 → hk y = 1 := fun y hy => by unfold hk; rw [if_neg (by omega), if_pos hy]
  have k1 : ∀ y, 4449 ≤ y ∧ y < 4470 → hk y = 2 := fun y hy => by unfold hk; rw [if_neg (by omega), if_neg (by omega), if_pos hy]
  have k2 : ∀ y, 4520 ≤ y ∧ y < 4547 → hk y = 3 := fun y hy => by unfold hk; rw [if_neg (by omega), if_neg (by omega), if_neg (by omega), if_pos hy]
  split at hx <;> simp only [List.mem_cons, List.not_mem_nil, or_false] at hx
  · rcases hx with rfl | rfl
    · rw [k0 _ a0]; decide
    · rw [k1 _ a1]; decide
  · rename_i hne
    have a2 : 4520 ≤ hp2 c ∧ hp2 c < 4547 := by unfold hp2; rw [if_neg hne]; omega
    rcases hx with rfl | rfl | rfl
    · rw [k0 _ a0]; decide
    · rw [k1 _ a1]; decide
    · rw [k2 _ a2]; decide
theorem once_none {c : Int} (h4 : hk c < 4) (h : ∀ m, lastM dm c ≠ some m) : onceS dm cp c = none := by
  unfold onceS
  rw [if_pos h4]
  cases hl : lastM dm c with
  | none => rfl
  | some m => exact absurd hl (h m)
/-- If no mapping is of a part or of a syllable and replacing ends for all that have one, then for all. -/
theorem ends_all (hkd : ∀ m ∈ dm, hk m.f0 = 0) (h : AllEnds dm) (c : Int) : Ends dm true c := by
  by_cases h4 : hk c < 4
  · cases hl : lastM dm c with
    | some m => exact h c m hl
    | none => exact Acc.intro c fun y ⟨tl, h1, _⟩ => by rw [once_none h4 (by rw [hl]; intro m hm; cases hm)] at h1; cases h1
  · refine Acc.intro c fun y ⟨tl, h1, h2⟩ => ?_
    unfold onceS at h1
    rw [if_neg h4] at h1
    cases h1
    obtain ⟨h5, h6⟩ := hk_parts h4 h2
    refine Acc.intro y fun z ⟨tl, h7, _⟩ => ?_
    rw [once_none h5 (fun m hm => h6 (by obtain ⟨h8, h9⟩ := lastM_mem hm; rw [← h9]; exact hkd m h8))] at h7
    cases h7

/-! ### lengths -/
/-- One step. -/
def stepL (dm : List S61) (cp : Bool) (c : Int) (ih : ∀ y, Edge dm cp y c → Int) : Int :=
  match h : onceS dm cp c with
  | none => 1
  | some tl => max (sat (tl.attach.map fun x => ih x.1 ⟨tl, h, x.2⟩)) 1
theorem stepL_none {c : Int} {ih : ∀ y, Edge dm cp y c → Int} (h : onceS dm cp c = none) : stepL dm cp c ih = 1 := by
  unfold stepL
  split
  · rfl
  · rename_i tl h'; rw [h] at h'; cases h'
theorem stepL_some {c : Int} {tl : List Int} {F : Int → Int} (h : onceS dm cp c = some tl) : stepL dm cp c (fun y _ => F y) = max (sat (tl.map F)) 1 := by
  unfold stepL
  split
  · rename_i h'; rw [h] at h'; cases h'
  · rename_i tl' h'
    rw [h] at h'
    cases h'
    congr 2
    exact List.attach_map_val
/-- How many elements a full decomposition has, at most 65. -/
noncomputable def lenW (hwf : ∀ c, Ends dm cp c) : Int → Int := (WellFounded.intro hwf).fix (C := fun _ => Int) (stepL dm cp)
theorem lenW_eq (hwf : ∀ c, Ends dm cp c) (c : Int) : lenW hwf c = stepL dm cp c (fun y _ => lenW hwf y) := WellFounded.fix_eq _ _ _
theorem lenW_none (hwf : ∀ c, Ends dm cp c) {c : Int} (h : onceS dm cp c = none) : lenW hwf c = 1 := by rw [lenW_eq, stepL_none h]
theorem lenW_some (hwf : ∀ c, Ends dm cp c) {c : Int} {tl : List Int} (h : onceS dm cp c = some tl) : lenW hwf c = max (sat (tl.map (lenW hwf))) 1 := by rw [lenW_eq, stepL_some h]
theorem len_exists (hwf : ∀ c, Ends dm cp c) : IsLen dm cp (lenW hwf) := by
  refine ⟨fun c h => lenW_none hwf h, fun c tl h => lenW_some hwf h, fun c => ?_⟩
  have ha := hwf c
  unfold Ends at ha
  induction ha with
  | intro c _ ih =>
    cases h : onceS dm cp c with
    | none => rw [lenW_none hwf h]; omega
    | some tl =>
      have hs := sat_range (tl.map (lenW hwf)) (fun v hv => by
        obtain ⟨x, hx, rfl⟩ := List.mem_map.1 hv
        have := ih x ⟨tl, h, hx⟩; omega)
      rw [lenW_some hwf h]
      omega
theorem len_unique (hwf : ∀ c, Ends dm cp c) {L L' : Int → Int} (h : IsLen dm cp L) (h' : IsLen dm cp L') (c : Int) : L c = L' c := by
  have ha := hwf c
  unfold Ends at ha
  induction ha with
  | intro c _ ih =>
    cases ho : onceS dm cp c with
    | none => rw [h.1 c ho, h'.1 c ho]
    | some tl =>
      rw [h.2.1 c tl ho, h'.2.1 c tl ho, List.map_congr_left fun x hx => ih x ⟨tl, ho, hx⟩]
end Go.Proofs.YtipedgkampafjaaGreatDoor.Rf
