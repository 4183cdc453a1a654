import Derived.Sort.LotA
import Derived.Test.YtipedgkampafjaaDoorGa
import Derived.Test.YtipedgkampafjaaDoorSh
import Derived.IntWalk
import Derived.Outline
/- Tells, in plain Lean, what a stable sort of a part of a row is: the same elements of each key in the same order, ascending by key; and that there is only one such row. -/
namespace Go.Proofs.YtipedgkampafjaaDoor.Rf
open Go.Sort

variable {α : Type} [Inhabited α]

/-- A part of a row, as a list. -/
def seg (d : Array α) (a b : Nat) : List α := (List.range' a (b - a)).map fun i => d[i]!
theorem seg_append (d : Array α) (a m b : Nat) (h1 : a ≤ m) (h2 : m ≤ b) : seg d a b = seg d a m ++ seg d m b := by
  unfold seg
  rw [← List.map_append]
  congr 1
  have e : b - a = (m - a) + (b - m) := by omega
  rw [e, ← List.range'_append_1]
  congr 2
  omega
theorem seg_nil (d : Array α) (a b : Nat) (h : b ≤ a) : seg d a b = [] := by
  unfold seg
  rw [show b - a = 0 by omega]; rfl
theorem seg_one (d : Array α) (a : Nat) : seg d a (a + 1) = [d[a]!] := by
  unfold seg
  rw [show a + 1 - a = 1 by omega]; rfl
theorem seg_length (d : Array α) (a b : Nat) : (seg d a b).length = b - a := by simp [seg]
theorem seg_get (d : Array α) (a b i : Nat) (h : i < b - a) (h' : i < (seg d a b).length) : (seg d a b)[i] = d[a + i]! := by simp [seg]
theorem seg_congr {d e : Array α} {a b : Nat} (h : ∀ i, a ≤ i → i < b → d[i]! = e[i]!) : seg d a b = seg e a b := by
  unfold seg
  apply List.map_congr_left
  intro i hi
  have := List.mem_range'_1.1 hi
  exact h i this.1 (by omega)
theorem seg_mem {d : Array α} {a b : Nat} {x : α} (h : x ∈ seg d a b) : ∃ i, a ≤ i ∧ i < b ∧ x = d[i]! := by
  obtain ⟨i, hi, rfl⟩ := List.mem_map.1 h
  have := List.mem_range'_1.1 hi
  exact ⟨i, this.1, by omega, rfl⟩
theorem seg_all (d : Array α) : seg d 0 d.size = d.toList := by
  apply List.ext_getElem
  · simp [seg]
  · intro i h1 h2
    have h3 : i < d.size := by simpa using h2
    rw [seg_get d 0 d.size i (by omega)]
    simp [getElem!_pos, h3]

variable (key : α → Int)
def ltK (x y : α) : Bool := decide (key x < key y)
omit [Inhabited α] in
theorem ltK_swo : SWO (ltK key) := ⟨fun x => by simp [ltK], fun x y z h1 h2 => by simp [ltK] at *; omega, fun x y z h1 h2 => by simp [ltK] at *; omega⟩
/-- The elements of one key. -/
def ofKey (k : Int) (l : List α) : List α := l.filter fun x => key x == k
omit [Inhabited α] in
theorem ofKey_append (k : Int) (a b : List α) : ofKey key k (a ++ b) = ofKey key k a ++ ofKey key k b := List.filter_append ..
/-- The places from a on ahead of b are put in another order that keeps those of one key as they follow each other; all else is as it was. -/
structure StIn (a b : Nat) (d e : Array α) : Prop where
  size : e.size = d.size
  out : ∀ i, i < a ∨ b ≤ i → e[i]! = d[i]!
  keys : ∀ k, ofKey key k (seg e a b) = ofKey key k (seg d a b)
variable {key}
theorem StIn.refl (a b : Nat) (d : Array α) : StIn key a b d d := ⟨rfl, fun _ _ => rfl, fun _ => rfl⟩
theorem StIn.trans {a b : Nat} {d e f : Array α} (h : StIn key a b d e) (g : StIn key a b e f) : StIn key a b d f :=
  ⟨g.size.trans h.size, fun i hi => (g.out i hi).trans (h.out i hi), fun k => (g.keys k).trans (h.keys k)⟩
theorem StIn.mono {a b a' b' : Nat} {d e : Array α} (h : StIn key a b d e) (h1 : a' ≤ a) (h2 : b ≤ b') (hab : a ≤ b) : StIn key a' b' d e := by
  refine ⟨h.size, fun i hi => h.out i (by omega), fun k => ?_⟩
  have e1 : seg e a' a = seg d a' a := seg_congr fun i _ hi => h.out i (.inl hi)
  have e2 : seg e b b' = seg d b b' := seg_congr fun i hi _ => h.out i (.inr hi)
  rw [seg_append e a' a b' h1 (by omega), seg_append e a b b' hab h2, seg_append d a' a b' h1 (by omega), seg_append d a b b' hab h2]
  simp only [ofKey_append]
  rw [h.keys, e1, e2]
theorem StIn.mem {a b : Nat} {d e : Array α} (h : StIn key a b d e) {x : α} : x ∈ seg e a b ↔ x ∈ seg d a b := by
  have h2 : ∀ l : List α, x ∈ l ↔ x ∈ ofKey key (key x) l := fun l => by simp [ofKey]
  rw [h2 (seg e a b), h.keys, ← h2]
theorem StIn.all {a b : Nat} {d e : Array α} (h : StIn key a b d e) {p : α → Prop} (hp : ∀ i, a ≤ i → i < b → p d[i]!) : ∀ i, a ≤ i → i < b → p e[i]! := by
  intro i h1 h2
  have hm : e[i]! ∈ seg e a b := List.mem_map.2 ⟨i, List.mem_range'_1.2 ⟨h1, by omega⟩, rfl⟩
  obtain ⟨j, j1, j2, hj⟩ := seg_mem (h.mem.1 hm)
  rw [hj]; exact hp j j1 j2
theorem SortedIn.keys {a b : Nat} {d : Array α} (h : SortedIn (ltK key) a b d) {i j : Nat} (h1 : a ≤ i) (h2 : i ≤ j) (h3 : j < b) : key d[i]! ≤ key d[j]! := by
  by_cases e : i = j
  · subst e; omega
  · have := h i j h1 (by omega) h3
    simp [ltK] at this; omega

/-- Two neighbours of which the right one has the smaller key change places. -/
theorem StIn.swap {a b j : Nat} {d : Array α} (h1 : a ≤ j) (h2 : j + 1 < b) (hb : b ≤ d.size) (hlt : ltK key d[j + 1]! d[j]! = true) : StIn key a b d (swp d (j + 1) j) := by
  have g := swp_get d (show j + 1 < d.size by omega) (show j < d.size by omega)
  refine ⟨swp_size _ _ _, fun i hi => by rw [g]; rw [if_neg (by omega), if_neg (by omega)], fun k => ?_⟩
  have e1 : seg (swp d (j + 1) j) a j = seg d a j := seg_congr fun i _ hi => by rw [g, if_neg (by omega), if_neg (by omega)]
  have e2 : seg (swp d (j + 1) j) (j + 2) b = seg d (j + 2) b := seg_congr fun i hi _ => by rw [g, if_neg (by omega), if_neg (by omega)]
  have cut : ∀ f : Array α, seg f a b = seg f a j ++ ([f[j]!] ++ ([f[j + 1]!] ++ seg f (j + 2) b)) := fun f => by
    rw [seg_append f a j b h1 (by omega), seg_append f j (j + 1) b (by omega) (by omega), seg_append f (j + 1) (j + 1 + 1) b (by omega) (by omega), seg_one, seg_one]
  rw [cut, cut d, e1, e2]
  simp only [ofKey_append]
  have f1 : (swp d (j + 1) j)[j]! = d[j + 1]! := by rw [g, if_pos rfl]
  have f2 : (swp d (j + 1) j)[j + 1]! = d[j]! := by rw [g, if_neg (by omega), if_pos rfl]
  rw [f1, f2]
  simp only [ltK, decide_eq_true_eq] at hlt
  have : ofKey key k [d[j + 1]!] = [] ∨ ofKey key k [d[j]!] = [] := by
    by_cases hk : key d[j + 1]! = k
    · right; simp [ofKey]; omega
    · left; simp [ofKey, hk]
  rcases this with h | h <;> simp [h]

theorem insInner_st (a b : Nat) : ∀ (j : Nat) (d : Array α), j < b → b ≤ d.size → StIn key a b d (insInner (ltK key) a j d)
  | 0, d, _, _ => by unfold insInner; exact StIn.refl _ _ _
  | j + 1, d, hj, hb => by
    unfold insInner
    split
    · rename_i hc
      simp only [Bool.and_eq_true, decide_eq_true_eq] at hc
      exact (StIn.swap (by omega) hj hb hc.2).trans (insInner_st a b j _ (by omega) (by rw [swp_size]; exact hb))
    · exact StIn.refl _ _ _
theorem insOuter_st (a b : Nat) : ∀ (n i : Nat) (d : Array α), b - i = n → b ≤ d.size → StIn key a b d (insOuter (ltK key) a b i d)
  | 0, i, d, hn, _ => by rw [insOuter, if_neg (by omega)]; exact StIn.refl _ _ _
  | n + 1, i, d, hn, hb => by
    rw [insOuter, if_pos (by omega)]
    have h := insInner_st (key := key) a b i d (by omega) hb
    exact h.trans (insOuter_st a b n (i + 1) _ (by omega) (by rw [h.size]; exact hb))
theorem insertionSort_st (d : Array α) (a b : Nat) (hab : a ≤ b) (hb : b ≤ d.size) : StIn key a b d (insertionSort (ltK key) d a b) ∧ SortedIn (ltK key) a b (insertionSort (ltK key) d a b) :=
  ⟨insOuter_st a b _ (a + 1) d rfl hb, (insertionSort_holds (ltK_swo key) d a b hab hb).2⟩

/-- The two parts of a row from a on, ahead of m and from m on, have changed places. -/
structure RotIn (a m b : Nat) (d e : Array α) : Prop where
  size : e.size = d.size
  out : ∀ i, i < a ∨ b ≤ i → e[i]! = d[i]!
  left : ∀ i, i < b - m → e[a + i]! = d[m + i]!
  right : ∀ i, i < m - a → e[a + (b - m) + i]! = d[a + i]!
theorem RotIn.seg {a m b : Nat} {d e : Array α} (h : RotIn a m b d e) (h1 : a ≤ m) (h2 : m ≤ b) : seg e a b = seg d m b ++ seg d a m := by
  rw [seg_append e a (a + (b - m)) b (by omega) (by omega)]
  congr 1
  · apply List.ext_getElem
    · simp [seg_length]
    · intro i i1 i2
      rw [seg_length] at i1 i2
      rw [seg_get _ _ _ _ (by omega), seg_get _ _ _ _ (by omega)]; exact h.left i (by omega)
  · apply List.ext_getElem
    · simp [seg_length]; omega
    · intro i i1 i2
      rw [seg_length] at i1 i2
      rw [seg_get _ _ _ _ (by omega), seg_get _ _ _ _ (by omega)]; exact h.right i (by omega)
theorem RotIn.st {a m b : Nat} {d e : Array α} (h : RotIn a m b d e) (h1 : a ≤ m) (h2 : m ≤ b) (hlt : ∀ i j, a ≤ i → i < m → m ≤ j → j < b → key d[j]! < key d[i]!) : StIn key a b d e := by
  refine ⟨h.size, h.out, fun k => ?_⟩
  rw [h.seg h1 h2, seg_append d a m b h1 h2, ofKey_append, ofKey_append]
  by_cases hk : ofKey key k (Rf.seg d a m) = []
  · simp [hk]
  · have : ofKey key k (Rf.seg d m b) = [] := by
      obtain ⟨x, hx⟩ := List.exists_mem_of_ne_nil _ hk
      simp only [ofKey, List.mem_filter, beq_iff_eq] at hx
      obtain ⟨i, i1, i2, rfl⟩ := seg_mem hx.1
      simp only [ofKey, List.filter_eq_nil_iff, beq_iff_eq]
      intro y hy
      obtain ⟨j, j1, j2, rfl⟩ := seg_mem hy
      have := hlt i j i1 i2 j1 j2
      omega
    simp [this]

/-- One step of a merge: the row is cut at 's' and at 't', the two inner parts change places, and both halves are sorted. -/
theorem merge_step {a s m t b q : Nat} {d e f g : Array α} (h1 : a ≤ s) (h2 : s ≤ m) (h3 : m ≤ t) (h4 : t ≤ b) (hq : q = s + (t - m))
    (hU : SortedIn (ltK key) a m d) (hV : SortedIn (ltK key) m b d)
    (hlt : s < m → m < t → key d[t - 1]! < key d[s]!) (hle : a < s → t < b → key d[s - 1]! ≤ key d[t]!)
    (hr : RotIn s m t d e) (hf : StIn key a q e f) (sf : SortedIn (ltK key) a q f) (hg : StIn key q b f g) (sg : SortedIn (ltK key) q b g) :
    StIn key a b d g ∧ SortedIn (ltK key) a b g := by
  subst hq
  have hrs : StIn key s t d e := hr.st h2 h3 fun i j i1 i2 j1 j2 => by
    have := hlt (by omega) (by omega)
    have u := SortedIn.keys hU (i := s) (j := i) h1 i1 i2
    have v := SortedIn.keys hV (i := j) (j := t - 1) j1 (by omega) (by omega)
    omega
  refine ⟨(hrs.mono h1 h4 (by omega)).trans ((hf.mono (Nat.le_refl _) (by omega) (by omega)).trans (hg.mono (by omega) (Nat.le_refl _) (by omega))), ?_⟩
  have low : ∀ i, a ≤ i → i < s + (t - m) → ∀ j, s + (t - m) ≤ j → j < b → key e[i]! ≤ key e[j]! := by
    intro i i1 i2 j j1 j2
    have ei : (i < s ∧ e[i]! = d[i]!) ∨ (∃ k, k < t - m ∧ e[i]! = d[m + k]!) := by
      by_cases h : i < s
      · exact .inl ⟨h, hr.out i (.inl h)⟩
      · exact .inr ⟨i - s, by omega, by have := hr.left (i - s) (by omega); rwa [show s + (i - s) = i by omega] at this⟩
    have ej : (t ≤ j ∧ e[j]! = d[j]!) ∨ (∃ k, k < m - s ∧ e[j]! = d[s + k]!) := by
      by_cases h : t ≤ j
      · exact .inl ⟨h, hr.out j (.inr h)⟩
      · exact .inr ⟨j - (s + (t - m)), by omega, by have := hr.right (j - (s + (t - m))) (by omega); rwa [show s + (t - m) + (j - (s + (t - m))) = j by omega] at this⟩
    rcases ei with ⟨p, ei⟩ | ⟨k, hk, ei⟩ <;> rcases ej with ⟨r, ej⟩ | ⟨l, hl, ej⟩ <;> rw [ei, ej]
    · have := hle (by omega) (by omega)
      have u := SortedIn.keys hU (i := i) (j := s - 1) i1 (by omega) (by omega)
      have v := SortedIn.keys hV (i := t) (j := j) (by omega) r j2
      omega
    · exact SortedIn.keys hU i1 (by omega) (by omega)
    · exact SortedIn.keys hV (by omega) (by omega) j2
    · have := hlt (by omega) (by omega)
      have u := SortedIn.keys hU (i := s) (j := s + l) h1 (by omega) (by omega)
      have v := SortedIn.keys hV (i := m + k) (j := t - 1) (by omega) (by omega) (by omega)
      omega
  have lowf : ∀ i, a ≤ i → i < s + (t - m) → ∀ j, s + (t - m) ≤ j → j < b → key f[i]! ≤ key f[j]! := by
    intro i i1 i2 j j1 j2
    rw [hf.out j (.inr j1)]
    exact hf.all (p := fun x => key x ≤ key e[j]!) (fun i i1 i2 => low i i1 i2 j j1 j2) i i1 i2
  have lowg : ∀ i, a ≤ i → i < s + (t - m) → ∀ j, s + (t - m) ≤ j → j < b → key g[i]! ≤ key g[j]! := by
    intro i i1 i2 j j1 j2
    rw [hg.out i (.inl i2)]
    exact hg.all (p := fun x => key f[i]! ≤ key x) (fun j j1 j2 => lowf i i1 i2 j j1 j2) j j1 j2
  intro i j i1 ij j2
  by_cases hj : j < s + (t - m)
  · have := sf i j i1 ij hj
    rwa [← hg.out i (.inl (by omega)), ← hg.out j (.inl hj)] at this
  · by_cases hi : i < s + (t - m)
    · have := lowg i i1 hi j (by omega) j2
      simp [ltK]; omega
    · exact sg i j (by omega) ij j2

/-- The first element goes in among the others. -/
theorem ins_left {a m t b : Nat} {d e : Array α} (hm : m = a + 1) (h3 : m ≤ t) (h4 : t ≤ b) (hV : SortedIn (ltK key) m b d) (hlt : ∀ p, m ≤ p → p < t → key d[p]! < key d[a]!) (hle : ∀ p, t ≤ p → p < b → key d[a]! ≤ key d[p]!)
    (hr : RotIn a m t d e) : StIn key a b d e ∧ SortedIn (ltK key) a b e := by
  refine merge_step (s := a) (m := m) (t := t) (q := a + (t - m)) (Nat.le_refl _) (by omega) h3 h4 rfl (fun i j h1 h2 h3 => by omega) hV (fun _ h => hlt (t - 1) (by omega) (by omega)) (fun h => by omega) hr (StIn.refl _ _ _) ?_ (StIn.refl _ _ _) ?_
  · intro i j h1 h2 h5
    have ei := hr.left (i - a) (by omega)
    have ej := hr.left (j - a) (by omega)
    rw [show a + (i - a) = i by omega] at ei
    rw [show a + (j - a) = j by omega] at ej
    rw [ei, ej]
    exact hV _ _ (by omega) (by omega) (by omega)
  · intro i j h1 h2 h5
    rw [hr.out j (by omega)]
    by_cases hi : i = a + (t - m)
    · have ei := hr.right 0 (by omega)
      subst hi
      simp only [Nat.add_zero] at ei
      rw [ei]
      have := hle j (by omega) h5
      simp [ltK]; omega
    · rw [hr.out i (by omega)]
      exact hV _ _ (by omega) h2 h5
/-- The last element goes in among the others. -/
theorem ins_right {a s m b : Nat} {d e : Array α} (hb : b = m + 1) (h1 : a ≤ s) (h2 : s ≤ m) (hU : SortedIn (ltK key) a m d) (hle : ∀ p, a ≤ p → p < s → key d[p]! ≤ key d[m]!) (hlt : ∀ p, s ≤ p → p < m → key d[m]! < key d[p]!)
    (hr : RotIn s m b d e) : StIn key a b d e ∧ SortedIn (ltK key) a b e := by
  subst hb
  refine merge_step (s := s) (m := m) (t := m + 1) (q := s + (m + 1 - m)) h1 h2 (by omega) (Nat.le_refl _) rfl hU (fun i j h1 h2 h3 => by omega) (fun h _ => hlt s (Nat.le_refl _) h) (fun _ h => by omega) hr (StIn.refl _ _ _) ?_ (StIn.refl _ _ _) ?_
  · intro i j i1 ij j2
    rw [hr.out i (by omega)]
    by_cases hj : j = s
    · have ej := hr.left 0 (by omega)
      subst hj
      simp only [Nat.add_zero] at ej
      rw [ej]
      have := hle i i1 (by omega)
      simp [ltK]; omega
    · rw [hr.out j (by omega)]
      exact hU _ _ i1 ij (by omega)
  · intro i j i1 ij j2
    have ei := hr.right (i - (s + (m + 1 - m))) (by omega)
    have ej := hr.right (j - (s + (m + 1 - m))) (by omega)
    rw [show s + (m + 1 - m) + (i - (s + (m + 1 - m))) = i by omega] at ei
    rw [show s + (m + 1 - m) + (j - (s + (m + 1 - m))) = j by omega] at ej
    rw [ei, ej]
    exact hU _ _ (by omega) (by omega) (by omega)
/-- A rotation, neighbour by neighbour. -/
theorem RotIn.same {a m b : Nat} (d : Array α) (h : a = m ∨ m = b) : RotIn a m b d d := by
  refine ⟨rfl, fun _ _ => rfl, fun i hi => ?_, fun i hi => ?_⟩
  · rcases h with h | h
    · rw [h]
    · omega
  · rcases h with h | h
    · omega
    · rw [h, Nat.sub_self, Nat.add_zero]
theorem RotIn.up {a k : Nat} {d e : Array α} (hak : a ≤ k) (hk : k + 1 < d.size) (h : RotIn a (a + 1) (k + 1) d e) : RotIn a (a + 1) (k + 1 + 1) d (swp e k (k + 1)) := by
  have g := swp_get e (i := k) (j := k + 1) (by rw [h.size]; omega) (by rw [h.size]; omega)
  refine ⟨by rw [swp_size]; exact h.size, fun i hi => ?_, fun i hi => ?_, fun i hi => ?_⟩
  · rw [g, if_neg (by omega), if_neg (by omega)]; exact h.out i (by omega)
  · by_cases hi2 : a + i = k
    · rw [g, if_neg (by omega), if_pos hi2, h.out (k + 1) (by omega), show a + 1 + i = k + 1 by omega]
    · rw [g, if_neg (by omega), if_neg (by omega)]; exact h.left i (by omega)
  · have ek := h.right 0 (by omega)
    rw [show a + (k + 1 - (a + 1)) + 0 = k by omega] at ek
    rw [g, if_pos (by omega), ek, show i = 0 by omega]
theorem RotIn.down {k m : Nat} {d e : Array α} (hkm : k < m) (hm : m < d.size) (h : RotIn (k + 1) m (m + 1) d e) : RotIn k m (m + 1) d (swp e (k + 1) k) := by
  have g := swp_get e (i := k + 1) (j := k) (by rw [h.size]; omega) (by rw [h.size]; omega)
  refine ⟨by rw [swp_size]; exact h.size, fun i hi => ?_, fun i hi => ?_, fun i hi => ?_⟩
  · rw [g, if_neg (by omega), if_neg (by omega)]; exact h.out i (by omega)
  · have ek := h.left 0 (by omega)
    simp only [Nat.add_zero] at ek
    rw [show k + i = k by omega, g, if_pos rfl, ek, show m + i = m by omega]
  · by_cases hi2 : i = 0
    · subst hi2
      rw [show k + (m + 1 - m) + 0 = k + 1 by omega, g, if_neg (by omega), if_pos rfl, h.out k (by omega), Nat.add_zero]
    · have ek := h.right (i - 1) (by omega)
      rw [show k + 1 + (m + 1 - m) + (i - 1) = k + (m + 1 - m) + i by omega, show k + 1 + (i - 1) = k + i by omega] at ek
      rw [g, if_neg (by omega), if_neg (by omega), ek]

omit [Inhabited α] in
/-- Ascending lists with the same elements of each key are one. -/
theorem keys_unique : ∀ (l m : List α), l.Pairwise (fun x y => key x ≤ key y) → m.Pairwise (fun x y => key x ≤ key y) → (∀ k, ofKey key k l = ofKey key k m) → l = m
  | [], [], _, _, _ => rfl
  | [], y :: m, _, _, h => by have := h (key y); simp [ofKey] at this
  | x :: l, [], _, _, h => by have := h (key x); simp [ofKey] at this
  | x :: l, y :: m, hl, hm, h => by
    have hx := List.pairwise_cons.1 hl
    have hy := List.pairwise_cons.1 hm
    have kxy : key x = key y := by
      have m1 : x ∈ y :: m := by
        have : x ∈ ofKey key (key x) (y :: m) := by rw [← h]; simp [ofKey]
        exact (List.mem_filter.1 this).1
      have m2 : y ∈ x :: l := by
        have : y ∈ ofKey key (key y) (x :: l) := by rw [h]; simp [ofKey]
        exact (List.mem_filter.1 this).1
      have a1 : key y ≤ key x := by
        rcases List.mem_cons.1 m1 with e | e
        · rw [e]; omega
        · exact hy.1 x e
      have a2 : key x ≤ key y := by
        rcases List.mem_cons.1 m2 with e | e
        · rw [e]; omega
        · exact hx.1 y e
      omega
    have hh := h (key x)
    simp only [ofKey, List.filter_cons, beq_self_eq_true, if_true, kxy] at hh
    obtain ⟨rfl, _⟩ := List.cons.inj hh
    congr 1
    refine keys_unique l m hx.2 hy.2 fun k => ?_
    have := h k
    simp only [ofKey, List.filter_cons] at this
    split at this
    · exact (List.cons.inj this).2
    · exact this
theorem SortedIn.pairwise {a b : Nat} {d : Array α} (h : SortedIn (ltK key) a b d) : (seg d a b).Pairwise (fun x y => key x ≤ key y) := by
  rw [List.pairwise_iff_getElem]
  intro i j hi hj hij
  rw [seg_length] at hi hj
  rw [seg_get _ _ _ _ (by omega), seg_get _ _ _ _ (by omega)]
  exact SortedIn.keys h (by omega) (by omega) (by omega)
end Go.Proofs.YtipedgkampafjaaDoor.Rf
/- Tells, in plain Lean, what canonical order is: each run of elements that are no starters is sorted by class. -/
namespace Go.Proofs.YtipedgkampafjaaDoor.Rf
open Go.Sort

variable (cl : Int → Int)
/-- An element is put in front of the sorted rest: it goes behind those that are no starters and have smaller classes. -/
def cins (x : Int) : List Int → List Int
  | [] => [x]
  | y :: l => if cl y ≠ 0 ∧ cl y < cl x then y :: cins x l else x :: y :: l
/-- Canonical order. -/
def csort : List Int → List Int
  | [] => []
  | x :: l => if cl x = 0 then x :: csort l else cins cl x (csort l)

theorem cins_mem {x z : Int} : ∀ {l : List Int}, z ∈ cins cl x l ↔ z = x ∨ z ∈ l
  | [] => by simp [cins]
  | y :: l => by
    unfold cins
    split
    · rw [List.mem_cons, cins_mem, List.mem_cons]; constructor <;> (rintro (h | h | h) <;> simp [h])
    · simp
theorem cins_length (x : Int) : ∀ (l : List Int), (cins cl x l).length = l.length + 1
  | [] => rfl
  | y :: l => by
    unfold cins
    split
    · simp [cins_length x l]
    · simp
theorem csort_length : ∀ (l : List Int), (csort cl l).length = l.length
  | [] => rfl
  | x :: l => by
    unfold csort
    split
    · simp [csort_length l]
    · simp [cins_length, csort_length l]
theorem csort_mem {z : Int} : ∀ {l : List Int}, z ∈ csort cl l ↔ z ∈ l
  | [] => by simp [csort]
  | x :: l => by
    unfold csort
    split
    · simp [csort_mem (l := l)]
    · rw [cins_mem, csort_mem (l := l), List.mem_cons]
/-- Two that are no starters and have different classes may be put in either order. -/
theorem cins_comm {x y : Int} (hx : cl x ≠ 0) (hy : cl y ≠ 0) (h : cl x ≠ cl y) : ∀ (l : List Int), cins cl x (cins cl y l) = cins cl y (cins cl x l)
  | [] => by
    simp only [cins]
    by_cases h1 : cl y < cl x
    · rw [if_pos ⟨hy, h1⟩, if_neg (by omega)]
    · rw [if_neg (by omega), if_pos ⟨hx, by omega⟩]
  | z :: l => by
    have ih := cins_comm hx hy h l
    simp only [cins]
    by_cases z0 : cl z = 0
    · simp only [z0, ne_eq, not_true, false_and, if_false, cins]
      by_cases h1 : cl y < cl x
      · rw [if_pos ⟨hy, h1⟩, if_neg (by omega)]
      · rw [if_neg (by omega), if_pos ⟨hx, by omega⟩]
    · by_cases a : cl z < cl y <;> by_cases b : cl z < cl x
      · simp only [ne_eq, z0, not_false_iff, a, b, and_self, if_true, cins, ih]
      · have c : cl x < cl y := by omega
        simp only [ne_eq, z0, not_false_iff, a, b, and_self, and_false, if_true, if_false, cins, hx, c]
      · have c : cl y < cl x := by omega
        simp only [ne_eq, z0, not_false_iff, a, b, and_self, and_false, if_true, if_false, cins, hy, c]
      · by_cases h1 : cl y < cl x
        · have h2 : ¬ cl x < cl y := by omega
          simp only [ne_eq, z0, not_false_iff, a, b, and_self, and_false, if_true, if_false, cins, hy, hx, h1, h2]
        · have h2 : cl x < cl y := by omega
          simp only [ne_eq, z0, not_false_iff, a, b, and_self, and_false, if_true, if_false, cins, hy, hx, h1, h2]

/-- A list is in canonical order. -/
def isC : List Int → Prop
  | [] => True
  | x :: l => (match l with | [] => True | y :: _ => cl x = 0 ∨ cl y = 0 ∨ cl x ≤ cl y) ∧ isC l
theorem isC_cins {x : Int} (hx : cl x ≠ 0) : ∀ {l : List Int}, isC cl l → isC cl (cins cl x l)
  | [], _ => ⟨trivial, trivial⟩
  | y :: l, h => by
    unfold cins
    split
    · rename_i hc
      refine ⟨?_, isC_cins hx h.2⟩
      cases l with
      | nil => simp [cins]; omega
      | cons z l =>
        by_cases hz : cl z ≠ 0 ∧ cl z < cl x
        · rw [cins, if_pos hz]; exact h.1
        · rw [cins, if_neg hz]; show cl y = 0 ∨ cl x = 0 ∨ cl y ≤ cl x; omega
    · rename_i hc
      refine ⟨?_, h⟩
      show cl x = 0 ∨ cl y = 0 ∨ cl x ≤ cl y
      omega
theorem isC_csort : ∀ (l : List Int), isC cl (csort cl l)
  | [] => trivial
  | x :: l => by
    unfold csort
    split
    · rename_i h
      refine ⟨?_, isC_csort l⟩
      split
      · trivial
      · exact .inl h
    · rename_i h; exact isC_cins cl h (isC_csort l)
theorem csort_id : ∀ {l : List Int}, isC cl l → csort cl l = l
  | [], _ => rfl
  | x :: l, h => by
    unfold csort
    rw [csort_id h.2]
    split
    · rfl
    · rename_i hx
      cases l with
      | nil => rfl
      | cons y l =>
        unfold cins
        rw [if_neg]
        have := h.1
        simp only at this
        omega
theorem csort_idem (l : List Int) : csort cl (csort cl l) = csort cl l := csort_id cl (isC_csort cl l)
theorem isC_of_csort {l : List Int} (h : csort cl l = l) : isC cl l := by rw [← h]; exact isC_csort cl l
/-- What stands behind may be sorted first. -/
theorem csort_append_right : ∀ (a b : List Int), csort cl (a ++ b) = csort cl (a ++ csort cl b)
  | [], b => (csort_idem cl b).symm
  | x :: a, b => by simp only [List.cons_append, csort, csort_append_right a b]
/-- .. and what stands in front. -/
theorem csort_cins {x : Int} (hx : cl x ≠ 0) : ∀ (l b : List Int), csort cl (cins cl x l ++ b) = cins cl x (csort cl (l ++ b))
  | [], b => by simp [cins, csort, hx]
  | y :: l, b => by
    by_cases h : cl y ≠ 0 ∧ cl y < cl x
    · rw [show cins cl x (y :: l) = y :: cins cl x l by rw [cins, if_pos h], List.cons_append, csort, if_neg h.1, csort_cins hx l b, List.cons_append, csort, if_neg h.1]
      exact cins_comm cl h.1 hx (by omega) _
    · rw [show cins cl x (y :: l) = x :: y :: l by rw [cins, if_neg h], List.cons_append, csort, if_neg hx]
theorem csort_append_left : ∀ (a b : List Int), csort cl (a ++ b) = csort cl (csort cl a ++ b)
  | [], _ => rfl
  | x :: a, b => by
    simp only [List.cons_append, csort]
    split
    · rename_i h
      rw [List.cons_append, csort, if_pos h, csort_append_left a b]
    · rename_i h
      rw [csort_cins cl h, csort_append_left a b]
theorem csort_append (a b : List Int) : csort cl (a ++ b) = csort cl (csort cl a ++ csort cl b) := by rw [csort_append_left, csort_append_right]
/-- A starter parts a text. -/
theorem cins_split {x s : Int} (hs : cl s = 0) : ∀ (l b : List Int), cins cl x (l ++ s :: b) = cins cl x l ++ s :: b
  | [], b => by simp [cins, hs]
  | y :: l, b => by
    simp only [List.cons_append, cins]
    split
    · rw [cins_split hs l b, List.cons_append]
    · rfl
theorem csort_split {s : Int} (hs : cl s = 0) : ∀ (a b : List Int), csort cl (a ++ s :: b) = csort cl a ++ s :: csort cl b
  | [], b => by simp [csort, hs]
  | x :: a, b => by
    simp only [List.cons_append, csort, csort_split hs a b]
    split
    · rfl
    · exact cins_split cl hs _ _
/-- A text with elements replaced: those that are no starters stay, the others become lists. -/
theorem csort_flatMap_cins {G : Int → List Int} {x : Int} (hx : cl x ≠ 0) (gx : G x = [x]) : ∀ (l : List Int), (∀ y ∈ l, cl y ≠ 0 → G y = [y]) → csort cl ((cins cl x l).flatMap G) = cins cl x (csort cl (l.flatMap G))
  | [], _ => by simp [cins, gx, csort, hx]
  | y :: l, h => by
    by_cases hc : cl y ≠ 0 ∧ cl y < cl x
    · have gy := h y (by simp) hc.1
      rw [show cins cl x (y :: l) = y :: cins cl x l by rw [cins, if_pos hc], List.flatMap_cons, gy, List.flatMap_cons, gy]
      simp only [List.singleton_append]
      rw [csort, if_neg hc.1, csort_flatMap_cins hx gx l (fun z hz => h z (by simp [hz])), csort, if_neg hc.1]
      exact cins_comm cl hc.1 hx (by omega) _
    · rw [show cins cl x (y :: l) = x :: y :: l by rw [cins, if_neg hc], List.flatMap_cons, gx, List.singleton_append, csort, if_neg hx]
theorem csort_flatMap {G : Int → List Int} : ∀ (l : List Int), (∀ y ∈ l, cl y ≠ 0 → G y = [y]) → csort cl ((csort cl l).flatMap G) = csort cl (l.flatMap G)
  | [], _ => rfl
  | x :: l, h => by
    have ih := csort_flatMap l (fun y hy => h y (by simp [hy]))
    rw [csort]
    split
    · rw [List.flatMap_cons, List.flatMap_cons, csort_append_right, ih, ← csort_append_right]
    · rename_i hx
      have gx := h x (by simp) hx
      rw [csort_flatMap_cins cl hx gx _ (fun y hy => h y (by simp [(csort_mem cl).1 hy])), ih, List.flatMap_cons, gx, List.singleton_append, csort, if_neg hx]

/-- A run, sorted by class with the order of each class kept. -/
theorem cins_key {x : Int} (k : Int) : ∀ (l : List Int), (∀ y ∈ l, cl y ≠ 0) → ofKey cl k (cins cl x l) = ofKey cl k (x :: l)
  | [], _ => rfl
  | y :: l, h => by
    unfold cins
    split
    · rename_i hc
      have ih := cins_key (x := x) k l (fun z hz => h z (by simp [hz]))
      simp only [ofKey, List.filter_cons] at ih ⊢
      by_cases h1 : cl y = k <;> by_cases h2 : cl x = k
      · omega
      · simp [h1, h2, ih]
      · simp [h1, h2, ih]
      · simp [h1, h2, ih]
    · rfl
theorem csort_key (k : Int) : ∀ (l : List Int), (∀ y ∈ l, cl y ≠ 0) → ofKey cl k (csort cl l) = ofKey cl k l
  | [], _ => rfl
  | x :: l, h => by
    have ih := csort_key k l (fun z hz => h z (by simp [hz]))
    rw [csort, if_neg (h x (by simp)), cins_key cl k _ (fun y hy => h y (by simp [(csort_mem cl).1 hy]))]
    simp only [ofKey, List.filter_cons] at ih ⊢
    rw [ih]
theorem isC_pairwise : ∀ {l : List Int}, isC cl l → (∀ y ∈ l, cl y ≠ 0) → l.Pairwise (fun x y => cl x ≤ cl y)
  | [], _, _ => .nil
  | x :: l, h, hl => by
    have ih := isC_pairwise h.2 (fun y hy => hl y (by simp [hy]))
    refine List.pairwise_cons.2 ⟨fun y hy => ?_, ih⟩
    cases l with
    | nil => cases hy
    | cons z l =>
      have h1 := h.1
      simp only at h1
      have hx := hl x (by simp)
      have hz := hl z (by simp)
      rcases List.mem_cons.1 hy with e | e
      · rw [e]; omega
      · have := (List.pairwise_cons.1 ih).1 y e
        omega
/-- A run that is sorted in place is in canonical order. -/
theorem csort_run {d e : Array Int} {a b : Nat} (h : StIn cl a b d e) (hs : SortedIn (ltK cl) a b e) (hn : ∀ y ∈ seg d a b, cl y ≠ 0) : seg e a b = csort cl (seg d a b) := by
  refine keys_unique (key := cl) _ _ (SortedIn.pairwise hs) (isC_pairwise cl (isC_csort cl _) (fun y hy => hn y ((csort_mem cl).1 hy))) fun k => ?_
  rw [h.keys k, csort_key cl k _ hn]
end Go.Proofs.YtipedgkampafjaaDoor.Rf
/- Tells what the exchange of two ranges and the rotation of a row do. -/
namespace Go.Proofs.YtipedgkampafjaaDoor.Rf
open Go.Shelf Go.RowKit Go.Lib Go.Sort Go.Proofs.YtipedgkampafjaaDoorW.PrintWords Go.Proofs.YtipedgkampafjaaDoorW.PrintLast Go.Proofs.YtipedgkampafjaaDoorW.PrintMore

/-- A row of a sort behind a call. -/
def SortP (p : Array Int → Prop) (w0 : World) (blk off : Nat) (e : Ending) (w' : World) : Prop := e = .returned (.tuple #[]) ∧ ∃ d' : Array Int, p d' ∧ SW (Value.int .i64) w0 blk off d' w'
/-- The ranges of n from a on and from b on have changed places. -/
structure SwR (a b n : Nat) (d e : Array Int) : Prop where
  size : e.size = d.size
  out : ∀ k, (k < a ∨ a + n ≤ k) → (k < b ∨ b + n ≤ k) → e[k]! = d[k]!
  left : ∀ k, k < n → e[a + k]! = d[b + k]!
  right : ∀ k, k < n → e[b + k]! = d[a + k]!
theorem SwR.zero (a b : Nat) (d : Array Int) : SwR a b 0 d d := ⟨rfl, fun _ _ _ => rfl, fun k h => by omega, fun k h => by omega⟩
theorem SwR.succ {a b n : Nat} {d e : Array Int} (h : SwR a b n d e) (hab : a + n < b) (hb : b + n < d.size) : SwR a b (n + 1) d (swp e (a + n) (b + n)) := by
  have g := swp_get e (i := a + n) (j := b + n) (by rw [h.size]; omega) (by rw [h.size]; omega)
  refine ⟨by rw [swp_size]; exact h.size, fun k h1 h2 => ?_, fun k hk => ?_, fun k hk => ?_⟩
  · rw [g, if_neg (by omega), if_neg (by omega)]; exact h.out k (by omega) (by omega)
  · by_cases e1 : k = n
    · subst e1
      rw [g, if_neg (by omega), if_pos rfl]
      exact h.out (b + k) (by omega) (by omega)
    · rw [g, if_neg (by omega), if_neg (by omega)]; exact h.left k (by omega)
  · by_cases e1 : k = n
    · subst e1
      rw [g, if_pos rfl]
      exact h.out (a + k) (by omega) (by omega)
    · rw [g, if_neg (by omega), if_neg (by omega)]; exact h.right k (by omega)

set_option maxHeartbeats 4000000 in
set_option maxRecDepth 100000 in
theorem swapRange_any (g : Nat) (cb : Array Value) (blk off cap sz a b n : Nat) (d0 d : Array Int) (w0 w : World) (R : Row1 (Value.int .i64) w0 blk off d0) (hs : d0.size = sz) (hd : d.size = sz) (S : SW (Value.int .i64) w0 blk off d w) (hab : a + n ≤ b) (hb : b + n ≤ sz) (hsz : sz < 4611686018427387904) :
    Calls Tryd.prog 90 #[.slice (some ⟨blk, off, none⟩) sz cap, .int .i64 a, .int .i64 b, .int .i64 n, .func (.func g) #[] cb] w (SortP (SwR a b n d) w0 blk off) := by
  have mixed : Tryd.prog.follows .mixedOrders = true := by kernel_rfl
  have S0 := Aside0.mk S
  clear S
  go_enter Tryd.func90, Tryd.ntmps90
  go_wp2_with fail
  go_loopg [10] n (fun kx s wr => ∃ (i : Nat) (dk : Array Int), s = .int .i64 i ∧ i ≤ n ∧ n - i ≤ kx ∧ dk.size = sz ∧ Aside0 (SwR a b i d dk) ∧ Aside0 (SW (Value.int .i64) w0 blk off dk wr))
  case atStart => exact ⟨0, d, rfl, by omega, by omega, hd, ⟨SwR.zero a b d⟩, S0⟩
  case round =>
    clear S0
    obtain ⟨i, dk, rfl, hi, hkx, hds, HQ, S1⟩ := hrel
    by_cases hlt : i < n
    · have hltz : (i : Int) < (n : Int) := by omega
      have HQ2 : Aside0 (SwR a b (i + 1) d (swp dk (a + i) (b + i))) := ⟨HQ.out.succ (by omega) (by omega)⟩
      clear HQ
      obtain ⟨iN101, hiN101⟩ : ∃ q, q = a + i := ⟨_, rfl⟩
      obtain ⟨jN101, hjN101⟩ : ∃ q, q = b + i := ⟨_, rfl⟩
      have ea101 : ((a : Int) + (i : Int)).toNat = iN101 := by omega
      have pa101 : (0 : Int) ≤ (a : Int) + (i : Int) := by omega
      have ba101 : (a : Int) + (i : Int) < (sz : Int) := by omega
      have ra101 : IntKind.i64.wrap ((a : Int) + (i : Int)) = (a : Int) + (i : Int) := by rw [IntKind.wrap_i64]; omega
      have ec101 : ((b : Int) + (i : Int)).toNat = jN101 := by omega
      have pc101 : (0 : Int) ≤ (b : Int) + (i : Int) := by omega
      have bc101 : (b : Int) + (i : Int) < (sz : Int) := by omega
      have rc101 : IntKind.i64.wrap ((b : Int) + (i : Int)) = (b : Int) + (i : Int) := by rw [IntKind.wrap_i64]; omega
      obtain ⟨x101, hx101⟩ : ∃ x, x = dk[a + i]! := ⟨_, rfl⟩
      obtain ⟨y101, hy101⟩ : ∃ x, x = dk[b + i]! := ⟨_, rfl⟩
      have S2 : Aside0 (SW (Value.int .i64) w0 blk off (swp dk (a + i) (b + i)) ((wr.setCell ⟨blk, off + iN101, none⟩ (Value.int .i64 y101)).setCell ⟨blk, off + jN101, none⟩ (Value.int .i64 x101)).drew) := ⟨by rw [hiN101, hjN101, hx101, hy101]; exact S1.out.swapped R (a + i) (b + i) (by omega) (by omega)⟩
      have c101a := S1.out.c1 R (by omega) (a + i) (by omega)
      have c101b := S1.out.c1 R (by omega) (b + i) (by omega)
      have f101a := S1.out.f1 R (by omega) (a + i) (by omega)
      have f101b := S1.out.f1 R (by omega) (b + i) (by omega)
      obtain ⟨u101, c101c⟩ := S1.out.c2 R (by omega) (a + i) (b + i) (by omega) (by omega) (Value.int .i64 y101)
      rw [← hjN101, ← hiN101] at c101c
      rw [← hx101, ← hiN101] at c101a
      rw [← hy101, ← hjN101] at c101b
      rw [← hiN101] at f101a
      rw [← hjN101] at f101b
      clear S1 hx101 hy101 hiN101 hjN101
      go_wp2_with fail
      go_big_region_o
      clear c101a c101b c101c f101a f101b
      generalize ((wr.setCell ⟨blk, off + iN101, none⟩ (Value.int .i64 y101)).setCell ⟨blk, off + jN101, none⟩ (Value.int .i64 x101)).drew = w2 at S2 ⊢
      clear ea101 ec101 pa101 ba101 ra101 pc101 bc101 rc101
      go_wp2_with fail
      go_roundg (n - (i + 1))
      case measure => omega
      case rel => exact ⟨i + 1, swp dk (a + i) (b + i), by first | rfl | go_num, by omega, Nat.le_refl _, by rw [swp_size]; exact hds, HQ2, S2⟩
    · have hltz : ¬ (i : Int) < (n : Int) := by omega
      go_wp2_with fail
      go_end0
      have e : i = n := by omega
      subst e
      exact ⟨rfl, dk, HQ.out, S1.out⟩

theorem SwR.rot_big {p i j : Nat} {d f e : Array Int} (h : SwR p (p + i) j d f) (hij : j < i) (hr : RotIn (p + j) (p + i) (p + i + j) f e) : RotIn p (p + i) (p + i + j) d e := by
  refine ⟨hr.size.trans h.size, fun k hk => ?_, fun k hk => ?_, fun k hk => ?_⟩
  · rw [hr.out k (by omega), h.out k (by omega) (by omega)]
  · rw [hr.out (p + k) (by omega), h.left k (by omega)]
  · by_cases hkj : k < j
    · have e1 := hr.left k (by omega)
      rw [show p + (p + i + j - (p + i)) + k = p + j + k by omega, e1, h.right k hkj]
    · have e1 := hr.right (k - j) (by omega)
      rw [show p + (p + i + j - (p + i)) + k = p + j + (p + i + j - (p + i)) + (k - j) by omega, e1, show p + j + (k - j) = p + k by omega, h.out (p + k) (by omega) (by omega)]
theorem SwR.rot_small {p i j : Nat} {d f e : Array Int} (h : SwR p (p + j) i d f) (hij : i < j) (hr : RotIn p (p + i) (p + j) f e) : RotIn p (p + i) (p + i + j) d e := by
  refine ⟨hr.size.trans h.size, fun k hk => ?_, fun k hk => ?_, fun k hk => ?_⟩
  · rw [hr.out k (by omega), h.out k (by omega) (by omega)]
  · by_cases hkj : k < j - i
    · have e1 := hr.left k (by omega)
      rw [e1, h.out (p + i + k) (by omega) (by omega)]
    · have e1 := hr.right (k - (j - i)) (by omega)
      rw [show p + k = p + (p + j - (p + i)) + (k - (j - i)) by omega, e1, h.left _ (by omega), show p + j + (k - (j - i)) = p + i + k by omega]
  · rw [show p + (p + i + j - (p + i)) + k = p + j + k by omega, hr.out (p + j + k) (by omega), h.right k (by omega)]
theorem SwR.rot_same {p i : Nat} {d e : Array Int} (h : SwR p (p + i) i d e) : RotIn p (p + i) (p + i + i) d e := by
  refine ⟨h.size, fun k hk => h.out k (by omega) (by omega), fun k hk => h.left k (by omega), fun k hk => ?_⟩
  rw [show p + (p + i + i - (p + i)) + k = p + i + k by omega, h.right k (by omega)]

set_option maxHeartbeats 4000000 in
set_option maxRecDepth 100000 in
theorem rotate_any (g : Nat) (cb : Array Value) (blk off cap sz a m b : Nat) (d0 d : Array Int) (w0 w : World) (R : Row1 (Value.int .i64) w0 blk off d0) (hs : d0.size = sz) (hd : d.size = sz) (S : SW (Value.int .i64) w0 blk off d w) (ham : a < m) (hmb : m < b) (hb : b ≤ sz) (hsz : sz < 4611686018427387904) :
    Calls Tryd.prog 77 #[.slice (some ⟨blk, off, none⟩) sz cap, .int .i64 a, .int .i64 m, .int .i64 b, .func (.func g) #[] cb] w (SortP (RotIn a m b d) w0 blk off) := by
  have S0 := Aside0.mk S
  clear S
  obtain ⟨i0, hi0⟩ : ∃ x, x = m - a := ⟨_, rfl⟩
  obtain ⟨j0, hj0⟩ : ∃ x, x = b - m := ⟨_, rfl⟩
  have ei0 : (m : Int) - (a : Int) = (i0 : Int) := by omega
  have ej0 : (b : Int) - (m : Int) = (j0 : Int) := by omega
  have HI0 := Aside0.mk hi0
  have HJ0 := Aside0.mk hj0
  clear hi0 hj0
  go_enter Tryd.func77, Tryd.ntmps77
  go_wp2_with fail
  clear ei0 ej0
  go_loopg [10, 11] (i0 + j0) (fun kx s t wr => ∃ (p i j : Nat) (dk : Array Int), s = .int .i64 i ∧ t = .int .i64 j ∧ m = p + i ∧ 1 ≤ i ∧ 1 ≤ j ∧ m + j ≤ b ∧ i + j ≤ kx ∧ dk.size = sz ∧ Aside0 (∀ e, RotIn p m (m + j) dk e → RotIn a m b d e) ∧ Aside0 (SW (Value.int .i64) w0 blk off dk wr))
  case atStart => exact ⟨a, i0, j0, d, rfl, rfl, by have := HI0.out; omega, by have := HI0.out; omega, by have := HJ0.out; omega, by have := HJ0.out; omega, Nat.le_refl _, hd, ⟨fun e h => by rwa [show m + j0 = b by have := HJ0.out; omega] at h⟩, S0⟩
  case round =>
    clear S0 HI0 HJ0
    obtain ⟨p, i, j, dk, rfl, rfl, hm, hi, hj, hjb, hkx, hds, HE, S1⟩ := hrel
    have ep : (m : Int) - (i : Int) = (p : Int) := by omega
    have hpm : p + i ≤ m := by omega
    have HM := Aside0.mk hm
    clear hm
    rcases Nat.lt_trichotomy j i with hji | hji | hji
    · have hz1 : ((i : Int) != (j : Int)) = true := by simp; omega
      have hz2 : (j : Int) < (i : Int) := by omega
      obtain ⟨q, hq⟩ : ∃ x, x = i - j := ⟨_, rfl⟩
      have eq1 : (i : Int) - (j : Int) = (q : Int) := by omega
      have HQ := Aside0.mk hq
      clear hq
      go_wp2_with fail
      refine (swapRange_any g cb blk off cap sz p m j d0 dk w0 _ R hs hds S1.out (by omega) (by omega) hsz).mono ?_
      rintro e w2 ⟨rfl, d2, hsw, S2⟩
      have HS := Aside0.mk hsw
      have H2 := Aside0.mk S2
      have hd2 := Aside0.mk (hsw.size.trans hds)
      clear hsw S2 S1
      go_wp2_with fail
      go_roundg (q + j)
      case measure => have := HQ.out; omega
      case rel => exact ⟨p + j, q, j, d2, rfl, rfl, by have := HQ.out; have := HM.out; omega, by have := HQ.out; omega, hj, hjb, Nat.le_refl _, hd2.out, ⟨fun e h => HE.out e (by have h2 := HM.out; have h3 := HS.out; subst h2; exact h3.rot_big hji h)⟩, H2⟩
    · subst hji
      have hz1 : ((j : Int) != (j : Int)) = false := by simp
      go_wp2_with fail
      refine (swapRange_any g cb blk off cap sz p m j d0 dk w0 _ R hs hds S1.out (by omega) (by omega) hsz).mono ?_
      rintro e w2 ⟨rfl, d2, hsw, S2⟩
      have HS := Aside0.mk hsw
      have H2 := Aside0.mk S2
      clear hsw S2 S1
      go_wp2_with fail
      go_end0
      exact ⟨rfl, d2, HE.out _ (by have h2 := HM.out; have h3 := HS.out; subst h2; exact h3.rot_same), H2.out⟩
    · have hz1 : ((i : Int) != (j : Int)) = true := by simp; omega
      have hz2 : ¬ (j : Int) < (i : Int) := by omega
      obtain ⟨q, hq⟩ : ∃ x, x = j - i := ⟨_, rfl⟩
      have eq1 : (j : Int) - (i : Int) = (q : Int) := by omega
      obtain ⟨r, hr⟩ : ∃ x, x = p + j := ⟨_, rfl⟩
      have er1 : (m : Int) + (j : Int) - (i : Int) = (r : Int) := by omega
      have hrb : r + i ≤ b := by omega
      have hpr : p + i ≤ r := by omega
      have HQ := Aside0.mk hq
      have HR2 := Aside0.mk hr
      clear hq hr
      go_wp2_with fail
      refine (swapRange_any g cb blk off cap sz p r i d0 dk w0 _ R hs hds S1.out (by omega) (by omega) hsz).mono ?_
      rintro e w2 ⟨rfl, d2, hsw, S2⟩
      have HS := Aside0.mk hsw
      have H2 := Aside0.mk S2
      have hd2 := Aside0.mk (hsw.size.trans hds)
      clear hsw S2 S1
      go_wp2_with fail
      go_roundg (i + q)
      case measure => have := HQ.out; omega
      case rel => exact ⟨p, i, q, d2, rfl, rfl, HM.out, hi, by have := HQ.out; omega, by have := HQ.out; omega, Nat.le_refl _, hd2.out, ⟨fun e h => HE.out e (by
        have h2 := HM.out; have h3 := HS.out; have h4 := HR2.out; have h5 := HQ.out; subst h2; subst h4
        rw [show p + i + q = p + j by omega] at h
        exact h3.rot_small hji h)⟩, H2⟩
end Go.Proofs.YtipedgkampafjaaDoor.Rf
/- Tells what the merge of two sorted parts of a row does. -/
namespace Go.Proofs.YtipedgkampafjaaDoor.Rf
open Go.Shelf Go.RowKit Go.Lib Go.Sort Go.Proofs.YtipedgkampafjaaDoorW.PrintWords Go.Proofs.YtipedgkampafjaaDoorW.PrintLast Go.Proofs.YtipedgkampafjaaDoorW.PrintMore

set_option maxHeartbeats 16000000 in
set_option maxRecDepth 100000 in
theorem symMerge_left (key : Int → Int) (cf : Int → Int → Int) (g : Nat) (cb : Array Value) (blk off cap sz : Nat) (d0 : Array Int) (w0 : World) (eg : ∀ args w, (callFunc g args).run Tryd.prog w = .ok (.enter g args) w) (hcf : ∀ x y, decide (cf x y < 0) = ltK key x y) (hcmp : CmpLays1 Tryd.prog g cb (Value.int .i64) cf blk off sz w0) (R : Row1 (Value.int .i64) w0 blk off d0) (hs : d0.size = sz) (hsz : sz < 4611686018427387904)
    (a m b : Nat) (d : Array Int) (w : World) (hd : d.size = sz) (S : SW (Value.int .i64) w0 blk off d w) (hma : m = a + 1) (hmb : m < b) (hb : b ≤ sz) (hV : SortedIn (ltK key) m b d) :
    Calls Tryd.prog 69 #[.slice (some ⟨blk, off, none⟩) sz cap, .int .i64 a, .int .i64 m, .int .i64 b, .func (.func g) #[] cb] w (SortP (fun e => StIn key a b d e ∧ SortedIn (ltK key) a b e) w0 blk off) := by
  have mixed : Tryd.prog.follows .mixedOrders = true := by kernel_rfl
  have S0 := Aside0.mk S
  have HC := Aside0.mk hcmp
  have HCF := Aside0.mk hcf
  have HV := Aside0.mk hV
  have e1 : (m : Int) - (a : Int) = 1 := by omega
  have ham : a < m := by omega
  have HM := Aside0.mk hma
  clear S hcmp hcf hV hma
  go_enter Tryd.func69, Tryd.ntmps69
  go_wp2_with fail
  clear e1
  go_loopg [10, 11] (b - m) (fun kx s t wr => ∃ (lo hi : Nat), s = .int .i64 lo ∧ t = .int .i64 hi ∧ m ≤ lo ∧ lo ≤ hi ∧ hi ≤ b ∧ hi - lo ≤ kx ∧ Aside0 ((∀ p, m ≤ p → p < lo → key d[p]! < key d[a]!) ∧ (∀ p, hi ≤ p → p < b → key d[a]! ≤ key d[p]!)) ∧ Aside0 (SW (Value.int .i64) w0 blk off d wr))
  case atStart => exact ⟨m, b, rfl, rfl, Nat.le_refl _, by omega, Nat.le_refl _, Nat.le_refl _, ⟨fun p h1 h2 => by omega, fun p h1 h2 => by omega⟩, S0⟩
  case round =>
    clear S0
    obtain ⟨lo, hi, rfl, rfl, hml, hlh, hhb, hkx, HI, S1⟩ := hrel
    by_cases hlt : lo < hi
    · have hltz : (lo : Int) < (hi : Int) := by omega
      cases hT : ltK key d[(lo + hi) / 2]! d[a]! with
      | true =>
        have HI2 : Aside0 ((∀ p, m ≤ p → p < (lo + hi) / 2 + 1 → key d[p]! < key d[a]!) ∧ (∀ p, hi ≤ p → p < b → key d[a]! ≤ key d[p]!)) := ⟨fun p h1 h2 => (by
          have h3 := SortedIn.keys HV.out (i := p) (j := (lo + hi) / 2) h1 (by omega) (by omega)
          simp only [ltK, decide_eq_true_eq] at hT
          omega), HI.out.2⟩
        have HT := Aside0.mk hT
        clear hT HI
        obtain ⟨iN102, hiN102⟩ : ∃ q, q = (lo + hi) / 2 := ⟨_, rfl⟩
        obtain ⟨jN102, hjN102⟩ : ∃ q, q = a := ⟨_, rfl⟩
        have ea102 : (((lo : Int) + (hi : Int)) / 2).toNat = iN102 := by omega
        have pa102 : (0 : Int) ≤ ((lo : Int) + (hi : Int)) / 2 := by omega
        have ba102 : ((lo : Int) + (hi : Int)) / 2 < (sz : Int) := by omega
        have ra102 : IntKind.i64.wrap (((lo : Int) + (hi : Int)) / 2) = ((lo : Int) + (hi : Int)) / 2 := by rw [IntKind.wrap_i64]; omega
        have ec102 : ((a : Int)).toNat = jN102 := by omega
        have pc102 : (0 : Int) ≤ (a : Int) := by omega
        have bc102 : (a : Int) < (sz : Int) := by omega
        have rc102 : IntKind.i64.wrap ((a : Int)) = (a : Int) := by rw [IntKind.wrap_i64]; omega
        obtain ⟨x102, hx102⟩ : ∃ x, x = d[(lo + hi) / 2]! := ⟨_, rfl⟩
        obtain ⟨y102, hy102⟩ : ∃ x, x = d[a]! := ⟨_, rfl⟩
        have l102a := S1.out.cl R (by omega) ((lo + hi) / 2) (by omega)
        have l102b := S1.out.cl R (by omega) (a) (by omega)
        rw [← hx102, ← hiN102] at l102a
        rw [← hy102, ← hjN102] at l102b
        have hc102 := S1.out.cmp HC.out (by omega) x102 y102
        have hd102 : decide (cf x102 y102 < 0) = true := by rw [hx102, hy102]; exact (HCF.out _ _).trans HT.out
        have hv102 : cf x102 y102 < 0 := of_decide_eq_true hd102
        clear hx102 hy102 hiN102 hjN102
        go_wp2_with fail
        go_quiet_grown (first | (go_at_fn g; refine Calls.grown_of (hc102 _ _)))
        have S2 : Aside0 (SW (Value.int .i64) w0 blk off d (grow (wr.drewN nq) osq)) := ⟨S1.out.grown nq osq⟩
        clear l102a l102b hc102 S1
        generalize grow (wr.drewN nq) osq = w2 at S2 ⊢
        clear nq osq
        clear ea102 ec102 pa102 ba102 ra102 pc102 bc102 rc102 hd102 hv102
        go_wp2_with fail
        go_roundg (hi - ((lo + hi) / 2 + 1))
        case measure => omega
        case rel => exact ⟨(lo + hi) / 2 + 1, hi, by rw [show ((lo : Int) + (hi : Int)) / 2 + 1 = (((lo + hi) / 2 + 1 : Nat) : Int) by omega], rfl, by omega, by omega, hhb, Nat.le_refl _, HI2, S2⟩
      | false =>
        have HI2 : Aside0 ((∀ p, m ≤ p → p < lo → key d[p]! < key d[a]!) ∧ (∀ p, (lo + hi) / 2 ≤ p → p < b → key d[a]! ≤ key d[p]!)) := ⟨HI.out.1, fun p h1 h2 => (by
          have h3 := SortedIn.keys HV.out (i := (lo + hi) / 2) (j := p) (by omega) h1 (by omega)
          simp only [ltK, decide_eq_false_iff_not] at hT
          omega)⟩
        have HT := Aside0.mk hT
        clear hT HI
        obtain ⟨iN103, hiN103⟩ : ∃ q, q = (lo + hi) / 2 := ⟨_, rfl⟩
        obtain ⟨jN103, hjN103⟩ : ∃ q, q = a := ⟨_, rfl⟩
        have ea103 : (((lo : Int) + (hi : Int)) / 2).toNat = iN103 := by omega
        have pa103 : (0 : Int) ≤ ((lo : Int) + (hi : Int)) / 2 := by omega
        have ba103 : ((lo : Int) + (hi : Int)) / 2 < (sz : Int) := by omega
        have ra103 : IntKind.i64.wrap (((lo : Int) + (hi : Int)) / 2) = ((lo : Int) + (hi : Int)) / 2 := by rw [IntKind.wrap_i64]; omega
        have ec103 : ((a : Int)).toNat = jN103 := by omega
        have pc103 : (0 : Int) ≤ (a : Int) := by omega
        have bc103 : (a : Int) < (sz : Int) := by omega
        have rc103 : IntKind.i64.wrap ((a : Int)) = (a : Int) := by rw [IntKind.wrap_i64]; omega
        obtain ⟨x103, hx103⟩ : ∃ x, x = d[(lo + hi) / 2]! := ⟨_, rfl⟩
        obtain ⟨y103, hy103⟩ : ∃ x, x = d[a]! := ⟨_, rfl⟩
        have l103a := S1.out.cl R (by omega) ((lo + hi) / 2) (by omega)
        have l103b := S1.out.cl R (by omega) (a) (by omega)
        rw [← hx103, ← hiN103] at l103a
        rw [← hy103, ← hjN103] at l103b
        have hc103 := S1.out.cmp HC.out (by omega) x103 y103
        have hd103 : decide (cf x103 y103 < 0) = false := by rw [hx103, hy103]; exact (HCF.out _ _).trans HT.out
        have hv103 : ¬ cf x103 y103 < 0 := of_decide_eq_false hd103
        clear hx103 hy103 hiN103 hjN103
        go_wp2_with fail
        go_quiet_grown (first | (go_at_fn g; refine Calls.grown_of (hc103 _ _)))
        have S2 : Aside0 (SW (Value.int .i64) w0 blk off d (grow (wr.drewN nq) osq)) := ⟨S1.out.grown nq osq⟩
        clear l103a l103b hc103 S1
        generalize grow (wr.drewN nq) osq = w2 at S2 ⊢
        clear nq osq
        clear ea103 ec103 pa103 ba103 ra103 pc103 bc103 rc103 hd103 hv103
        go_wp2_with fail
        go_roundg ((lo + hi) / 2 - lo)
        case measure => omega
        case rel => exact ⟨lo, (lo + hi) / 2, rfl, by rw [show ((lo : Int) + (hi : Int)) / 2 = (((lo + hi) / 2 : Nat) : Int) by omega], hml, by omega, by omega, Nat.le_refl _, HI2, S2⟩
    · have hltz : ¬ (lo : Int) < (hi : Int) := by omega
      have HI2 : Aside0 ((∀ p, m ≤ p → p < lo → key d[p]! < key d[a]!) ∧ (∀ p, lo ≤ p → p < b → key d[a]! ≤ key d[p]!)) := ⟨HI.out.1, fun p h1 h2 => HI.out.2 p (by omega) h2⟩
      clear HI hlt
      go_wp2_with fail
      clear hltz
      go_loopg [13] (lo - 1 - a) (fun kx s wr2 => ∃ (k : Nat) (dk : Array Int), s = .int .i64 k ∧ a ≤ k ∧ k + 1 ≤ lo ∧ lo - 1 - k ≤ kx ∧ dk.size = sz ∧ Aside0 (RotIn a (a + 1) (k + 1) d dk) ∧ Aside0 (SW (Value.int .i64) w0 blk off dk wr2))
      case atStart => exact ⟨a, d, rfl, Nat.le_refl _, by omega, Nat.le_refl _, hd, ⟨RotIn.same d (.inr rfl)⟩, S1⟩
      case round =>
        clear S1
        obtain ⟨k, dk, rfl, hak, hkl, hkx2, hds, HR, S2⟩ := hrel
        have el : (lo : Int) - 1 = ((lo : Int) - 1) := rfl
        clear el
        by_cases hk : k < lo - 1
        · have hkz : (k : Int) < (lo : Int) - 1 := by omega
          have HR2 : Aside0 (RotIn a (a + 1) (k + 1 + 1) d (swp dk k (k + 1))) := ⟨HR.out.up hak (by omega)⟩
          clear HR
          obtain ⟨iN104, hiN104⟩ : ∃ q, q = k := ⟨_, rfl⟩
          obtain ⟨jN104, hjN104⟩ : ∃ q, q = k + 1 := ⟨_, rfl⟩
          have ea104 : ((k : Int)).toNat = iN104 := by omega
          have pa104 : (0 : Int) ≤ (k : Int) := by omega
          have ba104 : (k : Int) < (sz : Int) := by omega
          have ra104 : IntKind.i64.wrap ((k : Int)) = (k : Int) := by rw [IntKind.wrap_i64]; omega
          have ec104 : ((k : Int) + 1).toNat = jN104 := by omega
          have pc104 : (0 : Int) ≤ (k : Int) + 1 := by omega
          have bc104 : (k : Int) + 1 < (sz : Int) := by omega
          have rc104 : IntKind.i64.wrap ((k : Int) + 1) = (k : Int) + 1 := by rw [IntKind.wrap_i64]; omega
          obtain ⟨x104, hx104⟩ : ∃ x, x = dk[k]! := ⟨_, rfl⟩
          obtain ⟨y104, hy104⟩ : ∃ x, x = dk[k + 1]! := ⟨_, rfl⟩
          have S3 : Aside0 (SW (Value.int .i64) w0 blk off (swp dk (k) (k + 1)) ((wr.setCell ⟨blk, off + iN104, none⟩ (Value.int .i64 y104)).setCell ⟨blk, off + jN104, none⟩ (Value.int .i64 x104)).drew) := ⟨by rw [hiN104, hjN104, hx104, hy104]; exact S2.out.swapped R (k) (k + 1) (by omega) (by omega)⟩
          have c104a := S2.out.c1 R (by omega) (k) (by omega)
          have c104b := S2.out.c1 R (by omega) (k + 1) (by omega)
          have f104a := S2.out.f1 R (by omega) (k) (by omega)
          have f104b := S2.out.f1 R (by omega) (k + 1) (by omega)
          obtain ⟨u104, c104c⟩ := S2.out.c2 R (by omega) (k) (k + 1) (by omega) (by omega) (Value.int .i64 y104)
          rw [← hjN104, ← hiN104] at c104c
          rw [← hx104, ← hiN104] at c104a
          rw [← hy104, ← hjN104] at c104b
          rw [← hiN104] at f104a
          rw [← hjN104] at f104b
          clear S2 hx104 hy104 hiN104 hjN104
          go_wp2_with fail
          go_big_region_o
          clear c104a c104b c104c f104a f104b
          generalize ((wr.setCell ⟨blk, off + iN104, none⟩ (Value.int .i64 y104)).setCell ⟨blk, off + jN104, none⟩ (Value.int .i64 x104)).drew = w3 at S3 ⊢
          clear ea104 ec104 pa104 ba104 ra104 pc104 bc104 rc104
          go_wp2_with fail
          go_roundg (lo - 1 - (k + 1))
          case measure => omega
          case rel => exact ⟨k + 1, swp dk k (k + 1), by first | rfl | go_num, by omega, by omega, Nat.le_refl _, by rw [swp_size]; exact hds, HR2, S3⟩
        · have hkz : ¬ (k : Int) < (lo : Int) - 1 := by omega
          go_wp2_with fail
          go_end0
          have e2 : k + 1 = lo := by omega
          have e3 := HM.out
          have h5 := HR.out
          rw [e2, ← e3] at h5
          exact ⟨rfl, dk, ins_left (key := key) e3 hml (by omega) HV.out HI2.out.1 HI2.out.2 h5, S2.out⟩

set_option maxHeartbeats 16000000 in
set_option maxRecDepth 100000 in
theorem symMerge_right (key : Int → Int) (cf : Int → Int → Int) (g : Nat) (cb : Array Value) (blk off cap sz : Nat) (d0 : Array Int) (w0 : World) (eg : ∀ args w, (callFunc g args).run Tryd.prog w = .ok (.enter g args) w) (hcf : ∀ x y, decide (cf x y < 0) = ltK key x y) (hcmp : CmpLays1 Tryd.prog g cb (Value.int .i64) cf blk off sz w0) (R : Row1 (Value.int .i64) w0 blk off d0) (hs : d0.size = sz) (hsz : sz < 4611686018427387904)
    (a m b : Nat) (d : Array Int) (w : World) (hd : d.size = sz) (S : SW (Value.int .i64) w0 blk off d w) (hbm : b = m + 1) (ham : a + 1 < m) (hb : b ≤ sz) (hU : SortedIn (ltK key) a m d) :
    Calls Tryd.prog 69 #[.slice (some ⟨blk, off, none⟩) sz cap, .int .i64 a, .int .i64 m, .int .i64 b, .func (.func g) #[] cb] w (SortP (fun e => StIn key a b d e ∧ SortedIn (ltK key) a b e) w0 blk off) := by
  have mixed : Tryd.prog.follows .mixedOrders = true := by kernel_rfl
  have S0 := Aside0.mk S
  have HC := Aside0.mk hcmp
  have HCF := Aside0.mk hcf
  have HU := Aside0.mk hU
  obtain ⟨q, hq⟩ : ∃ x, x = m - a := ⟨_, rfl⟩
  have e1 : (m : Int) - (a : Int) = (q : Int) := by omega
  have e2 : ((q : Int) == 1) = false := by simp; omega
  have e3 : (b : Int) - (m : Int) = 1 := by omega
  have hmb : m < sz := by omega
  have HM := Aside0.mk hbm
  clear S hcmp hcf hU hbm hq
  go_enter Tryd.func69, Tryd.ntmps69
  go_wp2_with fail
  clear e1 e2 e3
  go_loopg [14, 15] (m - a) (fun kx s t wr => ∃ (lo hi : Nat), s = .int .i64 lo ∧ t = .int .i64 hi ∧ a ≤ lo ∧ lo ≤ hi ∧ hi ≤ m ∧ hi - lo ≤ kx ∧ Aside0 ((∀ p, a ≤ p → p < lo → key d[p]! ≤ key d[m]!) ∧ (∀ p, hi ≤ p → p < m → key d[m]! < key d[p]!)) ∧ Aside0 (SW (Value.int .i64) w0 blk off d wr))
  case atStart => exact ⟨a, m, rfl, rfl, Nat.le_refl _, by omega, Nat.le_refl _, Nat.le_refl _, ⟨fun p h1 h2 => by omega, fun p h1 h2 => by omega⟩, S0⟩
  case round =>
    clear S0
    obtain ⟨lo, hi, rfl, rfl, hal, hlh, hhm, hkx, HI, S1⟩ := hrel
    by_cases hlt : lo < hi
    · have hltz : (lo : Int) < (hi : Int) := by omega
      cases hT : ltK key d[m]! d[(lo + hi) / 2]! with
      | true =>
        have HI2 : Aside0 ((∀ p, a ≤ p → p < lo → key d[p]! ≤ key d[m]!) ∧ (∀ p, (lo + hi) / 2 ≤ p → p < m → key d[m]! < key d[p]!)) := ⟨HI.out.1, fun p h1 h2 => (by
          have h3 := SortedIn.keys HU.out (i := (lo + hi) / 2) (j := p) (by omega) h1 (by omega)
          simp only [ltK, decide_eq_true_eq] at hT
          omega)⟩
        have HT := Aside0.mk hT
        clear hT HI
        obtain ⟨iN105, hiN105⟩ : ∃ q, q = m := ⟨_, rfl⟩
        obtain ⟨jN105, hjN105⟩ : ∃ q, q = (lo + hi) / 2 := ⟨_, rfl⟩
        have ea105 : ((m : Int)).toNat = iN105 := by omega
        have pa105 : (0 : Int) ≤ (m : Int) := by omega
        have ba105 : (m : Int) < (sz : Int) := by omega
        have ra105 : IntKind.i64.wrap ((m : Int)) = (m : Int) := by rw [IntKind.wrap_i64]; omega
        have ec105 : (((lo : Int) + (hi : Int)) / 2).toNat = jN105 := by omega
        have pc105 : (0 : Int) ≤ ((lo : Int) + (hi : Int)) / 2 := by omega
        have bc105 : ((lo : Int) + (hi : Int)) / 2 < (sz : Int) := by omega
        have rc105 : IntKind.i64.wrap (((lo : Int) + (hi : Int)) / 2) = ((lo : Int) + (hi : Int)) / 2 := by rw [IntKind.wrap_i64]; omega
        obtain ⟨x105, hx105⟩ : ∃ x, x = d[m]! := ⟨_, rfl⟩
        obtain ⟨y105, hy105⟩ : ∃ x, x = d[(lo + hi) / 2]! := ⟨_, rfl⟩
        have l105a := S1.out.cl R (by omega) (m) (by omega)
        have l105b := S1.out.cl R (by omega) ((lo + hi) / 2) (by omega)
        rw [← hx105, ← hiN105] at l105a
        rw [← hy105, ← hjN105] at l105b
        have hc105 := S1.out.cmp HC.out (by omega) x105 y105
        have hd105 : decide (cf x105 y105 < 0) = true := by rw [hx105, hy105]; exact (HCF.out _ _).trans HT.out
        have hv105 : cf x105 y105 < 0 := of_decide_eq_true hd105
        clear hx105 hy105 hiN105 hjN105
        go_wp2_with fail
        go_quiet_grown (first | (go_at_fn g; refine Calls.grown_of (hc105 _ _)))
        have S2 : Aside0 (SW (Value.int .i64) w0 blk off d (grow (wr.drewN nq) osq)) := ⟨S1.out.grown nq osq⟩
        clear l105a l105b hc105 S1
        generalize grow (wr.drewN nq) osq = w2 at S2 ⊢
        clear nq osq
        clear ea105 ec105 pa105 ba105 ra105 pc105 bc105 rc105 hd105 hv105
        go_wp2_with fail
        go_roundg ((lo + hi) / 2 - lo)
        case measure => omega
        case rel => exact ⟨lo, (lo + hi) / 2, rfl, by rw [show ((lo : Int) + (hi : Int)) / 2 = (((lo + hi) / 2 : Nat) : Int) by omega], hal, by omega, by omega, Nat.le_refl _, HI2, S2⟩
      | false =>
        have HI2 : Aside0 ((∀ p, a ≤ p → p < (lo + hi) / 2 + 1 → key d[p]! ≤ key d[m]!) ∧ (∀ p, hi ≤ p → p < m → key d[m]! < key d[p]!)) := ⟨fun p h1 h2 => (by
          have h3 := SortedIn.keys HU.out (i := p) (j := (lo + hi) / 2) h1 (by omega) (by omega)
          simp only [ltK, decide_eq_false_iff_not] at hT
          omega), HI.out.2⟩
        have HT := Aside0.mk hT
        clear hT HI
        obtain ⟨iN106, hiN106⟩ : ∃ q, q = m := ⟨_, rfl⟩
        obtain ⟨jN106, hjN106⟩ : ∃ q, q = (lo + hi) / 2 := ⟨_, rfl⟩
        have ea106 : ((m : Int)).toNat = iN106 := by omega
        have pa106 : (0 : Int) ≤ (m : Int) := by omega
        have ba106 : (m : Int) < (sz : Int) := by omega
        have ra106 : IntKind.i64.wrap ((m : Int)) = (m : Int) := by rw [IntKind.wrap_i64]; omega
        have ec106 : (((lo : Int) + (hi : Int)) / 2).toNat = jN106 := by omega
        have pc106 : (0 : Int) ≤ ((lo : Int) + (hi : Int)) / 2 := by omega
        have bc106 : ((lo : Int) + (hi : Int)) / 2 < (sz : Int) := by omega
        have rc106 : IntKind.i64.wrap (((lo : Int) + (hi : Int)) / 2) = ((lo : Int) + (hi : Int)) / 2 := by rw [IntKind.wrap_i64]; omega
        obtain ⟨x106, hx106⟩ : ∃ x, x = d[m]! := ⟨_, rfl⟩
        obtain ⟨y106, hy106⟩ : ∃ x, x = d[(lo + hi) / 2]! := ⟨_, rfl⟩
        have l106a := S1.out.cl R (by omega) (m) (by omega)
        have l106b := S1.out.cl R (by omega) ((lo + hi) / 2) (by omega)
        rw [← hx106, ← hiN106] at l106a
        rw [← hy106, ← hjN106] at l106b
        have hc106 := S1.out.cmp HC.out (by omega) x106 y106
        have hd106 : decide (cf x106 y106 < 0) = false := by rw [hx106, hy106]; exact (HCF.out _ _).trans HT.out
        have hv106 : ¬ cf x106 y106 < 0 := of_decide_eq_false hd106
        clear hx106 hy106 hiN106 hjN106
        go_wp2_with fail
        go_quiet_grown (first | (go_at_fn g; refine Calls.grown_of (hc106 _ _)))
        have S2 : Aside0 (SW (Value.int .i64) w0 blk off d (grow (wr.drewN nq) osq)) := ⟨S1.out.grown nq osq⟩
        clear l106a l106b hc106 S1
        generalize grow (wr.drewN nq) osq = w2 at S2 ⊢
        clear nq osq
        clear ea106 ec106 pa106 ba106 ra106 pc106 bc106 rc106 hd106 hv106
        go_wp2_with fail
        go_roundg (hi - ((lo + hi) / 2 + 1))
        case measure => omega
        case rel => exact ⟨(lo + hi) / 2 + 1, hi, by rw [show ((lo : Int) + (hi : Int)) / 2 + 1 = (((lo + hi) / 2 + 1 : Nat) : Int) by omega], rfl, by omega, by omega, hhm, Nat.le_refl _, HI2, S2⟩
    · have hltz : ¬ (lo : Int) < (hi : Int) := by omega
      have HI2 : Aside0 ((∀ p, a ≤ p → p < lo → key d[p]! ≤ key d[m]!) ∧ (∀ p, lo ≤ p → p < m → key d[m]! < key d[p]!)) := ⟨HI.out.1, fun p h1 h2 => HI.out.2 p (by omega) h2⟩
      clear HI hlt
      go_wp2_with fail
      clear hltz
      go_loopg [17] (m - lo) (fun kx s wr2 => ∃ (k : Nat) (dk : Array Int), s = .int .i64 k ∧ lo ≤ k ∧ k ≤ m ∧ k - lo ≤ kx ∧ dk.size = sz ∧ Aside0 (RotIn k m (m + 1) d dk) ∧ Aside0 (SW (Value.int .i64) w0 blk off dk wr2))
      case atStart => exact ⟨m, d, rfl, by omega, Nat.le_refl _, Nat.le_refl _, hd, ⟨RotIn.same d (.inl rfl)⟩, S1⟩
      case round =>
        clear S1
        obtain ⟨k, dk, rfl, hlk, hkm, hkx2, hds, HR, S2⟩ := hrel
        by_cases hk : lo < k
        · obtain ⟨kp, hkp⟩ : ∃ q, q + 1 = k := ⟨k - 1, by omega⟩
          have zk : (k : Int) = (kp : Int) + 1 := by omega
          have hkz : (lo : Int) < (kp : Int) + 1 := by omega
          have HR2 : Aside0 (RotIn kp m (m + 1) d (swp dk k kp)) := ⟨by have h := HR.out; rw [← hkp] at h ⊢; exact h.down (by omega) (by omega)⟩
          clear HR
          obtain ⟨iN107, hiN107⟩ : ∃ q, q = k := ⟨_, rfl⟩
          obtain ⟨jN107, hjN107⟩ : ∃ q, q = kp := ⟨_, rfl⟩
          have ea107 : ((kp : Int) + 1).toNat = iN107 := by omega
          have pa107 : (0 : Int) ≤ (kp : Int) + 1 := by omega
          have ba107 : (kp : Int) + 1 < (sz : Int) := by omega
          have ra107 : IntKind.i64.wrap ((kp : Int) + 1) = (kp : Int) + 1 := by rw [IntKind.wrap_i64]; omega
          have ec107 : ((kp : Int)).toNat = jN107 := by omega
          have pc107 : (0 : Int) ≤ (kp : Int) := by omega
          have bc107 : (kp : Int) < (sz : Int) := by omega
          have rc107 : IntKind.i64.wrap ((kp : Int)) = (kp : Int) := by rw [IntKind.wrap_i64]; omega
          obtain ⟨x107, hx107⟩ : ∃ x, x = dk[k]! := ⟨_, rfl⟩
          obtain ⟨y107, hy107⟩ : ∃ x, x = dk[kp]! := ⟨_, rfl⟩
          have S3 : Aside0 (SW (Value.int .i64) w0 blk off (swp dk (k) (kp)) ((wr.setCell ⟨blk, off + iN107, none⟩ (Value.int .i64 y107)).setCell ⟨blk, off + jN107, none⟩ (Value.int .i64 x107)).drew) := ⟨by rw [hiN107, hjN107, hx107, hy107]; exact S2.out.swapped R (k) (kp) (by omega) (by omega)⟩
          have c107a := S2.out.c1 R (by omega) (k) (by omega)
          have c107b := S2.out.c1 R (by omega) (kp) (by omega)
          have f107a := S2.out.f1 R (by omega) (k) (by omega)
          have f107b := S2.out.f1 R (by omega) (kp) (by omega)
          obtain ⟨u107, c107c⟩ := S2.out.c2 R (by omega) (k) (kp) (by omega) (by omega) (Value.int .i64 y107)
          rw [← hjN107, ← hiN107] at c107c
          rw [← hx107, ← hiN107] at c107a
          rw [← hy107, ← hjN107] at c107b
          rw [← hiN107] at f107a
          rw [← hjN107] at f107b
          clear S2 hx107 hy107 hiN107 hjN107
          go_wp2_with fail
          go_big_region_o
          clear c107a c107b c107c f107a f107b
          generalize ((wr.setCell ⟨blk, off + iN107, none⟩ (Value.int .i64 y107)).setCell ⟨blk, off + jN107, none⟩ (Value.int .i64 x107)).drew = w3 at S3 ⊢
          clear ea107 ec107 pa107 ba107 ra107 pc107 bc107 rc107
          go_wp2_with fail
          go_roundg (kp - lo)
          case measure => omega
          case rel => exact ⟨kp, swp dk k kp, by first | rfl | go_num | (congr 1; omega), by omega, by omega, Nat.le_refl _, by rw [swp_size]; exact hds, HR2, S3⟩
        · have hkz : ¬ (lo : Int) < (k : Int) := by omega
          go_wp2_with fail
          go_end0
          have e2 : k = lo := by omega
          have e3 := HM.out
          have h5 := HR.out
          rw [e2, ← e3] at h5
          exact ⟨rfl, dk, ins_right (key := key) e3 hal (by omega) HU.out HI2.out.1 HI2.out.2 h5, S2.out⟩

theorem rot_sorted1 {key : Int → Int} {a m lo t : Nat} {d e : Array Int} (hU : SortedIn (ltK key) a m d) (hr : RotIn lo m t d e) (h : lo ≤ m) : SortedIn (ltK key) a lo e := by
  intro i j h1 h2 h3
  rw [hr.out i (by omega), hr.out j (by omega)]
  exact hU i j h1 h2 (by omega)
theorem rot_sorted2 {key : Int → Int} {m b lo t md : Nat} {d e : Array Int} (hV : SortedIn (ltK key) m b d) (hr : RotIn lo m t d e) (h : m ≤ t) (h2 : t ≤ b) (h3 : md = lo + (t - m)) : SortedIn (ltK key) lo md e := by
  intro i j h1 h2 h3
  have ei := hr.left (i - lo) (by omega)
  have ej := hr.left (j - lo) (by omega)
  rw [show lo + (i - lo) = i by omega] at ei
  rw [show lo + (j - lo) = j by omega] at ej
  rw [ei, ej]
  exact hV _ _ (by omega) (by omega) (by omega)
theorem rot_sorted3 {key : Int → Int} {a m lo t md : Nat} {d e : Array Int} (hU : SortedIn (ltK key) a m d) (hr : RotIn lo m t d e) (h : a ≤ lo) (h2 : lo ≤ m ∧ m ≤ t) (h3 : md = lo + (t - m)) : SortedIn (ltK key) md t e := by
  intro i j h1 h2 h3
  have ei := hr.right (i - md) (by omega)
  have ej := hr.right (j - md) (by omega)
  rw [show lo + (t - m) + (i - md) = i by omega] at ei
  rw [show lo + (t - m) + (j - md) = j by omega] at ej
  rw [ei, ej]
  exact hU _ _ (by omega) (by omega) (by omega)
theorem rot_sorted4 {key : Int → Int} {m b lo t : Nat} {d e : Array Int} (hV : SortedIn (ltK key) m b d) (hr : RotIn lo m t d e) (h : m ≤ t) : SortedIn (ltK key) t b e := by
  intro i j h1 h2 h3
  rw [hr.out i (by omega), hr.out j (by omega)]
  exact hV i j (by omega) h2 h3
theorem rot_low {key : Int → Int} {a m b lo t md : Nat} {d e : Array Int} (hU : SortedIn (ltK key) a m d) (hV : SortedIn (ltK key) m b d) (hr : RotIn lo m t d e) (h : lo ≤ m ∧ m ≤ t) (h2 : t ≤ b) (h3 : md = lo + (t - m)) (h4 : a = lo ∨ lo = md) : SortedIn (ltK key) a md e := by
  rcases h4 with h4 | h4
  · subst h4; exact rot_sorted2 hV hr h.2 h2 h3
  · rw [← h4]; exact rot_sorted1 hU hr h.1
theorem rot_high {key : Int → Int} {a m b lo t md : Nat} {d e : Array Int} (hU : SortedIn (ltK key) a m d) (hV : SortedIn (ltK key) m b d) (hr : RotIn lo m t d e) (h : lo ≤ m ∧ m ≤ t) (h2 : a ≤ lo) (h3 : md = lo + (t - m)) (h4 : md = t ∨ t = b) : SortedIn (ltK key) md b e := by
  rcases h4 with h4 | h4
  · rw [h4]; exact rot_sorted4 hV hr h.2
  · rw [← h4]; exact rot_sorted3 hU hr h2 h h3
theorem stin_sorted {key : Int → Int} {a q x y : Nat} {d e : Array Int} (h : StIn key a q d e) (hq : q ≤ x) (hs : SortedIn (ltK key) x y d) : SortedIn (ltK key) x y e := by
  intro i j h1 h2 h3
  rw [h.out i (by omega), h.out j (by omega)]
  exact hs i j h1 h2 h3

set_option maxHeartbeats 16000000 in
set_option maxRecDepth 100000 in
theorem symMerge_step (key : Int → Int) (cf : Int → Int → Int) (g : Nat) (cb : Array Value) (blk off cap sz : Nat) (d0 : Array Int) (w0 : World) (eg : ∀ args w, (callFunc g args).run Tryd.prog w = .ok (.enter g args) w) (hcf : ∀ x y, decide (cf x y < 0) = ltK key x y) (hcmp : CmpLays1 Tryd.prog g cb (Value.int .i64) cf blk off sz w0) (R : Row1 (Value.int .i64) w0 blk off d0) (hs : d0.size = sz) (hsz : sz < 4611686018427387904)
    (a m b : Nat) (d : Array Int) (w : World) (hd : d.size = sz) (S : SW (Value.int .i64) w0 blk off d w) (ham : a + 1 < m) (hmb : m + 1 < b) (hb : b ≤ sz) (hU : SortedIn (ltK key) a m d) (hV : SortedIn (ltK key) m b d)
    (ih : ∀ (a' m' b' : Nat) (d' : Array Int) (w' : World), b' - a' < b - a → a' < m' → m' < b' → b' ≤ sz → d'.size = sz → SW (Value.int .i64) w0 blk off d' w' → SortedIn (ltK key) a' m' d' → SortedIn (ltK key) m' b' d' →
      Calls Tryd.prog 69 #[.slice (some ⟨blk, off, none⟩) sz cap, .int .i64 a', .int .i64 m', .int .i64 b', .func (.func g) #[] cb] w' (SortP (fun e => StIn key a' b' d' e ∧ SortedIn (ltK key) a' b' e) w0 blk off)) :
    Calls Tryd.prog 69 #[.slice (some ⟨blk, off, none⟩) sz cap, .int .i64 a, .int .i64 m, .int .i64 b, .func (.func g) #[] cb] w (SortP (fun e => StIn key a b d e ∧ SortedIn (ltK key) a b e) w0 blk off) := by
  have mixed : Tryd.prog.follows .mixedOrders = true := by kernel_rfl
  have S0 := Aside0.mk S
  have HC := Aside0.mk hcmp
  have HCF := Aside0.mk hcf
  have HU := Aside0.mk hU
  have HV := Aside0.mk hV
  have IH := Aside0.mk ih
  clear S hcmp hcf hU hV ih
  obtain ⟨q, hq⟩ : ∃ x, x = m - a := ⟨_, rfl⟩
  have e1 : (m : Int) - (a : Int) = (q : Int) := by omega
  have e2 : ((q : Int) == 1) = false := by simp; omega
  obtain ⟨q2, hq2⟩ : ∃ x, x = b - m := ⟨_, rfl⟩
  have e3 : (b : Int) - (m : Int) = (q2 : Int) := by omega
  have e4 : ((q2 : Int) == 1) = false := by simp; omega
  obtain ⟨md, hmd⟩ : ∃ x, x = (a + b) / 2 := ⟨_, rfl⟩
  have e5 : ((a : Int) + (b : Int)) / 2 = (md : Int) := by omega
  obtain ⟨nn, hnn⟩ : ∃ x, x = md + m := ⟨_, rfl⟩
  have e6 : (md : Int) + (m : Int) = (nn : Int) := by omega
  obtain ⟨pp, hpp⟩ : ∃ x, x + 1 = nn := ⟨nn - 1, by omega⟩
  have e7 : (nn : Int) - 1 = (pp : Int) := by omega
  have b1 : a ≤ md := by omega
  have b2 : md < b := by omega
  have b3 : 2 * md ≤ a + b := by omega
  have b4 : a + b ≤ 2 * md + 1 := by omega
  have hN2 : nn ≤ 2 * sz := by omega
  have hN3 : pp < 2 * sz := by omega
  clear hq hq2 hmd
  have HN := Aside0.mk (show pp + 1 = md + m ∧ nn = md + m by omega)
  have hlohi : ∃ lo0 hi0 : Nat, a ≤ lo0 ∧ lo0 ≤ hi0 ∧ hi0 ≤ m ∧ hi0 ≤ md ∧ m + hi0 ≤ pp + 1 ∧ pp + 1 ≤ b + lo0 ∧ ((md < m ∧ (nn : Int) - (b : Int) = (lo0 : Int) ∧ hi0 = md) ∨ (m ≤ md ∧ lo0 = a ∧ hi0 = m)) ∧ (lo0 = a ∨ pp + 1 = b + lo0) ∧ (hi0 = m ∨ pp + 1 = m + hi0) := by
    by_cases h : md < m
    · exact ⟨nn - b, md, by omega, by omega, by omega, by omega, by omega, by omega, .inl ⟨h, by omega, rfl⟩, by omega, by omega⟩
    · exact ⟨a, m, by omega, by omega, by omega, by omega, by omega, by omega, .inr ⟨by omega, rfl, rfl⟩, by omega, by omega⟩
  obtain ⟨lo0, hi0, f1, f2, f3, f3b, f4, f5, hcase, f6, f7⟩ := hlohi
  have HF6 := Aside0.mk f6
  have HF7 := Aside0.mk f7
  clear f6 f7 hnn hpp
  rcases hcase with ⟨hmm, e8, hh0⟩ | ⟨hmm, hl0, hh0⟩
  case' inl =>
    have HH := Aside0.mk hh0
    have hmz : (md : Int) < (m : Int) := by omega
    clear hh0
    go_enter Tryd.func69, Tryd.ntmps69
    go_wp2_with fail
    clear e8
  case' inr =>
    have HH := Aside0.mk hh0
    have HL0 := Aside0.mk hl0
    have hmz : ¬ (md : Int) < (m : Int) := by omega
    clear hh0 hl0
    go_enter Tryd.func69, Tryd.ntmps69
    go_wp2_with fail
  all_goals
    clear e1 e2 e3 e4 e5 e6 e7 hmz hmm
    go_loopg [20, 21] (hi0 - lo0) (fun kx s t wr => ∃ (lo hi : Nat), s = .int .i64 lo ∧ t = .int .i64 hi ∧ lo0 ≤ lo ∧ lo ≤ hi ∧ hi ≤ hi0 ∧ hi - lo ≤ kx ∧ Aside0 ((lo = lo0 ∨ key d[lo - 1]! ≤ key d[pp - (lo - 1)]!) ∧ (hi = hi0 ∨ key d[pp - hi]! < key d[hi]!)) ∧ Aside0 (SW (Value.int .i64) w0 blk off d wr))
    case atStart => exact ⟨lo0, hi0, by first | rfl | rw [HL0.out], by rw [HH.out], Nat.le_refl _, f2, Nat.le_refl _, Nat.le_refl _, ⟨.inl rfl, .inl rfl⟩, S0⟩
    case round =>
      clear S0
      obtain ⟨lo, hi, rfl, rfl, hll, hlh, hhh, hkx, HI, S1⟩ := hrel
      by_cases hlt : lo < hi
      · have hltz : (lo : Int) < (hi : Int) := by omega
        obtain ⟨c, hc⟩ : ∃ x, x = (lo + hi) / 2 := ⟨_, rfl⟩
        have e10 : ((lo : Int) + (hi : Int)) / 2 = (c : Int) := by omega
        have c1 : lo ≤ c := by omega
        have c2 : c < hi := by omega
        obtain ⟨r, hr⟩ : ∃ x, x = pp - c := ⟨_, rfl⟩
        have e11 : (pp : Int) - (c : Int) = (r : Int) := by omega
        have r1 : r < b := by omega
        clear hc
        cases hT : ltK key d[r]! d[c]! with
        | true =>
          have HI2 : Aside0 ((lo = lo0 ∨ key d[lo - 1]! ≤ key d[pp - (lo - 1)]!) ∧ (c = hi0 ∨ key d[pp - c]! < key d[c]!)) := ⟨HI.out.1, .inr (by rw [← hr]; simpa [ltK] using hT)⟩
          have HT := Aside0.mk hT
          clear hT HI hr
          obtain ⟨iN108, hiN108⟩ : ∃ q, q = r := ⟨_, rfl⟩
          obtain ⟨jN108, hjN108⟩ : ∃ q, q = c := ⟨_, rfl⟩
          have ea108 : ((r : Int)).toNat = iN108 := by omega
          have pa108 : (0 : Int) ≤ (r : Int) := by omega
          have ba108 : (r : Int) < (sz : Int) := by omega
          have ra108 : IntKind.i64.wrap ((r : Int)) = (r : Int) := by rw [IntKind.wrap_i64]; omega
          have ec108 : ((c : Int)).toNat = jN108 := by omega
          have pc108 : (0 : Int) ≤ (c : Int) := by omega
          have bc108 : (c : Int) < (sz : Int) := by omega
          have rc108 : IntKind.i64.wrap ((c : Int)) = (c : Int) := by rw [IntKind.wrap_i64]; omega
          obtain ⟨x108, hx108⟩ : ∃ x, x = d[r]! := ⟨_, rfl⟩
          obtain ⟨y108, hy108⟩ : ∃ x, x = d[c]! := ⟨_, rfl⟩
          have l108a := S1.out.cl R (by omega) (r) (by omega)
          have l108b := S1.out.cl R (by omega) (c) (by omega)
          rw [← hx108, ← hiN108] at l108a
          rw [← hy108, ← hjN108] at l108b
          have hc108 := S1.out.cmp HC.out (by omega) x108 y108
          have hd108 : decide (cf x108 y108 < 0) = true := by rw [hx108, hy108]; exact (HCF.out _ _).trans HT.out
          have hv108 : cf x108 y108 < 0 := of_decide_eq_true hd108
          clear hx108 hy108 hiN108 hjN108
          go_wp2_with fail
          go_quiet_grown (first | (go_at_fn g; refine Calls.grown_of (hc108 _ _)))
          have S2 : Aside0 (SW (Value.int .i64) w0 blk off d (grow (wr.drewN nq) osq)) := ⟨S1.out.grown nq osq⟩
          clear l108a l108b hc108 S1
          generalize grow (wr.drewN nq) osq = w2 at S2 ⊢
          clear nq osq
          clear ea108 ec108 pa108 ba108 ra108 pc108 bc108 rc108 hd108 hv108
          go_wp2_with fail
          go_roundg (c - lo)
          case measure => omega
          case rel => exact ⟨lo, c, rfl, rfl, hll, by omega, by omega, Nat.le_refl _, HI2, S2⟩
        | false =>
          have HI2 : Aside0 ((c + 1 = lo0 ∨ key d[c + 1 - 1]! ≤ key d[pp - (c + 1 - 1)]!) ∧ (hi = hi0 ∨ key d[pp - hi]! < key d[hi]!)) := ⟨.inr (by rw [Nat.add_sub_cancel, ← hr]; simpa [ltK] using hT), HI.out.2⟩
          have HT := Aside0.mk hT
          clear hT HI hr
          obtain ⟨iN109, hiN109⟩ : ∃ q, q = r := ⟨_, rfl⟩
          obtain ⟨jN109, hjN109⟩ : ∃ q, q = c := ⟨_, rfl⟩
          have ea109 : ((r : Int)).toNat = iN109 := by omega
          have pa109 : (0 : Int) ≤ (r : Int) := by omega
          have ba109 : (r : Int) < (sz : Int) := by omega
          have ra109 : IntKind.i64.wrap ((r : Int)) = (r : Int) := by rw [IntKind.wrap_i64]; omega
          have ec109 : ((c : Int)).toNat = jN109 := by omega
          have pc109 : (0 : Int) ≤ (c : Int) := by omega
          have bc109 : (c : Int) < (sz : Int) := by omega
          have rc109 : IntKind.i64.wrap ((c : Int)) = (c : Int) := by rw [IntKind.wrap_i64]; omega
          obtain ⟨x109, hx109⟩ : ∃ x, x = d[r]! := ⟨_, rfl⟩
          obtain ⟨y109, hy109⟩ : ∃ x, x = d[c]! := ⟨_, rfl⟩
          have l109a := S1.out.cl R (by omega) (r) (by omega)
          have l109b := S1.out.cl R (by omega) (c) (by omega)
          rw [← hx109, ← hiN109] at l109a
          rw [← hy109, ← hjN109] at l109b
          have hc109 := S1.out.cmp HC.out (by omega) x109 y109
          have hd109 : decide (cf x109 y109 < 0) = false := by rw [hx109, hy109]; exact (HCF.out _ _).trans HT.out
          have hv109 : ¬ cf x109 y109 < 0 := of_decide_eq_false hd109
          clear hx109 hy109 hiN109 hjN109
          go_wp2_with fail
          go_quiet_grown (first | (go_at_fn g; refine Calls.grown_of (hc109 _ _)))
          have S2 : Aside0 (SW (Value.int .i64) w0 blk off d (grow (wr.drewN nq) osq)) := ⟨S1.out.grown nq osq⟩
          clear l109a l109b hc109 S1
          generalize grow (wr.drewN nq) osq = w2 at S2 ⊢
          clear nq osq
          clear ea109 ec109 pa109 ba109 ra109 pc109 bc109 rc109 hd109 hv109
          go_wp2_with fail
          go_roundg (hi - (c + 1))
          case measure => omega
          case rel => exact ⟨c + 1, hi, by go_num, rfl, by omega, by omega, hhh, Nat.le_refl _, HI2, S2⟩
      · have hltz : ¬ (lo : Int) < (hi : Int) := by omega
        have hle : hi = lo := by omega
        obtain ⟨t, ht⟩ : ∃ x, x = nn - lo := ⟨_, rfl⟩
        have HL : Aside0 ((lo < m → m < t → key d[t - 1]! < key d[lo]!) ∧ (a < lo → t < b → key d[lo - 1]! ≤ key d[t]!)) := ⟨by
          have h1 := HF6.out; have h2 := HF7.out; have h3 := HN.out; have h4 := HI.out
          rw [hle] at h4
          refine ⟨fun q1 q2 => ?_, fun q1 q2 => ?_⟩
          · rw [show t - 1 = pp - lo by omega]
            rcases h4.2 with h | h
            · omega
            · exact h
          · rw [show t = pp - (lo - 1) by omega]
            rcases h4.1 with h | h
            · omega
            · exact h⟩
        have e9 : (nn : Int) - (lo : Int) = (t : Int) := by have := HN.out; omega
        have hn1 : lo + t = md + m := by have := HN.out; omega
        have htb : t ≤ b := by have := HN.out; omega
        clear HI hle HF6 HF7 ht
        by_cases hA : lo < m
        · by_cases hB : lo < md
          · by_cases hC : a < lo
            · by_cases hD : t < b
              · have g0 : (lo : Int) < (m : Int) := by omega
                have g1 : (m : Int) < (t : Int) := by omega
                have g2 : (a : Int) < (lo : Int) := by omega
                have g3 : (lo : Int) < (md : Int) := by omega
                have g4 : (md : Int) < (t : Int) := by omega
                have g5 : (t : Int) < (b : Int) := by omega
                go_wp2_with fail
                refine (rotate_any g cb blk off cap sz lo m t d0 d w0 _ R hs hd S1.out (by omega) (by omega) (by omega) hsz).mono ?_
                rintro e wA ⟨rfl, dA, hrA, SA⟩
                have HR := Aside0.mk hrA
                have S2 := Aside0.mk SA
                clear S1 hrA SA
                have hdA := HR.out.size.trans hd
                go_wp2_with fail
                refine (IH.out a lo md dA _ (by omega) (by omega) (by omega) (by omega) hdA S2.out (rot_sorted1 HU.out HR.out (by omega)) (rot_sorted2 HV.out HR.out (by omega) (by omega) (by omega))).mono ?_
                rintro e wB ⟨rfl, dB, ⟨hB1, hB2⟩, SB⟩
                have HB1 := Aside0.mk hB1
                have HB2 := Aside0.mk hB2
                have S3 := Aside0.mk SB
                clear S2 hB1 hB2 SB
                have hdB := HB1.out.size.trans hdA
                go_wp2_with fail
                refine (IH.out md t b dB _ (by omega) (by omega) (by omega) (by omega) hdB S3.out (stin_sorted HB1.out (by omega) (rot_sorted3 HU.out HR.out (by omega) (by omega) (by omega))) (stin_sorted HB1.out (by omega) (rot_sorted4 HV.out HR.out (by omega)))).mono ?_
                rintro e wC ⟨rfl, dC, ⟨hC1, hC2⟩, SC⟩
                have HC1 := Aside0.mk hC1
                have HC2 := Aside0.mk hC2
                have S4 := Aside0.mk SC
                clear S3 hC1 hC2 SC
                go_wp2_with fail
                go_end0
                have hfin := merge_step (s := lo) (t := t) (q := md) (by omega) (by omega) (by omega) (by omega) (by omega) HU.out HV.out HL.out.1 HL.out.2 HR.out HB1.out HB2.out HC1.out HC2.out
                exact ⟨rfl, dC, hfin, S4.out⟩
              · have g0 : (lo : Int) < (m : Int) := by omega
                have g1 : (m : Int) < (t : Int) := by omega
                have g2 : (a : Int) < (lo : Int) := by omega
                have g3 : (lo : Int) < (md : Int) := by omega
                have g4 : (md : Int) < (t : Int) := by omega
                have g5 : ¬ (t : Int) < (b : Int) := by omega
                go_wp2_with fail
                refine (rotate_any g cb blk off cap sz lo m t d0 d w0 _ R hs hd S1.out (by omega) (by omega) (by omega) hsz).mono ?_
                rintro e wA ⟨rfl, dA, hrA, SA⟩
                have HR := Aside0.mk hrA
                have S2 := Aside0.mk SA
                clear S1 hrA SA
                have hdA := HR.out.size.trans hd
                go_wp2_with fail
                refine (IH.out a lo md dA _ (by omega) (by omega) (by omega) (by omega) hdA S2.out (rot_sorted1 HU.out HR.out (by omega)) (rot_sorted2 HV.out HR.out (by omega) (by omega) (by omega))).mono ?_
                rintro e wB ⟨rfl, dB, ⟨hB1, hB2⟩, SB⟩
                have HB1 := Aside0.mk hB1
                have HB2 := Aside0.mk hB2
                have S3 := Aside0.mk SB
                clear S2 hB1 hB2 SB
                have hdB := HB1.out.size.trans hdA
                have HC1 : Aside0 (StIn key md b dB dB) := ⟨StIn.refl _ _ _⟩
                have HC2 : Aside0 (SortedIn (ltK key) md b dB) := ⟨stin_sorted HB1.out (by omega) (rot_high HU.out HV.out HR.out (by omega) (by omega) (by omega) (by omega))⟩
                go_wp2_with fail
                go_end0
                have hfin := merge_step (s := lo) (t := t) (q := md) (by omega) (by omega) (by omega) (by omega) (by omega) HU.out HV.out HL.out.1 HL.out.2 HR.out HB1.out HB2.out HC1.out HC2.out
                exact ⟨rfl, dB, hfin, S3.out⟩
            · by_cases hD : t < b
              · have g0 : (lo : Int) < (m : Int) := by omega
                have g1 : (m : Int) < (t : Int) := by omega
                have g2 : ¬ (a : Int) < (lo : Int) := by omega
                have g3 : (md : Int) < (t : Int) := by omega
                have g4 : (t : Int) < (b : Int) := by omega
                go_wp2_with fail
                refine (rotate_any g cb blk off cap sz lo m t d0 d w0 _ R hs hd S1.out (by omega) (by omega) (by omega) hsz).mono ?_
                rintro e wA ⟨rfl, dA, hrA, SA⟩
                have HR := Aside0.mk hrA
                have S2 := Aside0.mk SA
                clear S1 hrA SA
                have hdA := HR.out.size.trans hd
                have HB1 : Aside0 (StIn key a md dA dA) := ⟨StIn.refl _ _ _⟩
                have HB2 : Aside0 (SortedIn (ltK key) a md dA) := ⟨rot_low HU.out HV.out HR.out (by omega) (by omega) (by omega) (by omega)⟩
                have hdB := HB1.out.size.trans hdA
                go_wp2_with fail
                refine (IH.out md t b dA _ (by omega) (by omega) (by omega) (by omega) hdB S2.out (stin_sorted HB1.out (by omega) (rot_sorted3 HU.out HR.out (by omega) (by omega) (by omega))) (stin_sorted HB1.out (by omega) (rot_sorted4 HV.out HR.out (by omega)))).mono ?_
                rintro e wC ⟨rfl, dC, ⟨hC1, hC2⟩, SC⟩
                have HC1 := Aside0.mk hC1
                have HC2 := Aside0.mk hC2
                have S4 := Aside0.mk SC
                clear S2 hC1 hC2 SC
                go_wp2_with fail
                go_end0
                have hfin := merge_step (s := lo) (t := t) (q := md) (by omega) (by omega) (by omega) (by omega) (by omega) HU.out HV.out HL.out.1 HL.out.2 HR.out HB1.out HB2.out HC1.out HC2.out
                exact ⟨rfl, dC, hfin, S4.out⟩
              · have g0 : (lo : Int) < (m : Int) := by omega
                have g1 : (m : Int) < (t : Int) := by omega
                have g2 : ¬ (a : Int) < (lo : Int) := by omega
                have g3 : (md : Int) < (t : Int) := by omega
                have g4 : ¬ (t : Int) < (b : Int) := by omega
                go_wp2_with fail
                refine (rotate_any g cb blk off cap sz lo m t d0 d w0 _ R hs hd S1.out (by omega) (by omega) (by omega) hsz).mono ?_
                rintro e wA ⟨rfl, dA, hrA, SA⟩
                have HR := Aside0.mk hrA
                have S2 := Aside0.mk SA
                clear S1 hrA SA
                have hdA := HR.out.size.trans hd
                have HB1 : Aside0 (StIn key a md dA dA) := ⟨StIn.refl _ _ _⟩
                have HB2 : Aside0 (SortedIn (ltK key) a md dA) := ⟨rot_low HU.out HV.out HR.out (by omega) (by omega) (by omega) (by omega)⟩
                have hdB := HB1.out.size.trans hdA
                have HC1 : Aside0 (StIn key md b dA dA) := ⟨StIn.refl _ _ _⟩
                have HC2 : Aside0 (SortedIn (ltK key) md b dA) := ⟨stin_sorted HB1.out (by omega) (rot_high HU.out HV.out HR.out (by omega) (by omega) (by omega) (by omega))⟩
                go_wp2_with fail
                go_end0
                have hfin := merge_step (s := lo) (t := t) (q := md) (by omega) (by omega) (by omega) (by omega) (by omega) HU.out HV.out HL.out.1 HL.out.2 HR.out HB1.out HB2.out HC1.out HC2.out
                exact ⟨rfl, dA, hfin, S2.out⟩
          · by_cases hC : a < lo
            · by_cases hD : t < b
              · have g0 : (lo : Int) < (m : Int) := by omega
                have g1 : ¬ (m : Int) < (t : Int) := by omega
                have g2 : (a : Int) < (lo : Int) := by omega
                have g3 : ¬ (lo : Int) < (md : Int) := by omega
                have g4 : (md : Int) < (t : Int) := by omega
                have g5 : (t : Int) < (b : Int) := by omega
                have HR : Aside0 (RotIn lo m t d d) := ⟨RotIn.same d (by omega)⟩
                have hdA := HR.out.size.trans hd
                have HB1 : Aside0 (StIn key a md d d) := ⟨StIn.refl _ _ _⟩
                have HB2 : Aside0 (SortedIn (ltK key) a md d) := ⟨rot_low HU.out HV.out HR.out (by omega) (by omega) (by omega) (by omega)⟩
                have hdB := HB1.out.size.trans hdA
                go_wp2_with fail
                refine (IH.out md t b d _ (by omega) (by omega) (by omega) (by omega) hdB S1.out (stin_sorted HB1.out (by omega) (rot_sorted3 HU.out HR.out (by omega) (by omega) (by omega))) (stin_sorted HB1.out (by omega) (rot_sorted4 HV.out HR.out (by omega)))).mono ?_
                rintro e wC ⟨rfl, dC, ⟨hC1, hC2⟩, SC⟩
                have HC1 := Aside0.mk hC1
                have HC2 := Aside0.mk hC2
                have S4 := Aside0.mk SC
                clear S1 hC1 hC2 SC
                go_wp2_with fail
                go_end0
                have hfin := merge_step (s := lo) (t := t) (q := md) (by omega) (by omega) (by omega) (by omega) (by omega) HU.out HV.out HL.out.1 HL.out.2 HR.out HB1.out HB2.out HC1.out HC2.out
                exact ⟨rfl, dC, hfin, S4.out⟩
              · have g0 : (lo : Int) < (m : Int) := by omega
                have g1 : ¬ (m : Int) < (t : Int) := by omega
                have g2 : (a : Int) < (lo : Int) := by omega
                have g3 : ¬ (lo : Int) < (md : Int) := by omega
                have g4 : (md : Int) < (t : Int) := by omega
                have g5 : ¬ (t : Int) < (b : Int) := by omega
                have HR : Aside0 (RotIn lo m t d d) := ⟨RotIn.same d (by omega)⟩
                have hdA := HR.out.size.trans hd
                have HB1 : Aside0 (StIn key a md d d) := ⟨StIn.refl _ _ _⟩
                have HB2 : Aside0 (SortedIn (ltK key) a md d) := ⟨rot_low HU.out HV.out HR.out (by omega) (by omega) (by omega) (by omega)⟩
                have hdB := HB1.out.size.trans hdA
                have HC1 : Aside0 (StIn key md b d d) := ⟨StIn.refl _ _ _⟩
                have HC2 : Aside0 (SortedIn (ltK key) md b d) := ⟨stin_sorted HB1.out (by omega) (rot_high HU.out HV.out HR.out (by omega) (by omega) (by omega) (by omega))⟩
                go_wp2_with fail
                go_end0
                have hfin := merge_step (s := lo) (t := t) (q := md) (by omega) (by omega) (by omega) (by omega) (by omega) HU.out HV.out HL.out.1 HL.out.2 HR.out HB1.out HB2.out HC1.out HC2.out
                exact ⟨rfl, d, hfin, S1.out⟩
            · by_cases hD : t < b
              · have g0 : (lo : Int) < (m : Int) := by omega
                have g1 : ¬ (m : Int) < (t : Int) := by omega
                have g2 : ¬ (a : Int) < (lo : Int) := by omega
                have g3 : (md : Int) < (t : Int) := by omega
                have g4 : (t : Int) < (b : Int) := by omega
                have HR : Aside0 (RotIn lo m t d d) := ⟨RotIn.same d (by omega)⟩
                have hdA := HR.out.size.trans hd
                have HB1 : Aside0 (StIn key a md d d) := ⟨StIn.refl _ _ _⟩
                have HB2 : Aside0 (SortedIn (ltK key) a md d) := ⟨rot_low HU.out HV.out HR.out (by omega) (by omega) (by omega) (by omega)⟩
                have hdB := HB1.out.size.trans hdA
                go_wp2_with fail
                refine (IH.out md t b d _ (by omega) (by omega) (by omega) (by omega) hdB S1.out (stin_sorted HB1.out (by omega) (rot_sorted3 HU.out HR.out (by omega) (by omega) (by omega))) (stin_sorted HB1.out (by omega) (rot_sorted4 HV.out HR.out (by omega)))).mono ?_
                rintro e wC ⟨rfl, dC, ⟨hC1, hC2⟩, SC⟩
                have HC1 := Aside0.mk hC1
                have HC2 := Aside0.mk hC2
                have S4 := Aside0.mk SC
                clear S1 hC1 hC2 SC
                go_wp2_with fail
                go_end0
                have hfin := merge_step (s := lo) (t := t) (q := md) (by omega) (by omega) (by omega) (by omega) (by omega) HU.out HV.out HL.out.1 HL.out.2 HR.out HB1.out HB2.out HC1.out HC2.out
                exact ⟨rfl, dC, hfin, S4.out⟩
              · have g0 : (lo : Int) < (m : Int) := by omega
                have g1 : ¬ (m : Int) < (t : Int) := by omega
                have g2 : ¬ (a : Int) < (lo : Int) := by omega
                have g3 : (md : Int) < (t : Int) := by omega
                have g4 : ¬ (t : Int) < (b : Int) := by omega
                have HR : Aside0 (RotIn lo m t d d) := ⟨RotIn.same d (by omega)⟩
                have hdA := HR.out.size.trans hd
                have HB1 : Aside0 (StIn key a md d d) := ⟨StIn.refl _ _ _⟩
                have HB2 : Aside0 (SortedIn (ltK key) a md d) := ⟨rot_low HU.out HV.out HR.out (by omega) (by omega) (by omega) (by omega)⟩
                have hdB := HB1.out.size.trans hdA
                have HC1 : Aside0 (StIn key md b d d) := ⟨StIn.refl _ _ _⟩
                have HC2 : Aside0 (SortedIn (ltK key) md b d) := ⟨stin_sorted HB1.out (by omega) (rot_high HU.out HV.out HR.out (by omega) (by omega) (by omega) (by omega))⟩
                go_wp2_with fail
                go_end0
                have hfin := merge_step (s := lo) (t := t) (q := md) (by omega) (by omega) (by omega) (by omega) (by omega) HU.out HV.out HL.out.1 HL.out.2 HR.out HB1.out HB2.out HC1.out HC2.out
                exact ⟨rfl, d, hfin, S1.out⟩
        · by_cases hB : lo < md
          · have g0 : ¬ (lo : Int) < (m : Int) := by omega
            have g1 : (a : Int) < (lo : Int) := by omega
            have g2 : (lo : Int) < (md : Int) := by omega
            have g3 : ¬ (md : Int) < (t : Int) := by omega
            have HR : Aside0 (RotIn lo m t d d) := ⟨RotIn.same d (by omega)⟩
            have hdA := HR.out.size.trans hd
            go_wp2_with fail
            refine (IH.out a lo md d _ (by omega) (by omega) (by omega) (by omega) hdA S1.out (rot_sorted1 HU.out HR.out (by omega)) (rot_sorted2 HV.out HR.out (by omega) (by omega) (by omega))).mono ?_
            rintro e wB ⟨rfl, dB, ⟨hB1, hB2⟩, SB⟩
            have HB1 := Aside0.mk hB1
            have HB2 := Aside0.mk hB2
            have S3 := Aside0.mk SB
            clear S1 hB1 hB2 SB
            have hdB := HB1.out.size.trans hdA
            have HC1 : Aside0 (StIn key md b dB dB) := ⟨StIn.refl _ _ _⟩
            have HC2 : Aside0 (SortedIn (ltK key) md b dB) := ⟨stin_sorted HB1.out (by omega) (rot_high HU.out HV.out HR.out (by omega) (by omega) (by omega) (by omega))⟩
            go_wp2_with fail
            go_end0
            have hfin := merge_step (s := lo) (t := t) (q := md) (by omega) (by omega) (by omega) (by omega) (by omega) HU.out HV.out HL.out.1 HL.out.2 HR.out HB1.out HB2.out HC1.out HC2.out
            exact ⟨rfl, dB, hfin, S3.out⟩
          · have g0 : ¬ (lo : Int) < (m : Int) := by omega
            have g1 : (a : Int) < (lo : Int) := by omega
            have g2 : ¬ (lo : Int) < (md : Int) := by omega
            have g3 : ¬ (md : Int) < (t : Int) := by omega
            have HR : Aside0 (RotIn lo m t d d) := ⟨RotIn.same d (by omega)⟩
            have hdA := HR.out.size.trans hd
            have HB1 : Aside0 (StIn key a md d d) := ⟨StIn.refl _ _ _⟩
            have HB2 : Aside0 (SortedIn (ltK key) a md d) := ⟨rot_low HU.out HV.out HR.out (by omega) (by omega) (by omega) (by omega)⟩
            have hdB := HB1.out.size.trans hdA
            have HC1 : Aside0 (StIn key md b d d) := ⟨StIn.refl _ _ _⟩
            have HC2 : Aside0 (SortedIn (ltK key) md b d) := ⟨stin_sorted HB1.out (by omega) (rot_high HU.out HV.out HR.out (by omega) (by omega) (by omega) (by omega))⟩
            go_wp2_with fail
            go_end0
            have hfin := merge_step (s := lo) (t := t) (q := md) (by omega) (by omega) (by omega) (by omega) (by omega) HU.out HV.out HL.out.1 HL.out.2 HR.out HB1.out HB2.out HC1.out HC2.out
            exact ⟨rfl, d, hfin, S1.out⟩

end Go.Proofs.YtipedgkampafjaaDoor.Rf
/- Tells how a row is sorted by blocks. -/
namespace Go.Proofs.YtipedgkampafjaaDoor.Rf
open Go.Shelf Go.RowKit Go.Lib Go.Sort Go.Proofs.YtipedgkampafjaaDoorW.PrintWords Go.Proofs.YtipedgkampafjaaDoorW.PrintLast Go.Proofs.YtipedgkampafjaaDoorW.PrintMore

theorem symMerge_any (key : Int → Int) (cf : Int → Int → Int) (g : Nat) (cb : Array Value) (blk off cap sz : Nat) (d0 : Array Int) (w0 : World) (eg : ∀ args w, (callFunc g args).run Tryd.prog w = .ok (.enter g args) w) (hcf : ∀ x y, decide (cf x y < 0) = ltK key x y) (hcmp : CmpLays1 Tryd.prog g cb (Value.int .i64) cf blk off sz w0) (R : Row1 (Value.int .i64) w0 blk off d0) (hs : d0.size = sz) (hsz : sz < 4611686018427387904) :
    ∀ (n a m b : Nat) (d : Array Int) (w : World), b - a < n → a < m → m < b → b ≤ sz → d.size = sz → SW (Value.int .i64) w0 blk off d w → SortedIn (ltK key) a m d → SortedIn (ltK key) m b d →
      Calls Tryd.prog 69 #[.slice (some ⟨blk, off, none⟩) sz cap, .int .i64 a, .int .i64 m, .int .i64 b, .func (.func g) #[] cb] w (SortP (fun e => StIn key a b d e ∧ SortedIn (ltK key) a b e) w0 blk off)
  | 0, _, _, _, _, _, h, _, _, _, _, _, _, _ => absurd h (Nat.not_lt_zero _)
  | n + 1, a, m, b, d, w, hn, ham, hmb, hb, hd, S, hU, hV => by
    by_cases h1 : m = a + 1
    · exact symMerge_left key cf g cb blk off cap sz d0 w0 eg hcf hcmp R hs hsz a m b d w hd S h1 hmb hb hV
    · by_cases h2 : b = m + 1
      · exact symMerge_right key cf g cb blk off cap sz d0 w0 eg hcf hcmp R hs hsz a m b d w hd S h2 (by omega) hb hU
      · exact symMerge_step key cf g cb blk off cap sz d0 w0 eg hcf hcmp R hs hsz a m b d w hd S (by omega) (by omega) hb hU hV fun a' m' b' d' w' h3 h4 h5 h6 h7 h8 h9 h10 =>
          symMerge_any key cf g cb blk off cap sz d0 w0 eg hcf hcmp R hs hsz n a' m' b' d' w' (by omega) h4 h5 h6 h7 h8 h9 h10

/-- What is sorted outside of a part that is permuted stays so. -/
theorem stin_out {key : Int → Int} {a b x y : Nat} {d e : Array Int} (h : StIn key a b d e) (hq : b ≤ x ∨ y ≤ a) (hs : SortedIn (ltK key) x y d) : SortedIn (ltK key) x y e := by
  intro i j h1 h2 h3
  rw [h.out i (by omega), h.out j (by omega)]
  exact hs i j h1 h2 h3
theorem sortedIn_less {key : Int → Int} {x y y' : Nat} {d : Array Int} (hs : SortedIn (ltK key) x y d) (h : y' ≤ y) : SortedIn (ltK key) x y' d := fun i j h1 h2 h3 => hs i j h1 h2 (by omega)
theorem ltOf_eq {key : Int → Int} {cf : Int → Int → Int} (hcf : ∀ x y, decide (cf x y < 0) = ltK key x y) : ltOf cf = ltK key := by funext x y; exact hcf x y

/-- k whole blocks of a row are sorted, and from there on the smaller blocks. -/
def Blocks (key : Int → Int) (bs n k : Nat) (d : Array Int) : Prop :=
  (∀ i, i < k → SortedIn (ltK key) (i * (2 * bs)) (i * (2 * bs) + 2 * bs) d) ∧ (∀ i, 2 * k ≤ i → SortedIn (ltK key) (i * bs) (min (i * bs + bs) n) d)
/-- Each block of a row is sorted. -/
def BlockS (key : Int → Int) (bs n : Nat) (d : Array Int) : Prop := ∀ i, SortedIn (ltK key) (i * bs) (min (i * bs + bs) n) d
theorem Blocks.start {key : Int → Int} {bs n : Nat} {d : Array Int} (h : BlockS key bs n d) : Blocks key bs n 0 d := ⟨fun i hi => by omega, fun i _ => h i⟩
theorem mul_le_of_lt {i k c : Nat} (h : i < k) : i * c + c ≤ k * c := by
  have := Nat.mul_le_mul_right c (show i + 1 ≤ k from h)
  rwa [Nat.succ_mul] at this
theorem Blocks.parts {key : Int → Int} {bs n k : Nat} {d : Array Int} (h : Blocks key bs n k d) (hn : k * (2 * bs) + 2 * bs ≤ n) : SortedIn (ltK key) (k * (2 * bs)) (k * (2 * bs) + bs) d ∧ SortedIn (ltK key) (k * (2 * bs) + bs) (k * (2 * bs) + 2 * bs) d := by
  have e : 2 * k * bs = k * (2 * bs) := by rw [Nat.mul_comm 2 k, Nat.mul_assoc]
  have h1 := h.2 (2 * k) (Nat.le_refl _)
  have h2 := h.2 (2 * k + 1) (by omega)
  rw [e] at h1
  rw [Nat.succ_mul, e] at h2
  exact ⟨sortedIn_less h1 (by omega), sortedIn_less h2 (by omega)⟩
theorem Blocks.next {key : Int → Int} {bs n k : Nat} {d e : Array Int} (h : Blocks key bs n k d) (h1 : StIn key (k * (2 * bs)) (k * (2 * bs) + 2 * bs) d e) (h2 : SortedIn (ltK key) (k * (2 * bs)) (k * (2 * bs) + 2 * bs) e) : Blocks key bs n (k + 1) e := by
  refine ⟨fun i hi => ?_, fun i hi => stin_out h1 (.inl ?_) (h.2 i (by omega))⟩
  · by_cases hik : i = k
    · subst hik; exact h2
    · exact stin_out h1 (.inr (mul_le_of_lt (by omega))) (h.1 i (by omega))
  · have h3 : (2 * k + 2) * bs ≤ i * bs := Nat.mul_le_mul_right bs (by omega)
    have e2 : (2 * k + 2) * bs = k * (2 * bs) + 2 * bs := by rw [Nat.add_mul, Nat.mul_comm 2 k, Nat.mul_assoc]
    omega
theorem Blocks.rest {key : Int → Int} {bs n k : Nat} {d : Array Int} (h : Blocks key bs n k d) (hn : n ≤ k * (2 * bs) + 2 * bs) : SortedIn (ltK key) (k * (2 * bs)) (min (k * (2 * bs) + bs) n) d ∧ SortedIn (ltK key) (k * (2 * bs) + bs) n d := by
  have e : 2 * k * bs = k * (2 * bs) := by rw [Nat.mul_comm 2 k, Nat.mul_assoc]
  have h1 := h.2 (2 * k) (Nat.le_refl _)
  have h2 := h.2 (2 * k + 1) (by omega)
  rw [e] at h1
  rw [Nat.succ_mul, e] at h2
  exact ⟨h1, sortedIn_less h2 (by omega)⟩
theorem Blocks.last {key : Int → Int} {bs n k : Nat} {d e : Array Int} (h : Blocks key bs n k d) (hk : k * (2 * bs) ≤ n) (hn : n < k * (2 * bs) + 2 * bs) (h1 : StIn key (k * (2 * bs)) n d e) (h2 : SortedIn (ltK key) (k * (2 * bs)) n e) : BlockS key (2 * bs) n e := by
  intro i
  by_cases hik : i < k
  · have := mul_le_of_lt (c := 2 * bs) hik
    exact sortedIn_less (stin_out h1 (.inr this) (h.1 i hik)) (by omega)
  · by_cases hie : i = k
    · subst hie; exact sortedIn_less h2 (by omega)
    · have := mul_le_of_lt (c := 2 * bs) (show k < i by omega)
      intro x y q1 q2 q3
      omega

end Go.Proofs.YtipedgkampafjaaDoor.Rf
/- Tells that slices.SortStableFunc sorts a row of whole numbers by class and keeps the order within each class. -/
namespace Go.Proofs.YtipedgkampafjaaDoor.Rf
open Go.Shelf Go.RowKit Go.Lib Go.Sort Go.Proofs.YtipedgkampafjaaDoorW.PrintWords Go.Proofs.YtipedgkampafjaaDoorW.PrintLast Go.Proofs.YtipedgkampafjaaDoorW.PrintMore

set_option maxHeartbeats 16000000 in
set_option maxRecDepth 100000 in
theorem stable_any (key : Int → Int) (cf : Int → Int → Int) (g : Nat) (cb : Array Value) (blk off cap sz : Nat) (d0 : Array Int) (w0 : World) (eg : ∀ args w, (callFunc g args).run Tryd.prog w = .ok (.enter g args) w) (hcf : ∀ x y, decide (cf x y < 0) = ltK key x y) (hcmp : CmpLays1 Tryd.prog g cb (Value.int .i64) cf blk off sz w0) (R : Row1 (Value.int .i64) w0 blk off d0) (hs : d0.size = sz) (hsz : sz ≤ 1000000000)
    (d : Array Int) (w : World) (hd : d.size = sz) (S : SW (Value.int .i64) w0 blk off d w) :
    Calls Tryd.prog 55 #[.slice (some ⟨blk, off, none⟩) sz cap, .int .i64 sz, .func (.func g) #[] cb] w (SortP (fun e => StIn key 0 sz d e ∧ SortedIn (ltK key) 0 sz e) w0 blk off) := by
  have mixed : Tryd.prog.follows .mixedOrders = true := by kernel_rfl
  have S0 := Aside0.mk S
  have HSM := Aside0.mk (fun a m b d w h1 h2 h3 h4 h5 h6 h7 => symMerge_any key cf g cb blk off cap sz d0 w0 eg hcf hcmp R hs (by omega) (b - a + 1) a m b d w (by omega) h1 h2 h3 h4 h5 h6 h7)
  have HIN : Aside0 (∀ (a b : Nat) (d : Array Int) (w : World), a ≤ b → b ≤ sz → d.size = sz → SW (Value.int .i64) w0 blk off d w → Calls Tryd.prog 68 #[.slice (some ⟨blk, off, none⟩) sz cap, .int .i64 a, .int .i64 b, .func (.func g) #[] cb] w (SortP (fun e => StIn key a b d e ∧ SortedIn (ltK key) a b e) w0 blk off)) := ⟨by
    intro a b d w h1 h2 h3 h4
    subst hs
    have h := Tryd.insertionSortCmpFunc_s (Value.int .i64) cf g cb blk off cap a b d0 d w0 w eg hcmp R h3.symm h4 h1 (by omega) (by omega)
    rw [h3] at h
    refine h.mono ?_
    rintro e w' ⟨rfl, h5⟩
    rw [ltOf_eq hcf] at h5
    exact ⟨rfl, _, insertionSort_st d a b h1 (by omega), h5⟩⟩
  clear S hcmp eg hcf
  go_enter Tryd.func55, Tryd.ntmps55
  go_wp2_with fail
  go_loopg [7, 8] sz (fun kx s t wr => ∃ (k a b : Nat) (dk : Array Int), s = .int .i64 a ∧ t = .int .i64 b ∧ a ≤ sz ∧ b ≤ sz + 20 ∧ sz - a ≤ kx ∧ dk.size = sz ∧ Aside0 (a = k * 20 ∧ b = a + 20 ∧ (∀ i, i < k → SortedIn (ltK key) (i * 20) (i * 20 + 20) dk) ∧ StIn key 0 sz d dk) ∧ Aside0 (SW (Value.int .i64) w0 blk off dk wr))
  case atStart => exact ⟨0, 0, 20, d, rfl, rfl, by omega, by omega, by omega, hd, ⟨rfl, rfl, fun i hi => by omega, StIn.refl _ _ _⟩, S0⟩
  case round =>
    clear S0
    obtain ⟨k, a, b, dk, rfl, rfl, hk, hbs, hkx, hds, HI, S1⟩ := hrel
    by_cases hlt : b ≤ sz
    · have hltz : (b : Int) ≤ (sz : Int) := by omega
      have hab : a < b := by have := HI.out.2.1; omega
      go_wp2_with fail
      refine (HIN.out a b dk _ (by omega) hlt hds S1.out).mono ?_
      rintro e w2 ⟨rfl, d2, ⟨h1, h2⟩, S2⟩
      have HI2 : Aside0 (b = (k + 1) * 20 ∧ (∀ i, i < k + 1 → SortedIn (ltK key) (i * 20) (i * 20 + 20) d2) ∧ StIn key 0 sz d d2) := ⟨by
        obtain ⟨e0, e1, h3, h4⟩ := HI.out
        refine ⟨by omega, fun i hi => ?_, h4.trans (h1.mono (Nat.zero_le _) hlt (by omega))⟩
        by_cases hik : i = k
        · rw [hik, ← e0, ← e1]; exact h2
        · exact stin_out h1 (.inr (by omega)) (h3 i (by omega))⟩
      have hd2 := Aside0.mk (h1.size.trans hds)
      have H2 := Aside0.mk S2
      clear S1 S2 h1 h2 HI
      go_wp2_with fail
      go_roundg (sz - b)
      case measure => omega
      case rel => exact ⟨k + 1, b, b + 20, d2, rfl, by first | rfl | go_num, hlt, by omega, Nat.le_refl _, hd2.out, ⟨HI2.out.1, rfl, HI2.out.2.1, HI2.out.2.2⟩, H2⟩
    · have hltz : ¬ (b : Int) ≤ (sz : Int) := by omega
      clear hkx
      go_wp2_with fail
      refine (HIN.out a sz dk _ hk (Nat.le_refl _) hds S1.out).mono ?_
      rintro e w2 ⟨rfl, d2, ⟨h1, h2⟩, S2⟩
      have HI2 : Aside0 (BlockS key 20 sz d2 ∧ StIn key 0 sz d d2) := ⟨by
        obtain ⟨e0, e1, h3, h4⟩ := HI.out
        refine ⟨fun i => ?_, h4.trans (h1.mono (Nat.zero_le _) (Nat.le_refl _) hk)⟩
        by_cases hik : i < k
        · exact sortedIn_less (stin_out h1 (.inr (by omega)) (h3 i hik)) (by omega)
        · by_cases hie : i = k
          · rw [hie, ← e0]; exact sortedIn_less h2 (by omega)
          · intro x y q1 q2 q3; omega⟩
      have hd2 := h1.size.trans hds
      have H2 := Aside0.mk S2
      clear S1 S2 h1 h2 HI hltz hlt
      go_wp2_with fail
      go_loopg [6] sz (fun kx s wr => ∃ (bs : Nat) (dk : Array Int), s = .int .i64 bs ∧ 20 ≤ bs ∧ bs ≤ 2 * sz + 20 ∧ sz - bs ≤ kx ∧ dk.size = sz ∧ Aside0 (BlockS key bs sz dk ∧ StIn key 0 sz d dk) ∧ Aside0 (SW (Value.int .i64) w0 blk off dk wr))
      case atStart => exact ⟨20, d2, rfl, Nat.le_refl _, by omega, by omega, hd2, HI2, H2⟩
      case round =>
        clear HI2 H2 hd2
        obtain ⟨bs, dk, rfl, hb20, hbsz, hkx, hds, HI, S1⟩ := hrel
        by_cases hlt : bs < sz
        · have hltz : (bs : Int) < (sz : Int) := by omega
          obtain ⟨b2, hb2⟩ : ∃ x, x = 2 * bs := ⟨_, rfl⟩
          have eb2 : 2 * (bs : Int) = (b2 : Int) := by omega
          have eb2' : (bs : Int) * 2 = (b2 : Int) := by omega
          have hb2l : b2 ≤ 2 * sz := by omega
          have hb2m : bs < b2 := by omega
          have HB2 := Aside0.mk hb2
          clear hb2
          go_wp2_with fail
          go_loopg [7, 8] sz (fun kx s t wr => ∃ (k a b : Nat) (dj : Array Int), s = .int .i64 a ∧ t = .int .i64 b ∧ a ≤ sz ∧ b = a + b2 ∧ sz - a ≤ kx ∧ dj.size = sz ∧ Aside0 (a = k * (2 * bs) ∧ Blocks key bs sz k dj ∧ StIn key 0 sz d dj) ∧ Aside0 (SW (Value.int .i64) w0 blk off dj wr))
          case atStart => exact ⟨0, 0, b2, dk, rfl, rfl, by omega, by omega, by omega, hds, ⟨by simp, Blocks.start HI.out.1, HI.out.2⟩, S1⟩
          case round =>
            clear HI S1
            obtain ⟨k, a, b, dj, rfl, rfl, ha, hb, hkx3, hdj, HJ, S2⟩ := hrel
            by_cases hlt2 : b ≤ sz
            · have hltz2 : (b : Int) ≤ (sz : Int) := by omega
              obtain ⟨m, hm⟩ : ∃ x, x = a + bs := ⟨_, rfl⟩
              have em : (a : Int) + (bs : Int) = (m : Int) := by omega
              have hmb : m < b := by omega
              have ham : a < m := by omega
              have HM := Aside0.mk hm
              have HB := Aside0.mk hb
              have hab : a < b := by omega
              clear hm hb
              go_wp2_with fail
              have hp := Blocks.parts (key := key) HJ.out.2.1 (by have h1 := HJ.out.1; have h2 := HB2.out; have h3 := HB.out; omega)
              refine (HSM.out a m b dj _ ham hmb hlt2 hdj S2.out (by rw [HM.out, HJ.out.1]; exact hp.1) (by have h3 := HB2.out; rw [HM.out, HB.out, h3, HJ.out.1]; exact hp.2)).mono ?_
              rintro e w3 ⟨rfl, d3, ⟨h1, h2⟩, S3⟩
              have HJ2 : Aside0 (b = (k + 1) * (2 * bs) ∧ Blocks key bs sz (k + 1) d3 ∧ StIn key 0 sz d d3) := ⟨by
                have h3 := HB2.out; have h4 := HJ.out.1; have h5 := HB.out
                have e5 : b = k * (2 * bs) + 2 * bs := by omega
                refine ⟨by rw [Nat.succ_mul]; exact e5, HJ.out.2.1.next (by rw [← e5, ← h4]; exact h1) (by rw [← e5, ← h4]; exact h2), HJ.out.2.2.trans (h1.mono (Nat.zero_le _) hlt2 (by omega))⟩⟩
              have hd3 := Aside0.mk (h1.size.trans hdj)
              have H3 := Aside0.mk S3
              clear S2 S3 h1 h2 HJ hp em
              obtain ⟨b3, hb3⟩ : ∃ x, x = b + b2 := ⟨_, rfl⟩
              have eb3 : (b : Int) + (b2 : Int) = (b3 : Int) := by omega
              have hb3l : b3 ≤ 3 * sz := by omega
              have HB3 := Aside0.mk hb3
              clear hb3
              go_wp2_with fail
              go_roundg (sz - b)
              case measure => have := HB.out; omega
              case rel => exact ⟨k + 1, b, b3, d3, rfl, rfl, hlt2, HB3.out, Nat.le_refl _, hd3.out, HJ2, H3⟩
            · have hltz2 : ¬ (b : Int) ≤ (sz : Int) := by omega
              obtain ⟨m, hm⟩ : ∃ x, x = a + bs := ⟨_, rfl⟩
              have em : (a : Int) + (bs : Int) = (m : Int) := by omega
              have HM := Aside0.mk hm
              have ham : a < m := by omega
              have HB := Aside0.mk hb
              have hms : m ≤ 2 * sz := by omega
              have hms2 : m < b := by omega
              have hrest := Aside0.mk (Blocks.rest (key := key) HJ.out.2.1 (by have := HJ.out.1; have := HB2.out; omega))
              clear hm hb
              by_cases hmn : m < sz
              · have hmz : (m : Int) < (sz : Int) := by omega
                go_wp2_with fail
                refine (HSM.out a m sz dj _ ham hmn (Nat.le_refl _) hdj S2.out (by have := hrest.out.1; rw [← HJ.out.1, ← HM.out] at this; exact sortedIn_less this (by omega)) (by have := hrest.out.2; rw [← HJ.out.1, ← HM.out] at this; exact this)).mono ?_
                rintro e w3 ⟨rfl, d3, ⟨h1, h2⟩, S3⟩
                have HJ2 : Aside0 (BlockS key b2 sz d3 ∧ StIn key 0 sz d d3) := ⟨by
                  have h3 := HB2.out; have h4 := HJ.out.1; have h5 := HB.out
                  refine ⟨by rw [h3]; exact HJ.out.2.1.last (by omega) (by omega) (by rw [← h4]; exact h1) (by rw [← h4]; exact h2), HJ.out.2.2.trans (h1.mono (Nat.zero_le _) (Nat.le_refl _) ha)⟩⟩
                have hd3 := Aside0.mk (h1.size.trans hdj)
                have H3 := Aside0.mk S3
                clear S2 S3 h1 h2 HJ hrest em
                go_wp2_with fail
                go_roundg (sz - b2)
                case measure => omega
                case rel => exact ⟨b2, d3, rfl, by omega, by omega, Nat.le_refl _, hd3.out, HJ2, H3⟩
              · have hmz : ¬ (m : Int) < (sz : Int) := by omega
                have HJ2 : Aside0 (BlockS key b2 sz dj ∧ StIn key 0 sz d dj) := ⟨by
                  have h3 := HB2.out; have h4 := HJ.out.1; have h5 := HB.out; have h6 := HM.out
                  refine ⟨by rw [h3]; exact HJ.out.2.1.last (by omega) (by omega) (StIn.refl _ _ _) (sortedIn_less hrest.out.1 (by omega)), HJ.out.2.2⟩⟩
                clear HJ hrest
                go_wp2_with fail
                go_roundg (sz - b2)
                case measure => omega
                case rel => exact ⟨b2, dj, rfl, by omega, by omega, Nat.le_refl _, hdj, HJ2, S2⟩
        · have hltz : ¬ (bs : Int) < (sz : Int) := by omega
          go_wp2_with fail
          go_end0
          refine ⟨rfl, dk, ⟨HI.out.2, ?_⟩, S1.out⟩
          have h0 := HI.out.1 0
          rw [Nat.zero_mul] at h0
          exact sortedIn_less h0 (by omega)

set_option maxHeartbeats 4000000 in
set_option maxRecDepth 100000 in
theorem sortStable_any (key : Int → Int) (cf : Int → Int → Int) (g : Nat) (cb : Array Value) (blk off cap sz : Nat) (d0 : Array Int) (w0 : World) (eg : ∀ args w, (callFunc g args).run Tryd.prog w = .ok (.enter g args) w) (hcf : ∀ x y, decide (cf x y < 0) = ltK key x y) (hcmp : CmpLays1 Tryd.prog g cb (Value.int .i64) cf blk off sz w0) (R : Row1 (Value.int .i64) w0 blk off d0) (hs : d0.size = sz) (hsz : sz ≤ 1000000000) :
    Calls Tryd.prog 32 #[.slice (some ⟨blk, off, none⟩) sz cap, .func (.func g) #[] cb] w0 (SortP (fun e => StIn key 0 sz d0 e ∧ SortedIn (ltK key) 0 sz e) w0 blk off) := by
  have HST := Aside0.mk (stable_any key cf g cb blk off cap sz d0 w0 eg hcf hcmp R hs hsz d0 w0 hs (SW.start R.hH))
  clear hcmp eg hcf R
  go_enter Tryd.func32, Tryd.ntmps32
  go_wp2_with fail
  refine HST.out.mono ?_
  rintro e w' ⟨rfl, h⟩
  go_wp2_with fail
  go_end0
  exact ⟨rfl, h⟩
end Go.Proofs.YtipedgkampafjaaDoor.Rf
