/- Layer 9: the plain law of BufferOwn: entries that do not touch may change places. -/
import Derived.Test.YtdmcmpbappjdoaaDoorP2
namespace Go.Proofs.YtdmcmpbappjdoaaDoor
set_option linter.unusedVariables false

/-- Is the word named by the entry? -/
def inN (e : Ent) (j : Int) : Prop := ∃ x ∈ names e, x.1 ≤ j ∧ j ≤ x.2
theorem touch_in {a b : Ent} (ha : mayB a = true) (hb : mayB b = true) (h : touchB a b = false) {j : Int} (h1 : inN a j) (h2 : inN b j) : False := by
  obtain ⟨x, hx, x1, x2⟩ := h1
  obtain ⟨y, hy, y1, y2⟩ := h2
  have : anyT (names a) (names b) = true := by
    unfold anyT
    rw [List.any_eq_true]
    refine ⟨x, hx, ?_⟩
    rw [List.any_eq_true]
    refine ⟨y, hy, ?_⟩
    simp only [tch, Bool.and_eq_true, decide_eq_true_eq]
    omega
  simp [touchB, ha, hb, this] at h
theorem wr_in {e : Ent} {i : Nat} (h : wrB e (i : Int) = true) : inN e i := by
  unfold wrB at h
  unfold inN names
  by_cases h0 : e.k = 0
  · rw [if_pos h0] at h
    rw [if_pos h0]
    have : e.wd = (i : Int) := by simpa using h
    exact ⟨(e.wd, e.wd), by simp, by simp only; omega, by simp only; omega⟩
  · rw [if_neg h0] at h
    rw [if_neg h0]
    by_cases h2 : e.k = 2
    · rw [if_pos (.inl h2)] at h
      have : e.fm = (i : Int) / 512 := by simpa using h
      rw [if_pos h2]
      exact ⟨fst e.fm, by simp, by simp only [fst]; omega, by simp only [fst]; omega⟩
    · by_cases h3 : e.k = 3
      · rw [if_pos (.inr h3)] at h
        have : e.fm = (i : Int) / 512 := by simpa using h
        rw [if_neg h2, if_pos h3]
        exact ⟨fst e.fm, by simp, by simp only [fst]; omega, by simp only [fst]; omega⟩
      · rw [if_neg (by omega)] at h; cases h
theorem rd_in {e : Ent} {i : Nat} (h3 : e.k = 3) (hr : 0 ≤ e.fr) : inN e ((e.fr.toNat * 512 + i % 512 : Nat) : Int) := by
  unfold inN names
  rw [if_neg (by omega), if_neg (by omega), if_pos h3]
  exact ⟨fst e.fr, by simp, by simp only [fst]; omega, by simp only [fst]; omega⟩
/-- What is written at a word that the entry writes. -/
def val (e : Ent) (M : Nat → Int) (i : Nat) : Int := if e.k = 0 then e.v else if e.k = 2 then 0 else M (e.fr.toNat * 512 + i % 512)
theorem put_eq {e : Ent} (hm : mayB e = true) (h4 : e.fr < 4) (M : Nat → Int) (i : Nat) : putM e M i = if wrB e (i : Int) = true then val e M i else M i := by
  have hf := may_fm hm
  by_cases h0 : e.k = 0
  · have hp : putM e M i = if (i : Int) = e.wd then e.v else M i := by unfold putM; rw [if_pos h0]
    have hw' : wrB e (i : Int) = (e.wd == (i : Int)) := by unfold wrB; rw [if_pos h0]
    have hv : val e M i = e.v := by unfold val; rw [if_pos h0]
    rw [hp, hw', hv]
    by_cases hw : (i : Int) = e.wd
    · rw [if_pos hw, if_pos (by simpa using hw.symm)]
    · rw [if_neg hw, if_neg (by simpa using fun h => hw h.symm)]
  · by_cases h2 : e.k = 2
    · have hp : putM e M i = if ((i / 512 : Nat) : Int) = e.fm then 0 else M i := by unfold putM; rw [if_neg h0, if_pos h2]
      have hw' : wrB e (i : Int) = (e.fm == (i : Int) / 512) := by unfold wrB; rw [if_neg h0, if_pos (Or.inl h2)]
      have hv : val e M i = 0 := by unfold val; rw [if_neg h0, if_pos h2]
      rw [hp, hw', hv]
      by_cases hw : ((i / 512 : Nat) : Int) = e.fm
      · rw [if_pos hw, if_pos (by simp; omega)]
      · rw [if_neg hw, if_neg (by simp; omega)]
    · by_cases h3 : e.k = 3
      · have hp : putM e M i = if ((i / 512 : Nat) : Int) = e.fm ∧ 0 ≤ e.fr ∧ e.fr < 4 then M (e.fr.toNat * 512 + i % 512) else M i := by unfold putM; rw [if_neg h0, if_neg h2, if_pos h3]
        have hw' : wrB e (i : Int) = (e.fm == (i : Int) / 512) := by unfold wrB; rw [if_neg h0, if_pos (Or.inr h3)]
        have hv : val e M i = M (e.fr.toNat * 512 + i % 512) := by unfold val; rw [if_neg h0, if_neg h2]
        rw [hp, hw', hv]
        by_cases hw : ((i / 512 : Nat) : Int) = e.fm
        · rw [if_pos ⟨hw, by omega, h4⟩, if_pos (by simp; omega)]
        · rw [if_neg (fun h => hw h.1), if_neg (by simp; omega)]
      · have hp : putM e M i = M i := by unfold putM; rw [if_neg h0, if_neg h2, if_neg h3]
        have hw' : wrB e (i : Int) = false := by unfold wrB; rw [if_neg h0, if_neg (by omega)]
        rw [hp, hw', if_neg (by simp)]
theorem val_same {a b : Ent} (ha : mayB a = true) (hb : mayB b = true) (hb4 : b.fr < 4) (ht : ∀ j, inN a j → inN b j → False) (M : Nat → Int) {i : Nat} (hw : wrB a (i : Int) = true) : val a (putM b M) i = val a M i := by
  unfold val
  by_cases h0 : a.k = 0
  · rw [if_pos h0, if_pos h0]
  · by_cases h2 : a.k = 2
    · rw [if_neg h0, if_pos h2, if_neg h0, if_pos h2]
    · rw [if_neg h0, if_neg h2, if_neg h0, if_neg h2]
      have h3 : a.k = 3 := by
        unfold wrB at hw
        rw [if_neg h0] at hw
        by_cases h : a.k = 2 ∨ a.k = 3
        · omega
        · rw [if_neg h] at hw; cases hw
      rw [put_eq hb hb4, if_neg]
      intro hwb
      exact ht _ (rd_in (i := i) h3 (may_fm ha).2.2.1) (wr_in hwb)
theorem put_comm {a b : Ent} (ha : mayB a = true) (hb : mayB b = true) (ha4 : a.fr < 4) (hb4 : b.fr < 4) (h : touchB a b = false) (M : Nat → Int) : putM a (putM b M) = putM b (putM a M) := by
  funext i
  have ht : ∀ j, inN a j → inN b j → False := fun j => touch_in ha hb h
  rw [put_eq ha ha4, put_eq hb hb4 (putM a M)]
  by_cases wa : wrB a (i : Int) = true
  · have wb : ¬ wrB b (i : Int) = true := fun hb' => ht _ (wr_in wa) (wr_in hb')
    rw [if_pos wa, if_neg wb, val_same ha hb hb4 ht M wa, put_eq ha ha4, if_pos wa]
  · rw [if_neg wa]
    by_cases wb : wrB b (i : Int) = true
    · rw [if_pos wb, put_eq hb hb4, if_pos wb, val_same hb ha ha4 (fun j h1 h2 => ht j h2 h1) M wb]
    · rw [if_neg wb, put_eq hb hb4, if_neg wb, put_eq ha ha4, if_neg wa]
theorem put_bar {e : Ent} (h : isBar e = true) (M : Nat → Int) : putM e M = M := by
  have h1 : e.k = 1 := by simpa [isBar] using h
  funext i
  unfold putM
  rw [if_neg (by omega), if_neg (by omega), if_neg (by omega)]

def runL (l : List Ent) (M : Nat → Int) : Nat → Int := l.foldl (fun M e => putM e M) M
theorem runL_app (l m : List Ent) (M : Nat → Int) : runL (l ++ m) M = runL m (runL l M) := by simp [runL]
theorem runL_cons (e : Ent) (l : List Ent) (M : Nat → Int) : runL (e :: l) M = runL l (putM e M) := rfl
theorem runL_drop (l : List Ent) (M : Nat → Int) : runL (l.dropWhile isBar) M = runL l M := by
  induction l generalizing M with
  | nil => rfl
  | cons e l ih =>
    rw [List.dropWhile_cons]
    cases hb : isBar e
    · rfl
    · rw [if_pos rfl, ih, runL_cons, put_bar hb]
theorem runL_comm {e : Ent} (he : mayB e = true) (he4 : e.fr < 4) : ∀ (l : List Ent), (∀ a ∈ l, mayB a = true ∧ a.fr < 4 ∧ touchB a e = false) → ∀ M, putM e (runL l M) = runL l (putM e M)
  | [], _, M => rfl
  | a :: l, h, M => by
    obtain ⟨h1, h2, h3⟩ := h a (by simp)
    rw [runL_cons, runL_cons, runL_comm he he4 l (fun x hx => h x (by simp [hx])), put_comm h1 he h2 he4 h3]
theorem split_at {l : List Ent} {K : Nat} (hK : K < l.length) : l = l.take K ++ nt l K :: l.drop (K + 1) := by
  have h1 : nt l K = l[K] := by unfold nt; rw [List.getElem?_eq_getElem hK]; rfl
  rw [h1, ← List.drop_eq_getElem_cons hK, List.take_append_drop]
theorem own_take {l : List Ent} {K : Nat} (hc : checkB l = true) (hK : K < l.length) (hf : freeB l K = true) (h4 : ∀ e ∈ l, e.fr < 4) (M : Nat → Int) : runL (takeL l K) (putM (nt l K) M) = runL l M := by
  obtain ⟨c1, c2, c3⟩ := check_iff.1 hc
  obtain ⟨f1, f2⟩ := free_iff.1 hf
  have hmem : nt l K ∈ l := nt_mem hK
  have hcm : ∀ a ∈ l.take K, mayB a = true ∧ a.fr < 4 ∧ touchB a (nt l K) = false := by
    intro a ha
    have hal := List.mem_of_mem_take ha
    refine ⟨c3 a hal, h4 a hal, ?_⟩
    obtain ⟨i, hi, rfl⟩ := List.getElem_of_mem ha
    have hiK : i < K := by simp at hi; omega
    have hst := f1 i hiK
    simp only [stopB, Bool.or_eq_false_iff] at hst
    have e : (l.take K)[i] = nt l i := by
      unfold nt
      rw [List.getElem_take, List.getElem?_eq_getElem (by omega)]
      rfl
    rw [e]
    exact hst.2
  have hpost : ∀ M, runL (if K = 0 then (l.drop 1).dropWhile isBar else l.drop (K + 1)) M = runL (l.drop (K + 1)) M := by
    intro M
    by_cases h0 : K = 0
    · subst h0; rw [if_pos rfl, runL_drop]
    · rw [if_neg h0]
  unfold takeL
  rw [runL_app, hpost, ← runL_comm (c3 _ hmem) (h4 _ hmem) _ hcm, ← runL_cons, ← runL_app, ← split_at hK]
theorem takeL_sub {l : List Ent} {K : Nat} {e : Ent} (h : e ∈ takeL l K) : e ∈ l := by
  unfold takeL at h
  rcases List.mem_append.1 h with h | h
  · exact List.mem_of_mem_take h
  · by_cases h0 : K = 0
    · rw [if_pos h0] at h
      exact List.mem_of_mem_drop ((List.dropWhile_sublist _).subset h)
    · rw [if_neg h0] at h
      exact List.mem_of_mem_drop h
theorem takeL_len {l : List Ent} {K : Nat} (hK : K < l.length) : (takeL l K).length < l.length := by
  unfold takeL
  rw [List.length_append, List.length_take]
  by_cases h0 : K = 0
  · rw [if_pos h0]
    have := (List.dropWhile_sublist isBar (l := l.drop 1)).length_le
    rw [List.length_drop] at this
    omega
  · rw [if_neg h0, List.length_drop]
    omega
theorem head_drop (l : List Ent) : headBar (l.dropWhile isBar) = false := by
  induction l with
  | nil => rfl
  | cons e l ih =>
    rw [List.dropWhile_cons]
    cases hb : isBar e
    · exact hb
    · exact ih
theorem check_takeL {l : List Ent} {K : Nat} (hc : checkB l = true) (hK : K < l.length) : checkB (takeL l K) = true := by
  obtain ⟨c1, c2, c3⟩ := check_iff.1 hc
  refine check_iff.2 ⟨by have := takeL_len hK; omega, ?_, fun e he => c3 e (takeL_sub he)⟩
  unfold takeL
  by_cases h0 : K = 0
  · subst h0
    rw [if_pos rfl]
    exact head_drop _
  · rw [if_neg h0]
    cases l with
    | nil => simp at hK
    | cons a l =>
      obtain ⟨k, rfl⟩ : ∃ k, K = k + 1 := ⟨K - 1, by omega⟩
      exact c2
theorem free_head {l : List Ent} (hc : checkB l = true) (hl : 0 < l.length) : mayAt l 0 = true := by
  obtain ⟨c1, c2, c3⟩ := check_iff.1 hc
  have hf : freeB l 0 = true := free_iff.2 ⟨fun i hi => by omega, by rw [← headBar_nt hl]; exact c2⟩
  have h : mayAt l 0 = (checkB l && decide ((0 : Int) ≤ 0) && decide ((0 : Int) < l.length) && freeB l 0) := rfl
  rw [h, hc, hf]
  simp
  omega
theorem memK_run {l : List Ent} (M : Nat → Int) : ∀ {k : Nat}, k ≤ l.length → memK l M k = runL (l.take k) M
  | 0, _ => rfl
  | k + 1, hk => by
    have h1 : l[k] = nt l k := by unfold nt; rw [List.getElem?_eq_getElem (by omega)]; rfl
    rw [List.take_succ_eq_append_getElem (by omega), runL_app, ← memK_run M (by omega), h1]
    rfl
theorem memK_all (l : List Ent) (M : Nat → Int) : memK l M l.length = runL l M := by rw [memK_run M (Nat.le_refl _), List.take_length]

/-- Which may go, of those below k. -/
def mays (l : List Ent) (k : Nat) : List Nat := (List.range k).filter fun (j : Nat) => mayAt l (j : Int)
theorem mays_yes {l : List Ent} {k : Nat} (h : mayAt l (k : Int) = true) : mays l (k + 1) = mays l k ++ [k] := by
  simp [mays, List.range_succ, h]
theorem mays_no {l : List Ent} {k : Nat} (h : mayAt l (k : Int) = false) : mays l (k + 1) = mays l k := by
  simp [mays, List.range_succ, h]
theorem mays_le (l : List Ent) (k : Nat) : (mays l k).length ≤ k := by
  have := List.length_filter_le (fun (j : Nat) => mayAt l (j : Int)) (List.range k)
  simpa [mays] using this
theorem mays_mem {l : List Ent} {k j : Nat} (h : j ∈ mays l k) : j < k ∧ mayAt l (j : Int) = true := by simpa [mays] using h
theorem mays_some {l : List Ent} (hc : checkB l = true) {n : Nat} (hn : 0 < n) (hl : n = l.length) : 0 < (mays l n).length := by
  have h : 0 ∈ mays l n := by
    have := free_head hc (by omega : 0 < l.length)
    simp only [mays, List.mem_filter, List.mem_range]
    exact ⟨hn, this⟩
  exact List.length_pos_of_mem h
theorem mayAt_free {l : List Ent} {k : Nat} (h : mayAt l (k : Int) = true) : k < l.length ∧ freeB l k = true := by
  simp only [mayAt, Bool.and_eq_true, decide_eq_true_eq, Int.toNat_natCast] at h
  exact ⟨by omega, h.2⟩
end Go.Proofs.YtdmcmpbappjdoaaDoor
