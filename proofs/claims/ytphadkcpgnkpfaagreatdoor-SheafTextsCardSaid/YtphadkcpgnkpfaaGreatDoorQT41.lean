import Derived.Test.YtphadkcpgnkpfaaGreatDoorQT30
import Derived.Test.YtphadkcpgnkpfaaGreatDoorQT36
namespace Go.Proofs.YtphadkcpgnkpfaaGreatDoor
open Go Pm
set_option linter.unusedSimpArgs false
set_option linter.unusedVariables false
def InP (r : Rd) : Prop := (0 ≤ r.ch ∧ r.ch ≤ 99) ∧ (0 ≤ r.ln ∧ r.ln ≤ 99) ∧ (0 ≤ r.wd ∧ r.wd ≤ 99)
def nP (r : Rd) : Int := r.ch * 10000 + r.ln * 100 + r.wd
def BefR (a b : Rd) : Prop := nP a < nP b ∨ nP a = nP b ∧ (a.kind.toNat : Int) = 2
theorem same_n {a b : Rd} (ha : InP a) (hb : InP b) : sameP a b = true ↔ nP a = nP b := by
  obtain ⟨⟨a1, a2⟩, ⟨a3, a4⟩, ⟨a5, a6⟩⟩ := ha
  obtain ⟨⟨b1, b2⟩, ⟨b3, b4⟩, ⟨b5, b6⟩⟩ := hb
  unfold sameP nP
  simp only [Bool.and_eq_true, decide_eq_true_eq]
  constructor
  · rintro ⟨⟨h1, h2⟩, h3⟩; rw [h1, h2, h3]
  · intro h; refine ⟨⟨?_, ?_⟩, ?_⟩ <;> omega
theorem pair_bef {a b : Rd} (ha : InP a) (hb : InP b) (h : pairR a b = true) : BefR a b := by
  have hs := same_n hb ha
  obtain ⟨⟨a1, a2⟩, ⟨a3, a4⟩, ⟨a5, a6⟩⟩ := ha
  obtain ⟨⟨b1, b2⟩, ⟨b3, b4⟩, ⟨b5, b6⟩⟩ := hb
  unfold pairR at h
  simp only [Bool.not_eq_true', Bool.or_eq_false_iff, Bool.and_eq_false_iff, decide_eq_false_iff_not, Decidable.not_not] at h
  obtain ⟨h1, h2⟩ := h
  have hle : nP a ≤ nP b := by
    unfold beforeB at h1
    unfold nP
    by_cases e1 : b.ch = a.ch
    · by_cases e2 : b.ln = a.ln
      · simp [e1, e2] at h1; omega
      · simp [e1, e2] at h1; omega
    · simp [e1] at h1; omega
  unfold BefR
  rcases h2 with h2 | h2
  · have : ¬ nP a = nP b := fun e => by rw [hs.2 e.symm] at h2; cases h2
    left; omega
  · by_cases e : nP a = nP b
    · exact .inr ⟨e, h2⟩
    · left; omega
theorem bef_trans {a b c : Rd} (h1 : BefR a b) (h2 : BefR b c) : BefR a c := by
  unfold BefR at *
  rcases h1 with h1 | ⟨h1, k1⟩ <;> rcases h2 with h2 | ⟨h2, k2⟩
  · left; omega
  · left; omega
  · left; omega
  · right; exact ⟨by omega, k1⟩
theorem reading_in {t : List Ch} (ht : textB t = true) {r : Rd} (h : readingB t r = true) : InP r ∧ GoodR r := by
  obtain ⟨ht1, ht2⟩ := text_v ht
  unfold readingB at h
  cases hl : lineO t r.ch r.ln with
  | none => rw [hl] at h; cases h
  | some l =>
    rw [hl] at h
    simp only at h
    unfold lineO at hl
    split at hl
    · rename_i hab
      obtain ⟨ha, hb⟩ := hab
      simp only [Option.bind_eq_some_iff] at hl
      obtain ⟨c, hc, hl⟩ := hl
      obtain ⟨hat, rfl⟩ := List.getElem?_eq_some_iff.1 hc
      obtain ⟨hbl, rfl⟩ := List.getElem?_eq_some_iff.1 hl
      have hv := ht2 _ (List.getElem_mem hat)
      have hv1 := hv.len
      have hv2 := hv.ln _ (List.getElem_mem hbl)
      unfold kindB at h
      have hw : 0 ≤ r.wd ∧ r.wd ≤ 99 ∧ GoodR r := by
        unfold GoodR
        split at h
        · rename_i hk
          simp only [Bool.and_eq_true, inB_iff, decide_eq_true_eq] at h
          exact ⟨by omega, by omega, .inl ⟨hk, h.2⟩⟩
        · split at h
          · rename_i hk
            simp only [Bool.and_eq_true, inB_iff] at h
            exact ⟨by omega, by omega, .inr (.inl ⟨hk, h.2⟩)⟩
          · split at h
            · rename_i hk
              simp only [Bool.and_eq_true, inB_iff] at h
              exact ⟨by omega, by omega, .inr (.inr ⟨hk, h.2.1⟩)⟩
            · cases h
      refine ⟨⟨⟨ha, by omega⟩, ⟨hb, by omega⟩, ⟨hw.1, hw.2.1⟩⟩, hw.2.2⟩
    · cases hl
structure OKR (t : List Ch) (rs : List Rd) : Prop where
  n : rs.length ≤ 1000
  i : ∀ r ∈ rs, InP r ∧ GoodR r
  s : rs.Pairwise BefR
theorem rds_ok {t : List Ch} {rs : List Rd} (ht : textB t = true) (hn : rs.length ≤ 1000) (h : rdsB t rs = true) : OKR t rs := by
  have hat : ∀ k, k < rs.length → okAt t rs k = true := fun k hk => by
    unfold rdsB at h
    exact List.all_eq_true.1 h k (by simpa using hk)
  have hin : ∀ r ∈ rs, InP r ∧ GoodR r := fun r hr => by
    obtain ⟨k, hk, rfl⟩ := List.mem_iff_getElem.1 hr
    have := hat k hk
    unfold okAt at this
    simp only [Bool.and_eq_true, List.getD_eq_getElem?_getD, List.getElem?_eq_getElem hk, Option.getD_some] at this
    exact reading_in ht this.1
  refine ⟨hn, hin, List.pairwise_iff_getElem.2 ?_⟩
  intro i j hi hj hij
  induction j with
  | zero => omega
  | succ j ih =>
    have hjl : j < rs.length := by omega
    have h1 := hat (j + 1) hj
    unfold okAt at h1
    simp only [Bool.and_eq_true, List.getD_eq_getElem?_getD, List.getElem?_eq_getElem hj, Option.getD_some, Bool.or_eq_true, decide_eq_true_eq, Nat.add_sub_cancel, List.getElem?_eq_getElem hjl] at h1
    have h2 : BefR rs[j] rs[j + 1] := pair_bef (hin _ (List.getElem_mem hjl)).1 (hin _ (List.getElem_mem hj)).1 (by rcases h1.2 with h | h; omega; exact h)
    by_cases e : i = j
    · subst e; exact h2
    · exact bef_trans (ih hjl (by omega)) h2
theorem OKR.take {t : List Ch} {rs : List Rd} (h : OKR t rs) (k : Nat) : OKR t (rs.take k) :=
  ⟨by have := h.n; simp; omega, fun r hr => h.i r (List.mem_of_mem_take hr), h.s.sublist (List.take_sublist _ _)⟩
theorem neB_word {s : ByteArray} (h : wordB s = true) : neB s = true := by
  have := wordB_size h
  unfold neB
  simp only [Bool.not_eq_true', decide_eq_false_iff_not]
  rintro rfl
  simp [ByteArray.size] at this
theorem endD_eq (out : List ByteArray) (own : ByteArray) (ho : ∀ s ∈ out, neB s = true) : (out ++ [own]).filter neB = endD (out, own) := by
  unfold endD
  rw [List.filter_append, List.filter_eq_self.2 ho]
  by_cases h : own = ⟨#[]⟩
  · subst h; simp [neB]
  · simp [h, neB]
theorem stepD_none (k n w : Int) : ∀ (rs : List Rd) (s : List ByteArray × ByteArray), (∀ r ∈ rs, atW k n w r = false) → rs.foldl (stepD k n w) s = s
  | [], s, _ => rfl
  | r :: rs, s, h => by
    rw [List.foldl_cons, show stepD k n w s r = s by simp [stepD, h r (by simp)]]
    exact stepD_none k n w rs s fun x hx => h x (by simp [hx])
theorem at_n {k n w : Int} {a b : Rd} (ha : atW k n w a = true) (hb : atW k n w b = true) : nP a = nP b := by
  simp only [atW, Bool.and_eq_true, decide_eq_true_eq] at ha hb
  unfold nP
  rw [ha.1.1, ha.1.2, ha.2, hb.1.1, hb.1.2, hb.2]
theorem way_eq (k n w : Int) : ∀ (rs : List Rd) (out : List ByteArray) (own : ByteArray), (∀ r ∈ rs, GoodR r) → rs.Pairwise BefR → (∀ s ∈ out, neB s = true) →
    ((rs.filter (atW k n w)).foldl stepP (out ++ [own])).filter neB = endD (rs.foldl (stepD k n w) (out, own))
  | [], out, own, _, _, ho => endD_eq out own ho
  | r :: rs, out, own, hg, hs, ho => by
    have hg' : ∀ r ∈ rs, GoodR r := fun x hx => hg x (by simp [hx])
    obtain ⟨hs1, hs2⟩ := List.pairwise_cons.1 hs
    cases hat : atW k n w r with
    | false =>
      rw [List.filter_cons_of_neg (by simp [hat]), List.foldl_cons, show stepD k n w (out, own) r = (out, own) by simp [stepD, hat]]
      exact way_eq k n w rs out own hg' hs2 ho
    | true =>
      rw [List.filter_cons_of_pos hat, List.foldl_cons, List.foldl_cons]
      have hlast : (out ++ [own]).getD ((out ++ [own]).length - 1) ⟨#[]⟩ = own := by simp
      have htake : (out ++ [own]).take ((out ++ [own]).length - 1) = out := by simp
      have none (hk : ¬ (r.kind.toNat : Int) = 2) : ∀ x ∈ rs, atW k n w x = false := fun x hx => by
        cases hx' : atW k n w x with
        | false => rfl
        | true =>
          exfalso
          have e := at_n hat hx'
          rcases hs1 x hx with h | h
          · omega
          · exact hk h.2
      have nof (hk : ¬ (r.kind.toNat : Int) = 2) : rs.filter (atW k n w) = [] := List.filter_eq_nil_iff.2 fun x hx => by rw [none hk x hx]; simp
      rcases hg r (by simp) with ⟨hk, hw⟩ | ⟨hk, hw⟩ | ⟨hk, hw⟩
      · have e1 : stepP (out ++ [own]) r = out := by unfold stepP makesP; rw [htake, hk]; simp
        have e2 : stepD k n w (out, own) r = (out, ⟨#[]⟩) := by simp [stepD, hat, hk, hw]
        rw [e1, e2, nof (by omega), stepD_none k n w rs _ (none (by omega))]
        rw [List.foldl_nil, List.filter_eq_self.2 ho]
        simp [endD]
      · have e1 : stepP (out ++ [own]) r = (out ++ [r.word]) ++ [own] := by unfold stepP makesP; rw [htake, hlast, hk]; simp
        have e2 : stepD k n w (out, own) r = (out ++ [r.word], own) := by simp [stepD, hat, hk]
        rw [e1, e2]
        refine way_eq k n w rs _ own hg' hs2 fun s hsm => ?_
        rcases List.mem_append.1 hsm with h | h
        · exact ho s h
        · simp at h; subst h; exact neB_word hw
      · have e1 : stepP (out ++ [own]) r = out ++ [r.word] := by unfold stepP makesP; rw [htake, hlast, hk]; simp
        have e2 : stepD k n w (out, own) r = (out, r.word) := by simp [stepD, hat, hk]
        rw [e1, e2, nof (by omega), stepD_none k n w rs _ (none (by omega)), List.foldl_nil]
        exact endD_eq out r.word ho
theorem some_out {t : List Ch} {rs : List Rd} (h : OKR t rs) (k n : Int) (l : List ByteArray) (w : Nat) : (someW rs k n l w).filter neB = outW rs k n l w :=
  way_eq k n w rs [] _ (fun r hr => (h.i r hr).2) h.s (by simp)
theorem read_eq {t : List Ch} {rs : List Rd} (h : OKR t rs) (k n : Int) (l : List ByteArray) : readP rs k n l = readD rs k n l := by
  unfold readP readD
  rw [List.filter_flatMap]
  congr 1
  funext w
  exact some_out h k n l w
def addP (ps : List Rd) (r : Rd) : List Rd := match ps.getLast? with
  | some p => if sameP p r then ps else ps ++ [r]
  | none => [r]
def reps (rs : List Rd) : List Rd := rs.foldl addP []
theorem reps_snoc (rs : List Rd) (r : Rd) : reps (rs ++ [r]) = addP (reps rs) r := by simp [reps]
structure RepOK (rs ps : List Rd) : Prop where
  mem : ∀ p ∈ ps, p ∈ rs
  all : ∀ r ∈ rs, ∃ p ∈ ps, nP p = nP r
  lt : ps.Pairwise (fun a b => nP a < nP b)
  top : ∀ p r, ps.getLast? = some p → r ∈ rs → nP r ≤ nP p
theorem rep_ok {t : List Ch} {rs : List Rd} (h : OKR t rs) : ∀ k, k ≤ rs.length → RepOK (rs.take k) (reps (rs.take k))
  | 0, _ => by
    rw [List.take_zero]
    exact ⟨by simp [reps], by simp, by simp [reps], by simp [reps]⟩
  | k + 1, hk => by
    have ih := rep_ok h k (by omega)
    have hkl : k < rs.length := by omega
    have e : rs.take (k + 1) = rs.take k ++ [rs[k]] := by rw [List.take_add_one, List.getElem?_eq_getElem hkl]; rfl
    have hle : ∀ r ∈ rs.take k, nP r ≤ nP rs[k] := fun r hr => by
      obtain ⟨i, hi, rfl⟩ := List.mem_iff_getElem.1 hr
      simp at hi
      have := List.pairwise_iff_getElem.1 h.s i k (by omega) hkl (by omega)
      rw [List.getElem_take]
      rcases this with h | h <;> omega
    rw [e, reps_snoc]
    unfold addP
    have hI := (h.i _ (List.getElem_mem hkl)).1
    cases hp : (reps (rs.take k)).getLast? with
    | none =>
      have h0 : reps (rs.take k) = [] := List.getLast?_eq_none_iff.1 hp
      have hall : ∀ r, r ∉ rs.take k := fun r hr => by obtain ⟨p, h1, _⟩ := ih.all r hr; rw [h0] at h1; cases h1
      simp only
      refine ⟨fun q hq => by simp at hq; subst hq; exact List.mem_append_right _ (List.mem_singleton.2 rfl), fun r hr => ?_, by simp, fun p r hp hr => ?_⟩
      · rcases List.mem_append.1 hr with hr | hr
        · exact absurd hr (hall r)
        · simp at hr; subst hr; exact ⟨_, by simp, rfl⟩
      · simp at hp; subst hp
        rcases List.mem_append.1 hr with hr | hr
        · exact absurd hr (hall r)
        · simp at hr; subst hr; exact Int.le_refl _
    | some p =>
      have hpm : p ∈ reps (rs.take k) := List.mem_of_getLast? hp
      have hpi := (h.i p (List.mem_of_mem_take (ih.mem p hpm))).1
      have hpk := hle p (ih.mem p hpm)
      simp only
      split
      · rename_i hs
        have hn := (same_n hpi hI).1 hs
        refine ⟨fun q hq => List.mem_append_left _ (ih.mem q hq), fun r hr => ?_, ih.lt, fun q r hq hr => ?_⟩
        · rcases List.mem_append.1 hr with hr | hr
          · exact ih.all r hr
          · simp at hr; subst hr; exact ⟨p, hpm, hn⟩
        · rw [hp] at hq; cases hq
          rcases List.mem_append.1 hr with hr | hr
          · exact ih.top p r hp hr
          · simp at hr; subst hr; omega
      · rename_i hs
        have hn : ¬ nP p = nP rs[k] := fun e => hs ((same_n hpi hI).2 e)
        refine ⟨fun q hq => ?_, fun r hr => ?_, List.pairwise_append.2 ⟨ih.lt, by simp, fun a ha b hb => ?_⟩, fun q r hq hr => ?_⟩
        · rcases List.mem_append.1 hq with hq | hq
          · exact List.mem_append_left _ (ih.mem q hq)
          · exact List.mem_append_right _ hq
        · rcases List.mem_append.1 hr with hr | hr
          · obtain ⟨q, h1, h2⟩ := ih.all r hr; exact ⟨q, List.mem_append_left _ h1, h2⟩
          · simp at hr; subst hr; exact ⟨_, by simp, rfl⟩
        · simp at hb; subst hb
          have := ih.top p a hp (ih.mem a ha)
          omega
        · simp at hq; subst hq
          rcases List.mem_append.1 hr with hr | hr
          · exact hle r hr
          · simp at hr; subst hr; exact Int.le_refl _
end Go.Proofs.YtphadkcpgnkpfaaGreatDoor
