import Derived.Test.YtppcbmpiphhphaaGreatDoorQU34
import Derived.Test.YtppcbmpiphhphaaGreatDoorQU41
import Derived.Test.YtppcbmpiphhphaaGreatDoorQU43
import Derived.Test.YtppcbmpiphhphaaGreatDoorQU45
namespace Go.Proofs.YtppcbmpiphhphaaGreatDoor
open Go Pm Go.RowKit Go.Sort
set_option linter.unusedSimpArgs false
set_option linter.unusedVariables false
set_option maxHeartbeats 4000000
set_option maxRecDepth 100000
theorem formI_cases (name : ByteArray) : formI name = -1 ∨ formI name = 1 ∨ formI name = 2 ∨ formI name = 3 ∨ formI name = 4 := by
  unfold formI
  split
  · simp
  split
  · simp
  split
  · simp
  split <;> simp
theorem decO_at {name : ByteArray} {l r : Rws} {v k : Int} (hf : formI name = k) (h1 : numO l = some (v, r)) : decO name l = fK k { dc0 with num := v, kind := UInt8.ofNat k.toNat } r := by
  unfold decO; rw [h1, hf]
theorem fK_none (k : Int) (d : Dc) (l : Rws) (h : k = -1) : fK k d l = none := by subst h; rfl
theorem fK_sub {k : Int} {d d' : Dc} {l r : Rws} (h : fK k d l = some (d', r)) (hb : bdD d) : SubR r l ∧ bdD d' := by
  unfold fK at h
  split at h
  · exact f2_sub h hb
  split at h
  · exact f4_sub h hb
  split at h
  · exact f6_sub h hb
  split at h
  · exact f8_sub h hb
  · cases h
theorem decO_sub {name : ByteArray} {l r : Rws} {d : Dc} (h : decO name l = some (d, r)) : SubR r l ∧ bdD d := by
  unfold decO at h
  split at h
  · cases h
  · rename_i n r1 h1
    obtain ⟨a, b⟩ := fK_sub h ⟨by show (⟨#[]⟩ : ByteArray).size ≤ _; decide, by show (⟨#[]⟩ : ByteArray).size ≤ _; decide⟩
    exact ⟨a.trans (numO_sub h1), b⟩
theorem stepLx_ok {s s' : Lx} {name : ByteArray} {l r : Rws} (h : stepLx s name l = some (s', r)) : s'.rules.length ≤ s.rules.length + 1 ∧ s'.decs.length ≤ s.decs.length + 1 ∧ ((∀ r ∈ s.rules, bdR r) → ∀ r ∈ s'.rules, bdR r) ∧ ((∀ d ∈ s.decs, bdD d) → ∀ d ∈ s'.decs, bdD d) := by
  unfold stepLx at h
  split at h
  · split at h
    · split at h
      · cases h
      · rename_i q l' h1
        cases h
        refine ⟨by simp, by simp, fun hb x hx => ?_, fun hb => hb⟩
        rcases List.mem_append.1 hx with hx | hx
        · exact hb x hx
        · simp at hx; subst hx; exact (ruleO_sub h1).2
    · cases h
  · split at h
    · cases h
    · rename_i d l' h1
      cases h
      refine ⟨by simp, by simp, fun hb => hb, fun hb x hx => ?_⟩
      rcases List.mem_append.1 hx with hx | hx
      · exact hb x hx
      · simp at hx; subst hx; exact (decO_sub h1).2
theorem lby_bad (lo : Nat) (s : Lx) (name : ByteArray) (l : Rws) (h : stepLx s name l = none) (hl : ∀ x ∈ l, x.size ≤ 100000) (hn : s.rules.length ≤ 1000) (hd : s.decs.length ≤ 1000) :
    Tri Tryz.prog 52 [str name, .ptr 51 0, .ptr 50 0] [(50, .box [.own 60 0 s.rules.length 3, .own 61 0 s.decs.length 9]), (51, .box [strs lo l]), (60, .arr 64 3 (s.rules.map rlC)), (61, .arr 68 9 (s.decs.map dcC))]
      (fun _ => .pan (wrV 111) []) := by
  unfold stepLx at h
  split at h
  · rename_i hc
    subst hc
    split at h
    · rename_i hs
      unfold ruleO at h
      cases h1 : wordO l with
      | none => exact cut_1 lo s l hs h1
      | some q =>
        obtain ⟨w, r⟩ := q
        rw [h1] at h
        simp only at h
        cases h2 : putO r with
        | none => exact cut_2 lo s l hs w r h1 h2
        | some q2 =>
          obtain ⟨p, r1⟩ := q2
          rw [h2] at h
          simp only at h
          cases h3 : numO r1 with
          | none => exact cut_3 lo s l hs hl hn w r h1 p r1 h2 h3
          | some q3 => rw [h3] at h; cases h
    · rename_i hs
      exact cut_dec lo s l hs
  · rename_i hc
    have hd0 : decO name l = none := by
      cases hq : decO name l with
      | none => rfl
      | some q => rw [hq] at h; cases h
    rcases formI_cases name with hf | hf
    · exact dec_no lo s name l hc hf
    · have hk : 1 ≤ formI name ∧ formI name ≤ 4 := by omega
      cases h1 : numO l with
      | none => exact dec_num lo s name l hl hc _ hk rfl h1
      | some q =>
        obtain ⟨v, r⟩ := q
        rcases hf with hf | hf | hf | hf
        all_goals rw [decO_at hf h1] at hd0
        · exact dec_bad1 lo s name l hl hc hf v r h1 hd0
        · exact dec_bad2 lo s name l hl hc hf v r h1 hd0
        · exact dec_bad3 lo s name l hl hc hf v r h1 hd0
        · exact dec_bad4 lo s name l hl hc hf v r h1 hd0
theorem lby_ok (lo : Nat) (s s' : Lx) (name : ByteArray) (l l' : Rws) (h : stepLx s name l = some (s', l')) (hl : ∀ x ∈ l, x.size ≤ 100000) (hn : s.rules.length ≤ 1000) (hd : s.decs.length ≤ 1000) :
    Tri Tryz.prog 52 [str name, .ptr 51 0, .ptr 50 0] [(50, .box [.own 60 0 s.rules.length 3, .own 61 0 s.decs.length 9]), (51, .box [strs lo l]), (60, .arr 64 3 (s.rules.map rlC)), (61, .arr 68 9 (s.decs.map dcC))]
      (fun _ => .ret (.tup []) [(50, .box [.own 62 0 s'.rules.length 3, .own 63 0 s'.decs.length 9]), (51, .box [strs lo l']), (62, .arr 64 3 (s'.rules.map rlC)), (63, .arr 68 9 (s'.decs.map dcC))]) := by
  unfold stepLx at h
  split at h
  · rename_i hc
    subst hc
    split at h
    · rename_i hs
      unfold ruleO at h
      cases h1 : wordO l with
      | none => rw [h1] at h; cases h
      | some q =>
        obtain ⟨w, r⟩ := q
        rw [h1] at h
        simp only at h
        cases h2 : putO r with
        | none => rw [h2] at h; cases h
        | some q2 =>
          obtain ⟨p, r1⟩ := q2
          rw [h2] at h
          simp only at h
          cases h3 : numO r1 with
          | none => rw [h3] at h; cases h
          | some q3 =>
            obtain ⟨n, r2⟩ := q3
            rw [h3] at h
            simp only [Option.some.injEq, Prod.mk.injEq] at h
            obtain ⟨rfl, rfl⟩ := h
            have hT := cut_4 lo s l hs hl hn w r h1 p r1 h2 n r2 h3
            have e1 : (s.rules ++ [(⟨w, p, n⟩ : Rl)]).map rlC = s.rules.map rlC ++ [rlC ⟨w, p, n⟩] := by rw [List.map_append]; rfl
            have e2 : (s.rules ++ [(⟨w, p, n⟩ : Rl)]).length = s.rules.length + 1 := by simp
            simp only [e1, e2]
            exact hT
    · cases h
  · rename_i hc
    split at h
    · cases h
    · rename_i d r' hq
      simp only [Option.some.injEq, Prod.mk.injEq] at h
      obtain ⟨rfl, rfl⟩ := h
      have e1 : (s.decs ++ [d]).map dcC = s.decs.map dcC ++ [dcC d] := by rw [List.map_append]; rfl
      have e2 : (s.decs ++ [d]).length = s.decs.length + 1 := by simp
      simp only [e1, e2]
      cases h1 : numO l with
      | none => unfold decO at hq; rw [h1] at hq; cases hq
      | some q =>
        obtain ⟨v, r⟩ := q
        rcases formI_cases name with hf | hf | hf | hf | hf
        all_goals rw [decO_at hf h1] at hq
        · rw [fK_none _ _ _ rfl] at hq; cases hq
        · exact dec_ok1 lo s name l hl hc hf v r h1 d r' hq hd
        · exact dec_ok2 lo s name l hl hc hf v r h1 d r' hq hd
        · exact dec_ok3 lo s name l hl hc hf v r h1 d r' hq hd
        · exact dec_ok4 lo s name l hl hc hf v r h1 d r' hq hd
open Go Pm Go.RowKit Go.Sort
set_option maxHeartbeats 4000000
set_option maxRecDepth 100000
def stepY (s : Lx) (x : ByteArray) : Option Lx := match partsS x with
  | [] => none
  | name :: rest => match stepLx s name rest with
    | some (s', []) => some s'
    | _ => none
def readX (s : Lx) : List ByteArray → Option Lx
  | [] => some s
  | x :: l => (stepY s x).bind fun s' => readX s' l
theorem readX_app : ∀ (l m : List ByteArray) (s : Lx), readX s (l ++ m) = (readX s l).bind fun s' => readX s' m
  | [], m, s => rfl
  | x :: l, m, s => by
    simp only [List.cons_append, readX]
    cases stepY s x with
    | none => rfl
    | some c => exact readX_app l m c
theorem readX_succ (l : List ByteArray) (s : Lx) (k : Nat) (hk : k < l.length) : readX s (l.take (k + 1)) = (readX s (l.take k)).bind fun s => stepY s l[k] := by
  rw [List.take_add_one, List.getElem?_eq_getElem hk, readX_app]
  congr 1
  funext s
  simp only [Option.toList, readX]
  cases stepY s l[k] <;> rfl
theorem readX_bad {l : List ByteArray} {s0 s : Lx} {k : Nat} (hk : k < l.length) (h : readX s0 (l.take k) = some s) (hb : stepY s l[k] = none) : readX s0 l = none := by
  have h1 : readX s0 (l.take (k + 1)) = none := by rw [readX_succ l s0 k hk, h]; simp [hb]
  have h2 := readX_app (l.take (k + 1)) (l.drop (k + 1)) s0
  rw [List.take_append_drop] at h2
  rw [h2, h1]; rfl
def X0 : Lx := ⟨[], []⟩
theorem stepY_ok {s s' : Lx} {x : ByteArray} (h : stepY s x = some s') : s'.rules.length ≤ s.rules.length + 1 ∧ s'.decs.length ≤ s.decs.length + 1 ∧ ((∀ r ∈ s.rules, bdR r) → ∀ r ∈ s'.rules, bdR r) ∧ ((∀ d ∈ s.decs, bdD d) → ∀ d ∈ s'.decs, bdD d) := by
  unfold stepY at h
  split at h
  · cases h
  · split at h
    · rename_i t hst
      cases h
      exact stepLx_ok hst
    · cases h
theorem readX_ok {l : List ByteArray} : ∀ {k : Nat} {s : Lx}, k ≤ l.length → readX X0 (l.take k) = some s → s.rules.length ≤ k ∧ s.decs.length ≤ k ∧ (∀ r ∈ s.rules, bdR r) ∧ ∀ d ∈ s.decs, bdD d
  | 0, s, _, h => by
    simp [readX] at h
    subst h
    exact ⟨by simp [X0], by simp [X0], by simp [X0], by simp [X0]⟩
  | k + 1, s, hk, h => by
    rw [readX_succ l X0 k (by omega)] at h
    simp only [Option.bind_eq_some_iff] at h
    obtain ⟨u, h1, h2⟩ := h
    obtain ⟨a, b, c, d⟩ := readX_ok (by omega) h1
    obtain ⟨a', b', c', d'⟩ := stepY_ok h2
    exact ⟨by omega, by omega, c' c, d' d⟩
theorem xread_rows (l : List ByteArray) (h : rowsB l = false) : Tri Tryz.prog 30 [strs 0 l, .fn (.func 52) [.ptr 50 0]] [(50, .box [.v (.slice none 0 0), .v (.slice none 0 0)])] (fun _ => .pan (wrV 110) []) := by
  refine tri_intro (fun _ => false) Tryz.func30 Tryz.ntmps30 rfl (by kernel_rfl) (by simp) rfl (by decide) fun G hG hOw hNm => ?_; simp only [go_sem, hG, hOw]
  (repeat' with_reducible first | refine And.intro ?_ ?_ | intro _ | refine exP ?_ ?_); all_goals try omega
  refine call_pureA (Check_ok l) ?_
  rw [h]
  simp only [go_sem, hG, hOw]
  (repeat' with_reducible first | refine And.intro ?_ ?_ | intro _ | refine exP ?_ ?_); all_goals try omega
  refine call_tri [] [] (must_no 110) (by (simp only [go_sem]) <;> simp) (by (simp only [go_sem, entH, entH1, nilArr, obOK]) <;> simp) (by simp [injR, apart, toR]) (by simp [coverR, usH, toR]) (by simp [uniqP, lkR, toR]) (by simp [chk, hG]) ?_
  simp only [go_sem, hG, hOw]
  exact ⟨rfl, ⟨[], by (simp only [EndT, go_sem, entH, entH1, nilArr, obOK, apart, injR, coverR]) <;> simp⟩⟩
theorem read_lex (l : List ByteArray) (h : rowsB l = true) : Tri Tryz.prog 30 [strs 0 l, .fn (.func 52) [.ptr 50 0]] [(50, .box [.v (.slice none 0 0), .v (.slice none 0 0)])] (fun _ => match readX X0 l with
    | some s => .ret (.tup []) [(50, .box (lxC 0 s))]
    | none => .pan (wrV 111) []) := by
  obtain ⟨hl1, hl2⟩ := rowsB_bd h
  refine tri_intro (fun _ => false) Tryz.func30 Tryz.ntmps30 rfl (by kernel_rfl) (by simp) rfl (by decide) fun G hG hOw hNm => ?_; simp only [go_sem, hG, hOw]
  (repeat' with_reducible first | refine And.intro ?_ ?_ | intro _ | refine exP ?_ ?_); all_goals try omega
  refine call_pureA (Check_ok l) ?_
  rw [h]
  simp only [go_sem, hG, hOw]
  (repeat' with_reducible first | refine And.intro ?_ ?_ | intro _ | refine exP ?_ ?_); all_goals try omega
  refine call_tri [] [] (must_yes 110) (by (simp only [go_sem]) <;> simp) (by (simp only [go_sem, entH, entH1, nilArr, obOK]) <;> simp) (by simp [injR, apart, toR]) (by simp [coverR, usH, toR]) (by simp [uniqP, lkR, toR]) (by simp [chk, hG]) ?_
  simp only [go_sem, hG, hOw]
  (repeat' with_reducible first | refine And.intro ?_ ?_ | intro _ | refine exP ?_ ?_); all_goals try omega
  have e0 : X0.rules = [] := rfl
  have e1 : X0.decs = [] := rfl
  refine semC_cutN (fun s : Lx => St.of [] [(50, .box (lxC 0 s))]) (fun s => readX X0 l = some s) ?_ ?_
  · refine semC_loop (fun x : Nat × Lx => St.of [(1, .fn (.func 52) [.ptr 50 0]), (11, strs 0 l), (12, i64 l.length), (13, i64 x.1)] [(50, .box [.own 60 0 x.2.rules.length 3, .own 61 0 x.2.decs.length 9]), (60, .arr 64 3 (x.2.rules.map rlC)), (61, .arr 68 9 (x.2.decs.map dcC))]) (fun x => x.1 ≤ l.length ∧ readX X0 (l.take x.1) = some x.2) (fun x => l.length - x.1) (0, X0) ⟨by simp, by simp [readX]⟩ (ent_of [(50, some 50), (60, none), (61, none)] (by (simp only [e0,e1,List.map_nil,List.length_nil, go_sem]) <;> simp [e0, e1, List.map_nil, List.length_nil]) (by (simp only [e0,e1,List.map_nil,List.length_nil, go_sem, entH, entH1, nilArr, obOK]) <;> simp [e0, e1, List.map_nil, List.length_nil]) (by simp [injR, apart]) (by simp [coverR, usH]) (by simp [hNm, lkR, names])) ?_
    rintro ⟨k, s⟩ ⟨hk, hrd⟩
    simp only at hk hrd
    obtain ⟨hb1, hb2, _, _⟩ := readX_ok hk hrd
    refine vc_sound _ _ _ ?_; simp only [go_sem, hG, hOw]
    (repeat' with_reducible first | refine And.intro ?_ ?_ | intro _ | refine exP ?_ ?_); all_goals try omega
    · rename_i hlt
      have hkl : k < l.length := by omega
      have hsz := hl2 _ (List.getElem_mem hkl)
      refine call_pureA (Split_ok l[k] (by omega)) ?_
      obtain ⟨name, rest, hp⟩ : ∃ name rest, partsS l[k] = name :: rest := by
        cases hq : partsS l[k] with
        | nil => exact (partsS_ne _ hq).elim
        | cons a b => exact ⟨a, b, rfl⟩
      have hps : ∀ s ∈ rest, s.size ≤ 100000 := fun s hs => by have := partsS_size l[k] s (by rw [hp]; simp [hs]); omega
      rw [hp]
      simp only [go_sem, hG, hOw]
      (repeat' with_reducible first | refine And.intro ?_ ?_ | intro _ | refine exP ?_ ?_); all_goals try omega
      refine call_tri [(0, 20)] [] (take_yes G.lo name rest) (by (simp only [go_sem]) <;> simp) (by (simp only [go_sem, entH, entH1, nilArr, obOK]) <;> simp) (by simp [injR, apart, toR]) (by simp [coverR, usH, toR]) (by simp [uniqP, lkR, toR]) (by simp [chk, hG]) ?_
      simp only [go_sem, hG, hOw]
      (repeat' with_reducible first | refine And.intro ?_ ?_ | intro _ | refine exP ?_ ?_); all_goals try omega
      cases hst : stepLx s name rest with
      | none =>
        have hno : readX X0 l = none := readX_bad hkl hrd (by unfold stepY; rw [hp]; simp only [hst])
        rw [hno]
        refine call_tri [(50, 50), (51, 20), (60, 60), (61, 61)] [] (lby_bad G.lo s name rest hst hps (by omega) (by omega)) (by (simp only [go_sem]) <;> simp) (by (simp only [go_sem, entH, entH1, nilArr, obOK]) <;> simp) (by simp [injR, apart, toR]) (by simp [coverR, usH, toR]) (by simp [uniqP, lkR, toR]) (by simp [chk, hG]) ?_
        simp only [go_sem, hG, hOw]
        exact ⟨rfl, ⟨[], by (simp only [EndT, go_sem, entH, entH1, nilArr, obOK, apart, injR, coverR]) <;> simp⟩⟩
      | some q =>
        obtain ⟨s', r'⟩ := q
        refine call_tri [(50, 50), (51, 20), (60, 60), (61, 61)] [(62, 204), (63, 205)] (lby_ok G.lo s s' name rest r' hst hps (by omega) (by omega)) (by (simp only [go_sem]) <;> simp) (by (simp only [go_sem, entH, entH1, nilArr, obOK]) <;> simp) (by simp [injR, apart, toR]) (by simp [coverR, usH, toR]) (by simp [uniqP, lkR, toR]) (by simp [chk, hG]) ?_
        simp only [go_sem, hG, hOw]
        (repeat' with_reducible first | refine And.intro ?_ ?_ | intro _ | refine exP ?_ ?_); all_goals try omega
        · rename_i hr0
          have hr0 : r' = [] := List.eq_nil_of_length_eq_zero (by omega)
          subst hr0
          have hsF : stepY s l[k] = some s' := by unfold stepY; rw [hp]; simp only [hst]
          exact ⟨(k + 1, s'), ⟨by show k + 1 ≤ _; omega, by rw [readX_succ l X0 k hkl, hrd]; simp [hsF]⟩, by show l.length - (k + 1) < _; omega, ent_of [(50, some 50), (60, some 204), (61, some 205)] (by (simp only [List.map_nil, go_sem]) <;> simp [List.map_nil]) (by (simp only [List.map_nil, go_sem, entH, entH1, nilArr, obOK]) <;> simp [List.map_nil]) (by simp [injR, apart]) (by simp [coverR, usH]) (by simp [hNm, lkR, names])⟩
        · rename_i hr0
          have hno : readX X0 l = none := readX_bad hkl hrd (by
            unfold stepY; rw [hp]; simp only [hst]
            cases r' with
            | nil => exact (hr0 rfl).elim
            | cons a b => rfl)
          rw [hno]
          refine mki_step [.int .i64 111] rfl rfl (by kernel_rfl) (by simp [chk, hG]) ?_
          simp only [go_sem, hG, hOw]
          (repeat' with_reducible first | refine And.intro ?_ ?_ | intro _ | refine exP ?_ ?_); all_goals try omega
          refine panic_step rfl rfl ?_
          exact ⟨rfl, ⟨[], by (simp only [EndT, go_sem, entH, entH1, nilArr, obOK, apart, injR, coverR]) <;> simp⟩⟩
    · rename_i hge
      obtain rfl : k = l.length := by omega
      rw [List.take_length] at hrd
      refine ⟨s, hrd, ent_frz (fun i => i == 60 || i == 61) ?_⟩
      have hN : Pm.Sub (.lst G.lo 3 (s.rules.map rlC)) (.lst 0 3 (s.rules.map rlC)) := Sub.lo (Nat.zero_le _)
      have hN2 : Pm.Sub (.lst G.lo 9 (s.decs.map dcC)) (.lst 0 9 (s.decs.map dcC)) := Sub.lo (Nat.zero_le _)
      have hT : List.take s.rules.length (s.rules.map rlC) = s.rules.map rlC := List.take_of_length_le (by simp)
      have hT2 : List.take s.decs.length (s.decs.map dcC) = s.decs.map dcC := List.take_of_length_le (by simp)
      exact ent_of [(50, some 50)] (by (simp only [hT,hN,hT2,hN2, go_sem]) <;> simp [hT, hN, hT2, hN2]) (by (simp only [hT,hN,hT2,hN2, go_sem, entH, entH1, nilArr, obOK]) <;> simp [hT, hN, hT2, hN2]) (by simp [injR, apart]) (by simp [coverR, usH]) (by simp [hNm, lkR, names])
  · rintro s hs
    rw [hs]
    simp only [go_sem, hG, hOw]
    (repeat' with_reducible first | refine And.intro ?_ ?_ | intro _ | refine exP ?_ ?_); all_goals try omega
    exact ⟨[(50, some 50)], by (simp only [EndT, go_sem, entH, entH1, nilArr, obOK, apart, injR, coverR]) <;> simp⟩
open Go Pm Go.RowKit Go.Sort
set_option maxHeartbeats 4000000
set_option maxRecDepth 100000
def toLexP (t : List Ch) (l : List ByteArray) : Lx × Int := if textB t = true then (if rowsB l = true then (match readX X0 l with
    | some s => if lexEr t s = 0 then (s, 0) else (X0, lexEr t s)
    | none => (X0, 111)) else (X0, 110)) else (X0, 10)
theorem ToLex1_ok (l : List ByteArray) (s : Lx) (h : rowsB l = true) (hr : readX X0 l = some s) : Tri Tryz.prog 51 [.ptr 0 0, .ptr 1 0, .ptr 2 0] [(0, .box [i64 0]), (1, .box [strs 0 l]), (2, .box [.v (.slice none 0 0), .v (.slice none 0 0)])]
    (fun _ => .ret (.tup []) [(0, .box [i64 0]), (1, .box [strs 0 l]), (2, .box (lxC 0 s))]) := by
  have hU := read_lex l h
  simp only [hr] at hU
  refine tri_introD (fun _ => false) (told := 29) (p := 0) (x := .int .i64 0) wrV (fun _ => True) Tryz.func51 Tryz.ntmps51 rfl (by kernel_rfl) (by simp) rfl rfl rfl rfl rfl (by simp [names]) told_none (fun k _ => told_back k) fun G hG hOw hNm _ => ?_
  simp only [go_sem, hG, hOw]
  (repeat' with_reducible first | refine And.intro ?_ ?_ | intro _ | refine exP ?_ ?_); all_goals try omega
  refine call_tri [(50, 2)] [] (hU) (by (simp only [go_sem]) <;> simp) (by (simp only [go_sem, entH, entH1, nilArr, obOK]) <;> simp) (by simp [injR, apart, toR]) (by simp [coverR, usH, toR]) (by simp [uniqP, lkR, toR]) (by simp [chk, hG]) ?_
  simp (maxSteps := 2000000) only [go_sem, hG, hOw, endsD_n, endsD_r]
  (repeat' with_reducible first | refine And.intro ?_ ?_ | intro _ | refine exP ?_ ?_); all_goals try omega
  exact ⟨[(0, some 0), (1, some 1), (2, some 2)], by (simp only [EndT, go_sem, entH, entH1, nilArr, obOK, apart, injR, coverR]) <;> simp⟩
theorem ToLex1_bad (l : List ByteArray) (k : Int) (h : rowsB l = false ∧ k = 110 ∨ rowsB l = true ∧ readX X0 l = none ∧ k = 111) : Tri Tryz.prog 51 [.ptr 0 0, .ptr 1 0, .ptr 2 0] [(0, .box [i64 0]), (1, .box [strs 0 l]), (2, .box [.v (.slice none 0 0), .v (.slice none 0 0)])]
    (fun _ => .ret (.tup []) [(0, .box [i64 k]), (1, .box [strs 0 l])]) := by
  have hU : Tri Tryz.prog 30 [strs 0 l, .fn (.func 52) [.ptr 50 0]] [(50, .box [.v (.slice none 0 0), .v (.slice none 0 0)])] (fun _ => .pan (wrV k) []) := by
    rcases h with ⟨h1, rfl⟩ | ⟨h1, h2, rfl⟩
    · exact xread_rows l h1
    · have := read_lex l h1
      simp only [h2] at this
      exact this
  refine tri_introD (fun _ => false) (told := 29) (p := 0) (x := .int .i64 0) wrV (fun _ => True) Tryz.func51 Tryz.ntmps51 rfl (by kernel_rfl) (by simp) rfl rfl rfl rfl rfl (by simp [names]) told_none (fun k _ => told_back k) fun G hG hOw hNm _ => ?_
  simp only [go_sem, hG, hOw]
  (repeat' with_reducible first | refine And.intro ?_ ?_ | intro _ | refine exP ?_ ?_); all_goals try omega
  refine call_tri [(50, 2)] [] (hU) (by (simp only [go_sem]) <;> simp) (by (simp only [go_sem, entH, entH1, nilArr, obOK]) <;> simp) (by simp [injR, apart, toR]) (by simp [coverR, usH, toR]) (by simp [uniqP, lkR, toR]) (by simp [chk, hG]) ?_
  simp (maxSteps := 2000000) only [go_sem, hG, hOw, endsD_p]
  (repeat' with_reducible first | refine And.intro ?_ ?_ | intro _ | refine exP ?_ ?_); all_goals try omega
  exact ⟨k, rfl, ⟨[(0, some 0), (1, some 1)], by (simp only [EndT, go_sem, entH, entH1, nilArr, obOK, apart, injR, coverR]) <;> simp⟩⟩
theorem sub_noLx (lo : Nat) (k : Int) : Pm.Sub (.tup [.agg [.v (.slice none 0 0), .v (.slice none 0 0)], i64 k]) (.tup [lxE lo X0, i64 k]) :=
  Subs.tup (.cons (Subs.agg (.cons (.nil _ _) (.cons (.nil _ _) .nil))) (.cons (.refl _) .nil))
theorem ToLexicon_ok (t : List Ch) (l : List ByteArray) : Gives Tryz.prog 17 [txE 0 t, strs 0 l] (fun _ => .tup [lxE 0 (toLexP t l).1, i64 (toLexP t l).2]) := by
  cases ht : textB t with
  | false =>
    have e : toLexP t l = (X0, 10) := by unfold toLexP; rw [ht]; rfl
    rw [e]
    refine pure_intro (ow := fun _ => false) Tryz.func17 Tryz.ntmps17 rfl (by kernel_rfl) (by simp) rfl (by decide) fun G hG hOw hNm hB => ?_; simp only [go_sem, hG, hOw]
    refine call_pureA (LCheck_ok t) ?_
    simp (maxSteps := 2000000) only [go_sem, hG, hOw, ht]
    try (repeat' with_reducible first | refine And.intro ?_ ?_ | intro _ | refine exP ?_ ?_); all_goals try omega
    exact sub_noLx _ _
  | true =>
    by_cases hgood : rowsB l = true ∧ ∃ s, readX X0 l = some s
    · obtain ⟨h1, s, h2⟩ := hgood
      obtain ⟨hl1, hl2⟩ := rowsB_bd h1
      obtain ⟨b1, b2, b3, b4⟩ := readX_ok (l := l) (k := l.length) (Nat.le_refl _) (by rw [List.take_length]; exact h2)
      have e : toLexP t l = if lexEr t s = 0 then (s, 0) else (X0, lexEr t s) := by unfold toLexP; simp only [ht, h1, h2, if_true]
      rw [e]
      have hT := ToLex1_ok l s h1 h2
      have hC := StCheck_ok t s ⟨b3, b4, by omega, by omega⟩
      refine pure_intro (ow := fun _ => false) Tryz.func17 Tryz.ntmps17 rfl (by kernel_rfl) (by simp) rfl (by decide) fun G hG hOw hNm hB => ?_; simp only [go_sem, hG, hOw]
      refine call_pureA (LCheck_ok t) ?_
      simp (maxSteps := 2000000) only [go_sem, hG, hOw, ht]
      try (repeat' with_reducible first | refine And.intro ?_ ?_ | intro _ | refine exP ?_ ?_); all_goals try omega
      refine call_tri [(0, 8), (1, 3), (2, 7)] [] (hT) (by (simp only [go_sem]) <;> simp) (by (simp only [go_sem, entH, entH1, nilArr, obOK]) <;> simp) (by simp [injR, apart, toR]) (by simp [coverR, usH, toR]) (by simp [uniqP, lkR, toR]) (by simp [chk, hG]) ?_
      simp only [go_sem, hG, hOw]
      (repeat' with_reducible first | refine And.intro ?_ ?_ | intro _ | refine exP ?_ ?_); all_goals try omega
      refine call_pure hC (by first | exact Subs.refl _ | (repeat' (first | exact Subs.nil | exact Sub.refl _ | exact Sub.lo (Nat.zero_le _) | refine Subs.cons ?_ ?_ | refine Subs.agg ?_ | refine Subs.fp ?_ | refine Subs.tup ?_ | refine Sub.map (Nat.zero_le _) (fun _ => ?_)))) (by first | rfl | simp [allP, all0, pureV, pure0, *]) (by simp [chk, hG]) ?_
      by_cases he : lexEr t s = 0
      · rw [if_pos he, he]
        simp only [go_sem, hG, hOw]
        try (repeat' with_reducible first | refine And.intro ?_ ?_ | intro _ | refine exP ?_ ?_); all_goals try omega
      · rw [if_neg he]
        simp (maxSteps := 2000000) only [go_sem, hG, hOw, he]
        try (repeat' with_reducible first | refine And.intro ?_ ?_ | intro _ | refine exP ?_ ?_); all_goals try omega
        refine semC_draw ⟨[], [(25, [8]), (4, [4])], []⟩ [(0, false), (1, false), (2, false), (3, false)] mixed (by kernel_rfl) ?_
        simp only [pickO, List.getElem?_cons_zero, List.getElem?_cons_succ]
        simp only [go_sem, hG, hOw]
        try (repeat' with_reducible first | refine And.intro ?_ ?_ | intro _ | refine exP ?_ ?_); all_goals try omega
        exact sub_noLx _ _
    · obtain ⟨k, hk, e⟩ : ∃ k : Int, (rowsB l = false ∧ k = 110 ∨ rowsB l = true ∧ readX X0 l = none ∧ k = 111) ∧ toLexP t l = (X0, k) := by
        cases h1 : rowsB l with
        | false => exact ⟨110, .inl ⟨rfl, rfl⟩, by simp [toLexP, h1, ht]⟩
        | true =>
          cases h2 : readX X0 l with
          | none => exact ⟨111, .inr ⟨rfl, rfl, rfl⟩, by simp [toLexP, h1, h2, ht]⟩
          | some t => exact (hgood ⟨h1, t, h2⟩).elim
      have hk0 : k ≠ 0 := by rcases hk with ⟨_, rfl⟩ | ⟨_, _, rfl⟩ <;> decide
      have hT := ToLex1_bad l k hk
      rw [e]
      refine pure_intro (ow := fun _ => false) Tryz.func17 Tryz.ntmps17 rfl (by kernel_rfl) (by simp) rfl (by decide) fun G hG hOw hNm hB => ?_; simp only [go_sem, hG, hOw]
      refine call_pureA (LCheck_ok t) ?_
      simp (maxSteps := 2000000) only [go_sem, hG, hOw, ht]
      try (repeat' with_reducible first | refine And.intro ?_ ?_ | intro _ | refine exP ?_ ?_); all_goals try omega
      refine call_tri [(0, 8), (1, 3), (2, 7)] [] (hT) (by (simp only [go_sem]) <;> simp) (by (simp only [go_sem, entH, entH1, nilArr, obOK]) <;> simp) (by simp [injR, apart, toR]) (by simp [coverR, usH, toR]) (by simp [uniqP, lkR, toR]) (by simp [chk, hG]) ?_
      simp (maxSteps := 2000000) only [go_sem, hG, hOw, hk0]
      (repeat' with_reducible first | refine And.intro ?_ ?_ | intro _ | refine exP ?_ ?_); all_goals try omega
      refine semC_draw ⟨[], [(25, [8]), (4, [4])], []⟩ [(0, false), (1, false), (2, false), (3, false)] mixed (by kernel_rfl) ?_
      simp only [pickO, List.getElem?_cons_zero, List.getElem?_cons_succ]
      simp only [go_sem, hG, hOw]
      try (repeat' with_reducible first | refine And.intro ?_ ?_ | intro _ | refine exP ?_ ?_); all_goals try omega
      exact sub_noLx _ _
open Go Pm
set_option maxHeartbeats 4000000
set_option maxRecDepth 100000
theorem RSameS_self (l : List Si) : Gives Tryz.prog 14 [sis 0 l, sis 0 l] (fun _ => bl true) := by
  refine pure_intro (ow := fun _ => false) Tryz.func14 Tryz.ntmps14 rfl (by kernel_rfl) (by simp) rfl (by decide) fun G hG hOw hNm hB => ?_; simp only [go_sem, hG, hOw]
  have hl := bd_lst hB (List.mem_cons_self ..)
  simp only [List.length_map] at hl
  (repeat' with_reducible first | refine And.intro ?_ ?_ | intro _ | refine exP ?_ ?_); all_goals try omega
  refine semC_loop (fun k : Nat => St.of [(0, sis 0 l), (1, sis 0 l), (5, i64 k)] []) (fun k => k ≤ l.length) (fun k => l.length - k) 0 (by simp) (ent_of0 (by (simp only [go_sem]) <;> simp) hNm) ?_
  rintro k hk
  by_cases hkl : k < l.length
  · have hlt : (k : Int) < l.length := by omega
    refine vc_sound _ _ _ ?_
    simp (maxSteps := 2000000) only [go_sem, hG, hOw, hlt]
    refine semC_draw0 mixed (by kernel_rfl) ?_
    simp (maxSteps := 2000000) only [go_sem, hG, hOw, decide_true, Bool.and_self, Bool.not_true]
    (repeat' with_reducible first | refine And.intro ?_ ?_ | intro _ | refine exP ?_ ?_); all_goals try omega
    exact ⟨k + 1, by omega, by omega, ent_of0 (by (simp only [go_sem]) <;> simp) hNm⟩
  · have hlt : ¬ (k : Int) < l.length := by omega
    refine vc_sound _ _ _ ?_
    simp (maxSteps := 2000000) only [go_sem, hG, hOw, hlt]
    try (repeat' with_reducible first | refine And.intro ?_ ?_ | intro _ | refine exP ?_ ?_); all_goals try omega
theorem gtSs_bd {l : List Si} (h : gtSs l = false) : l.length ≤ 800 ∧ ∀ s ∈ l, bdS s := by
  simp only [gtSs, Bool.or_eq_false_iff, decide_eq_false_iff_not, List.any_eq_false] at h
  refine ⟨by omega, fun s hs => ?_⟩
  obtain ⟨h1, h2, h3⟩ := gtS_bd (s := s) (by simpa using h.2 s hs)
  exact ⟨by omega, by omega, by omega⟩
theorem toLexP_bd (t : List Ch) (l : List ByteArray) : bdX (toLexP t l).1 := by
  have h0 : bdX X0 := ⟨by simp [X0], by simp [X0], by simp [X0], by simp [X0]⟩
  unfold toLexP
  split
  · split
    · rename_i hr
      split
      · rename_i s hs
        split
        · obtain ⟨hl1, hl2⟩ := rowsB_bd hr
          obtain ⟨b1, b2, b3, b4⟩ := readX_ok (l := l) (k := l.length) (Nat.le_refl _) (by rw [List.take_length]; exact hs)
          exact ⟨b3, b4, by show s.rules.length ≤ _; omega, by show s.decs.length ≤ _; omega⟩
        · exact h0
      · exact h0
    · exact h0
  · exact h0
end Go.Proofs.YtppcbmpiphhphaaGreatDoor
