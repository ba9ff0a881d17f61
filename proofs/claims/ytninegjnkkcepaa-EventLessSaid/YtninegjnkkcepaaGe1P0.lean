import Derived.Test.YtninegjnkkcepaaTye1
namespace Go.Proofs.Ytninegjnkkcepaa
open Go
set_option linter.unusedVariables false
set_option linter.unusedSimpArgs false
structure api_Pair where
  Key : Str
  Value : Str
instance : Inhabited api_Pair := ⟨⟨[], []⟩⟩
def r_api_Pair : Rep api_Pair where
  sz := 2
  R := fun _ x cs => cs = [.string (bs x.Key), .string (bs x.Value)]
  len := fun h => by subst h; rfl
  one := by
    intro M x cs h
    subst h
    exact fun v hv => List.all_eq_true.1 (show (List.all [.string (bs x.Key), .string (bs x.Value)] (·.oneCell')) = true from rfl) v hv
  mono := fun _ h => h
structure api_Answer where
  Err : Int
  Found : Bool
  Value : Str
  Pairs : (List api_Pair)
instance : Inhabited api_Answer := ⟨⟨0, false, [], []⟩⟩
def r_api_Answer : Rep api_Answer where
  sz := 4
  R := fun M x cs => ∃ v3, SlR r_api_Pair M v3 x.Pairs ∧ cs = [.int .i64 x.Err, .bool x.Found, .string (bs x.Value), v3]
  len := fun ⟨v3, h3, h⟩ => by subst h; rfl
  one := by
    rintro M x cs ⟨v3, h3, h⟩
    subst h
    obtain ⟨A3, c3, rfl, _⟩ := h3.form
    exact fun v hv => List.all_eq_true.1 (show (List.all [.int .i64 x.Err, .bool x.Found, .string (bs x.Value), .slice A3 x.Pairs.length c3] (·.oneCell')) = true from rfl) v hv
  mono := fun hM ⟨v3, h3, h⟩ => ⟨v3, SlR.mono h3 hM, h⟩
structure api_Event where
  What : Int
  Task : Int
  Call : Int
  Answer : api_Answer
instance : Inhabited api_Event := ⟨⟨0, 0, 0, ⟨0, false, [], []⟩⟩⟩
def r_api_Event : Rep api_Event where
  sz := 7
  R := fun M x cs => ∃ v6, SlR r_api_Pair M v6 x.Answer.Pairs ∧ cs = [.int .u8 x.What, .int .i64 x.Task, .int .i64 x.Call, .int .i64 x.Answer.Err, .bool x.Answer.Found, .string (bs x.Answer.Value), v6]
  len := fun ⟨v6, h6, h⟩ => by subst h; rfl
  one := by
    rintro M x cs ⟨v6, h6, h⟩
    subst h
    obtain ⟨A6, c6, rfl, _⟩ := h6.form
    exact fun v hv => List.all_eq_true.1 (show (List.all [.int .u8 x.What, .int .i64 x.Task, .int .i64 x.Call, .int .i64 x.Answer.Err, .bool x.Answer.Found, .string (bs x.Answer.Value), .slice A6 x.Answer.Pairs.length c6] (·.oneCell')) = true from rfl) v hv
  mono := fun hM ⟨v6, h6, h⟩ => ⟨v6, SlR.mono h6 hM, h⟩
structure event_task where
  at_ : Int
  calls : Int
instance : Inhabited event_task := ⟨⟨0, 0⟩⟩
def r_event_task : Rep event_task where
  sz := 2
  R := fun _ x cs => cs = [.int .i64 x.at_, .int .i64 x.calls]
  len := fun h => by subst h; rfl
  one := by
    intro M x cs h
    subst h
    exact fun v hv => List.all_eq_true.1 (show (List.all [.int .i64 x.at_, .int .i64 x.calls] (·.oneCell')) = true from rfl) v hv
  mono := fun _ h => h
structure event_Recorder where
  tasks : (List event_task)
  l : (List api_Event)
instance : Inhabited event_Recorder := ⟨⟨[], []⟩⟩
def r_event_Recorder : Rep event_Recorder where
  sz := 2
  R := fun M x cs => ∃ v0 v1, SlR r_event_task M v0 x.tasks ∧ SlR r_api_Event M v1 x.l ∧ cs = [v0, v1]
  len := fun ⟨v0, v1, h0, h1, h⟩ => by subst h; rfl
  one := by
    rintro M x cs ⟨v0, v1, h0, h1, h⟩
    subst h
    obtain ⟨A0, c0, rfl, _⟩ := h0.form
    obtain ⟨A1, c1, rfl, _⟩ := h1.form
    exact fun v hv => List.all_eq_true.1 (show (List.all [.slice A0 x.tasks.length c0, .slice A1 x.l.length c1] (·.oneCell')) = true from rfl) v hv
  mono := fun hM ⟨v0, v1, h0, h1, h⟩ => ⟨v0, v1, SlR.mono h0 hM, SlR.mono h1 hM, h⟩
structure event_Place where
  Task : Int
  Call : Int
instance : Inhabited event_Place := ⟨⟨0, 0⟩⟩
def r_event_Place : Rep event_Place where
  sz := 2
  R := fun _ x cs => cs = [.int .i64 x.Task, .int .i64 x.Call]
  len := fun h => by subst h; rfl
  one := by
    intro M x cs h
    subst h
    exact fun v hv => List.all_eq_true.1 (show (List.all [.int .i64 x.Task, .int .i64 x.Call] (·.oneCell')) = true from rfl) v hv
  mono := fun _ h => h
structure ferrymanlaw06_Step where
  What : Int
  Task : Int
  Answer : api_Answer
instance : Inhabited ferrymanlaw06_Step := ⟨⟨0, 0, ⟨0, false, [], []⟩⟩⟩
def r_ferrymanlaw06_Step : Rep ferrymanlaw06_Step where
  sz := 6
  R := fun M x cs => ∃ v5, SlR r_api_Pair M v5 x.Answer.Pairs ∧ cs = [.int .u8 x.What, .int .i64 x.Task, .int .i64 x.Answer.Err, .bool x.Answer.Found, .string (bs x.Answer.Value), v5]
  len := fun ⟨v5, h5, h⟩ => by subst h; rfl
  one := by
    rintro M x cs ⟨v5, h5, h⟩
    subst h
    obtain ⟨A5, c5, rfl, _⟩ := h5.form
    exact fun v hv => List.all_eq_true.1 (show (List.all [.int .u8 x.What, .int .i64 x.Task, .int .i64 x.Answer.Err, .bool x.Answer.Found, .string (bs x.Answer.Value), .slice A5 x.Answer.Pairs.length c5] (·.oneCell')) = true from rfl) v hv
  mono := fun hM ⟨v5, h5, h⟩ => ⟨v5, SlR.mono h5 hM, h⟩
structure ferrymanref06_Place where
  Task : Int
  Call : Int
instance : Inhabited ferrymanref06_Place := ⟨⟨0, 0⟩⟩
def r_ferrymanref06_Place : Rep ferrymanref06_Place where
  sz := 2
  R := fun _ x cs => cs = [.int .i64 x.Task, .int .i64 x.Call]
  len := fun h => by subst h; rfl
  one := by
    intro M x cs h
    subst h
    exact fun v hv => List.all_eq_true.1 (show (List.all [.int .i64 x.Task, .int .i64 x.Call] (·.oneCell')) = true from rfl) v hv
  mono := fun _ h => h
instance : DecidableEq event_Place := fun a b => decidable_of_iff (a.Task = b.Task ∧ a.Call = b.Call) ⟨fun h => by cases a; cases b; simp_all, fun h => by subst h; simp⟩
def enc_event_Place (x : event_Place) : Value := .agg #[.int .i64 x.Task, .int .i64 x.Call]
theorem key62 : KeyT Try.prog 62 enc_event_Place := keyT_struct Try.underlying62 (fun w a b => by
    have h := eq62 w a.Task a.Call b.Task b.Call
    have e : ((a.Task == b.Task) && (a.Call == b.Call)) = decide (a = b) := by
      by_cases hc : a = b
      · subst hc; simp
      · have : ¬ (a.Task = b.Task ∧ a.Call = b.Call) := fun hh => hc (by cases a; cases b; simp_all)
        rw [decide_eq_false hc]
        simp only [← Bool.decide_and, Bool.and_eq_false_iff, beq_eq_false_iff_ne, ne_eq]; by_cases h1 : a.Task = b.Task <;> simp_all
    rw [← e]; exact h)
  (fun w e a => by
    have hi : ∀ (n : Nat) (t : TypeId) (k : IntKind) (x : Int), Try.prog.underlying t = some (.int k) → (Instr.checkKey e (n + 1) t (.int k x)).run Try.prog w = .ok () w := fun n t k x hu => by simp [Instr.checkKey, run_underlying hu, Result.andThen]
    have hb : ∀ (n : Nat) (t : TypeId) (x : Bool), Try.prog.underlying t = some .bool → (Instr.checkKey e (n + 1) t (.bool x)).run Try.prog w = .ok () w := fun n t x hu => by simp [Instr.checkKey, run_underlying hu, Result.andThen]
    have p0 : (part 3 #[.int .i64 a.Task, .int .i64 a.Call] 0).run Try.prog w = .ok (.int .i64 a.Task) w := part_one ty3 rfl
    have p1 : (part 3 #[.int .i64 a.Task, .int .i64 a.Call] 1).run Try.prog w = .ok (.int .i64 a.Call) w := part_one ty3 rfl
    have h : ∀ n, (Instr.checkKey e (n + 2) 62 (enc_event_Place a)).run Try.prog w = .ok () w := fun n => by
      unfold Instr.checkKey
      simp [enc_event_Place, run_underlying Try.underlying62, Result.andThen, p0, p1, hi n 3 _ _ Try.underlying3]
    exact h 9998) (fun a => by
    have h : ∀ n, Instr.sameBits (n + 2) (enc_event_Place a) (enc_event_Place a) = true := fun n => by simp [Instr.sameBits, enc_event_Place]
    exact h 9998)
/-! ### ferryman/event.nothing: function 33 -/
def event_nothing (k : Nat) (a0 : api_Answer) : Option (Bool) :=
  some ((((a0.Err == (0 : Int)) && (!a0.Found)) && (sbin .eql a0.Value ([] : Str))) && ((a0.Pairs.length : Int) == (0 : Int)))
set_option maxHeartbeats 2000000 in
theorem event_nothing.mono {k : Nat} {a0 : api_Answer} : OLe (event_nothing k a0) (event_nothing (k + 1) a0) := by
  unfold event_nothing
  repeat' (first | with_reducible exact OLe.none | with_reducible exact OLe.some | with_reducible refine OLe.ite ?_ ?_ | with_reducible refine OLe.bind ?_ (fun _ => ?_) | refine OLe.bind ?_ (fun _ => ?_) | refine OLe.ite ?_ ?_ | refine OLe.elim (fun _ => ?_) (fun _ => ?_) | split)
set_option maxHeartbeats 1000000 in
set_option maxRecDepth 100000 in
theorem event_nothing.con (k : Nat) (M : Hp) (A0_0 : Option Addr) (c0_0 : Nat) (a0 : api_Answer) (r : Bool) (hr0_0 : SlR r_api_Pair M (.slice A0_0 a0.Pairs.length c0_0) a0.Pairs) (h : event_nothing k a0 = some r) : Con Try.prog 33 #[.agg #[.int .i64 a0.Err, .bool a0.Found, .string (bs a0.Value), .slice A0_0 a0.Pairs.length c0_0]] M [] (fun v M' Γ' => v = .bool r ∧ Γ' = []) := by
  refine con_of_wp Try.func33 rfl Try.ntmps33 Try.results33 rfl ?_
  intro w F rn S hrn
  have E := Ext.refl w
  have HM := Hp.le_refl M
  have H := h
  unfold event_nothing at H
  refine Wp_seq ?_
  refine Wp_region_lit ?_
  refine W_box S #[.int .i64 a0.Err, .bool a0.Found, .string (bs a0.Value), .slice A0_0 a0.Pairs.length c0_0] rfl rfl rfl ?_
  intro b1 w2 E' S
  replace E := E.trans E'
  clear E'
  refine W_v (.bool false) (x_assign rfl) rfl ?_
  refine Wl_nil ?_
  refine tn ?_
  refine Wp_seq ?_
  refine Wp_region_lit ?_
  refine W_v (.pointer (some ⟨b1, 0, none⟩)) (x_fieldAddr (o := 0) (off := 0) Try.underlying30 rfl ty27 rfl rfl) rfl ?_
  refine W_v (.int .i64 a0.Err) (x_load (S.blk 0 rfl) ty27 rfl rfl) rfl ?_
  refine W_v (.bool (a0.Err == (0 : Int))) (x_ibin rfl rfl rfl rfl) rfl ?_
  refine W_v (.bool (a0.Err == (0 : Int))) (x_move rfl) rfl ?_
  refine Wl_cutN 4 (fun ρ w' => Agree ρ [(1, .pointer (some ⟨b1, 0, none⟩)), (10, .bool ((a0.Err == (0 : Int)) && (!a0.Found)))] ∧ w2 = w') ?_ ?_
  · rcases boolCases (a0.Err == (0 : Int)) with hb4 | hb4
    · skip
      refine W_no (skT hb4) rfl ?_
      refine W_no (skT hb4) rfl ?_
      refine W_no (skT hb4) rfl ?_
      refine W_v (.bool false) (x_pick (k := false) (congrArg Value.bool hb4) rfl) rfl ?_
      refine Wl_nil ?_
      exact ⟨⟨rfl, (by first | rfl | (rw [hb4]; rfl) | (simp only [hb4]; rfl)), trivial⟩, rfl⟩
    · skip
      refine W_yes (congrArg some hb4) ?_
      refine W_v (.pointer (some ⟨b1, 1, none⟩)) (x_fieldAddr (o := 0) (off := 1) Try.underlying30 rfl ty4 rfl rfl) rfl ?_
      refine W_yes (congrArg some hb4) ?_
      refine W_v (.bool a0.Found) (x_load (S.blk 0 rfl) ty4 rfl rfl) rfl ?_
      refine W_yes (congrArg some hb4) ?_
      refine W_v (.bool (!a0.Found)) (x_not rfl) rfl ?_
      refine W_v (.bool (!a0.Found)) (x_pick (k := true) (congrArg Value.bool hb4) rfl) rfl ?_
      refine Wl_nil ?_
      exact ⟨⟨rfl, (by first | rfl | (rw [hb4]; rfl) | (simp only [hb4]; rfl)), trivial⟩, rfl⟩
  rintro ρ _ ⟨hρ, rfl⟩
  rw [agree_eta hρ]
  clear hρ
  refine W_v (.bool ((a0.Err == (0 : Int)) && (!a0.Found))) (x_move rfl) rfl ?_
  refine Wl_cutN 4 (fun ρ w' => Agree ρ [(1, .pointer (some ⟨b1, 0, none⟩)), (15, .bool (((a0.Err == (0 : Int)) && (!a0.Found)) && (sbin .eql a0.Value ([] : Str))))] ∧ w2 = w') ?_ ?_
  · rcases boolCases ((a0.Err == (0 : Int)) && (!a0.Found)) with hb5 | hb5
    · skip
      refine W_no (skT hb5) rfl ?_
      refine W_no (skT hb5) rfl ?_
      refine W_no (skT hb5) rfl ?_
      refine W_v (.bool false) (x_pick (k := false) (congrArg Value.bool hb5) rfl) rfl ?_
      refine Wl_nil ?_
      exact ⟨⟨rfl, (by first | rfl | (rw [hb5]; rfl) | (simp only [hb5]; rfl)), trivial⟩, rfl⟩
    · skip
      refine W_yes (congrArg some hb5) ?_
      refine W_v (.pointer (some ⟨b1, 2, none⟩)) (x_fieldAddr (o := 0) (off := 2) Try.underlying30 rfl ty9 rfl rfl) rfl ?_
      refine W_yes (congrArg some hb5) ?_
      refine W_v (.string (bs a0.Value)) (x_load (S.blk 0 rfl) ty9 rfl rfl) rfl ?_
      refine W_yes (congrArg some hb5) ?_
      refine W_v (.bool (sbin .eql a0.Value ([] : Str))) (x_sbin rfl rfl rfl) rfl ?_
      refine W_v (.bool (sbin .eql a0.Value ([] : Str))) (x_pick (k := true) (congrArg Value.bool hb5) rfl) rfl ?_
      refine Wl_nil ?_
      exact ⟨⟨rfl, (by first | rfl | (rw [hb5]; rfl) | (simp only [hb5]; rfl)), trivial⟩, rfl⟩
  rintro ρ _ ⟨hρ, rfl⟩
  rw [agree_eta hρ]
  clear hρ
  refine W_v (.bool (((a0.Err == (0 : Int)) && (!a0.Found)) && (sbin .eql a0.Value ([] : Str)))) (x_move rfl) rfl ?_
  refine Wl_cutN 5 (fun ρ w' => Agree ρ [(21, .bool ((((a0.Err == (0 : Int)) && (!a0.Found)) && (sbin .eql a0.Value ([] : Str))) && ((a0.Pairs.length : Int) == (0 : Int))))] ∧ w2 = w') ?_ ?_
  · rcases boolCases (((a0.Err == (0 : Int)) && (!a0.Found)) && (sbin .eql a0.Value ([] : Str))) with hb6 | hb6
    · skip
      refine W_no (skT hb6) rfl ?_
      refine W_no (skT hb6) rfl ?_
      refine W_no (skT hb6) rfl ?_
      refine W_no (skT hb6) rfl ?_
      refine W_v (.bool false) (x_pick (k := false) (congrArg Value.bool hb6) rfl) rfl ?_
      refine Wl_nil ?_
      exact ⟨⟨(by first | rfl | (rw [hb6]; rfl) | (simp only [hb6]; rfl)), trivial⟩, rfl⟩
    · skip
      refine W_yes (congrArg some hb6) ?_
      refine W_v (.pointer (some ⟨b1, 3, none⟩)) (x_fieldAddr (o := 0) (off := 3) Try.underlying30 rfl ty28 rfl rfl) rfl ?_
      refine W_yes (congrArg some hb6) ?_
      refine W_v (.slice A0_0 a0.Pairs.length c0_0) (x_load (S.blk 0 rfl) ty28 rfl rfl) rfl ?_
      refine W_yes (congrArg some hb6) ?_
      refine W_v (.int .i64 (a0.Pairs.length : Int)) (x_len_slice (n := a0.Pairs.length) Try.underlying28 rfl) rfl ?_
      refine W_yes (congrArg some hb6) ?_
      refine W_v (.bool ((a0.Pairs.length : Int) == (0 : Int))) (x_ibin rfl rfl rfl rfl) rfl ?_
      refine W_v (.bool ((a0.Pairs.length : Int) == (0 : Int))) (x_pick (k := true) (congrArg Value.bool hb6) rfl) rfl ?_
      refine Wl_nil ?_
      exact ⟨⟨(by first | rfl | (rw [hb6]; rfl) | (simp only [hb6]; rfl)), trivial⟩, rfl⟩
  rintro ρ _ ⟨hρ, rfl⟩
  rw [agree_eta hρ]
  clear hρ
  refine W_v (.bool ((((a0.Err == (0 : Int)) && (!a0.Found)) && (sbin .eql a0.Value ([] : Str))) && ((a0.Pairs.length : Int) == (0 : Int)))) (x_assign rfl) rfl ?_
  refine Wl_nil ?_
  refine tn ?_
  refine Wp_ret ?_
  obtain rfl := Option.some.inj H
  exact ⟨_, _, _, fun w1 e1 => run_resR (vs := [.bool ((((a0.Err == (0 : Int)) && (!a0.Found)) && (sbin .eql a0.Value ([] : Str))) && ((a0.Pairs.length : Int) == (0 : Int)))]) (FA.cons (rfl) (FA.nil)), HM, E, S.pick [] (by decide), ⟨rfl, rfl⟩⟩
/-! ### slices.Clone[[]ferryman/api.Pair,ferryman/api.Pair]: function 49 -/
def slices_Clone_api_Pair_api_Pair (k : Nat) (a0 : List api_Pair) : Option (List api_Pair) :=
  if ([] : List api_Pair).length + a0.length ≤ 4398046511104 then some (([] : List api_Pair) ++ a0) else none
set_option maxHeartbeats 2000000 in
theorem slices_Clone_api_Pair_api_Pair.mono {k : Nat} {a0 : List api_Pair} : OLe (slices_Clone_api_Pair_api_Pair k a0) (slices_Clone_api_Pair_api_Pair (k + 1) a0) := by
  unfold slices_Clone_api_Pair_api_Pair
  repeat' (first | with_reducible exact OLe.none | with_reducible exact OLe.some | with_reducible refine OLe.ite ?_ ?_ | with_reducible refine OLe.bind ?_ (fun _ => ?_) | refine OLe.bind ?_ (fun _ => ?_) | refine OLe.ite ?_ ?_ | refine OLe.elim (fun _ => ?_) (fun _ => ?_) | split)
set_option maxHeartbeats 1000000 in
set_option maxRecDepth 100000 in
theorem slices_Clone_api_Pair_api_Pair.con (k : Nat) (M : Hp) (A0 : Option Addr) (c0 : Nat) (a0 : (List api_Pair)) (r : (List api_Pair)) (hr0 : SlR r_api_Pair M (.slice A0 a0.length c0) a0) (h : slices_Clone_api_Pair_api_Pair k a0 = some r) : Con Try.prog 49 #[.slice A0 a0.length c0] M [] (fun v M' Γ' => ∃ (A0 : Option Addr) (c0 : Nat), v = .slice A0 r.length c0 ∧ Γ' = [Row r_api_Pair 43 (.slice A0 r.length c0) r]) := by
  have H := h
  unfold slices_Clone_api_Pair_api_Pair at H
  cases A0 with
  | none =>
    obtain ⟨_, H⟩ := chkS H
    obtain rfl : a0 = [] := SlW.none_nil hr0
    refine con_of_wp Try.func49 rfl Try.ntmps49 Try.results49 rfl ?_
    intro w F rn S hrn
    have E := Ext.refl w
    have HM := Hp.le_refl M
    refine Wp_seq ?_
    refine Wp_region_lit ?_
    refine W_v (.slice none 0 0) (x_assign rfl) rfl ?_
    refine Wl_nil ?_
    refine tn ?_
    refine Wp_seq ?_
    refine Wp_seq ?_
    refine Wp_region_lit ?_
    refine W_v (.slice none ([] : List api_Pair).length c0) (x_move rfl) rfl ?_
    refine W_v (.bool true) (x_eq_of rfl rfl (run_equal_slice_nil _ _ _ _ _ _ Try.underlying28)) rfl ?_
    refine Wl_nil ?_
    refine tn ?_
    refine Wp_cond_true rfl ?_
    refine Wp_seq ?_
    refine Wp_region_lit ?_
    refine W_v (.slice none 0 0) (x_assign rfl) rfl ?_
    refine Wl_nil ?_
    refine tn ?_
    refine Wp_ret ?_
    refine tr (?_)
    obtain rfl := Option.some.inj H
    replace S := S.row_nil r_api_Pair 43
    exact ⟨_, _, _, fun w1 e1 => run_resR (vs := [.slice none 0 0]) (FA.cons (rfl) (FA.nil)), HM, E, S.pick [0] (by decide), ⟨none, 0, rfl, rfl⟩⟩
  | some ad =>
    refine con_of_wp Try.func49 rfl Try.ntmps49 Try.results49 rfl ?_
    intro w F rn S hrn
    have E := Ext.refl w
    have HM := Hp.le_refl M
    refine Wp_seq ?_
    refine Wp_region_lit ?_
    refine W_v (.slice none 0 0) (x_assign rfl) rfl ?_
    refine Wl_nil ?_
    refine tn ?_
    refine Wp_seq ?_
    refine Wp_seq ?_
    refine Wp_region_lit ?_
    refine W_v (.slice (some ad) a0.length c0) (x_move rfl) rfl ?_
    refine W_v (.bool false) (x_eq_of rfl rfl (run_equal_slice_nil _ _ _ _ _ _ Try.underlying28)) rfl ?_
    refine Wl_nil ?_
    refine tn ?_
    refine Wp_cond_false rfl ?_
    refine Wp_skip ?_
    refine tn ?_
    refine Wp_seq ?_
    refine Wp_region_lit ?_
    refine W_bslice S #[] Try.underlying28 ty43 rfl rfl #[] (by kernel_rfl) (by kernel_rfl) rfl ?_
    intro b2 w3 E' S
    replace E := E.trans E'
    clear E'
    replace S := S.blk_row (r := r_api_Pair) (l := ([] : List api_Pair)) 0 rfl 0 (Nat.le_refl 0) rfl Cells.nil
    refine W_v (.slice (some ad) a0.length c0) (x_move rfl) rfl ?_
    obtain ⟨p5, H⟩ := chkS H
    obtain ⟨src6, hs7, hC8⟩ := src_of_read (P := Try.prog) (ρ := r_api_Pair) (l := a0) (SlR.world hr0 S) (by decide)
    refine W_append S 0 rfl rfl rfl Try.underlying28 (.inl Try.underlying28) ty43 rfl (by decide) (by decide) hs7 hC8 rfl (by omega) rfl ?_
    intro v9 w10 E' S
    replace E := E.trans E'
    clear E'
    obtain ⟨A11, c12, rfl, _⟩ := (S.row_read 0 rfl).form
    refine W_v (.slice A11 (([] : List api_Pair) ++ a0).length c12) (x_assign rfl) rfl ?_
    refine Wl_nil ?_
    refine tn ?_
    refine Wp_ret ?_
    obtain rfl := Option.some.inj H
    exact ⟨_, _, _, fun w1 e1 => run_resR (vs := [.slice A11 (([] : List api_Pair) ++ a0).length c12]) (FA.cons (rfl) (FA.nil)), HM, E, S.pick [0] (by decide), ⟨A11, c12, rfl, rfl⟩⟩
/-! ### ferryman/event.own: function 47 -/
def event_own (k : Nat) (a0 : api_Event) : Option (api_Event) :=
  (Option.bind (slices_Clone_api_Pair_api_Pair k a0.Answer.Pairs) (fun t7 => some (⟨a0.What, a0.Task, a0.Call, ⟨a0.Answer.Err, a0.Answer.Found, a0.Answer.Value, t7⟩⟩ : api_Event)))
set_option maxHeartbeats 2000000 in
theorem event_own.mono {k : Nat} {a0 : api_Event} : OLe (event_own k a0) (event_own (k + 1) a0) := by
  unfold event_own
  repeat' (first | with_reducible exact OLe.none | with_reducible exact OLe.some | with_reducible refine OLe.ite ?_ ?_ | with_reducible refine OLe.bind ?_ (fun _ => ?_) | with_reducible exact slices_Clone_api_Pair_api_Pair.mono | refine OLe.bind ?_ (fun _ => ?_) | refine OLe.ite ?_ ?_ | refine OLe.elim (fun _ => ?_) (fun _ => ?_) | split)
set_option maxHeartbeats 1000000 in
set_option maxRecDepth 100000 in
theorem event_own.con (k : Nat) (M : Hp) (A0_0 : Option Addr) (c0_0 : Nat) (a0 : api_Event) (r : api_Event) (hr0_0 : SlR r_api_Pair M (.slice A0_0 a0.Answer.Pairs.length c0_0) a0.Answer.Pairs) (h : event_own k a0 = some r) : Con Try.prog 47 #[.agg #[.int .u8 a0.What, .int .i64 a0.Task, .int .i64 a0.Call, .int .i64 a0.Answer.Err, .bool a0.Answer.Found, .string (bs a0.Answer.Value), .slice A0_0 a0.Answer.Pairs.length c0_0]] M [] (fun v M' Γ' => ∃ (A0 : Option Addr) (c0 : Nat), v = .agg #[.int .u8 r.What, .int .i64 r.Task, .int .i64 r.Call, .int .i64 r.Answer.Err, .bool r.Answer.Found, .string (bs r.Answer.Value), .slice A0 r.Answer.Pairs.length c0] ∧ Γ' = [Row r_api_Pair 43 (.slice A0 r.Answer.Pairs.length c0) r.Answer.Pairs]) := by
  refine con_of_wp Try.func47 rfl Try.ntmps47 Try.results47 rfl ?_
  intro w F rn S hrn
  have E := Ext.refl w
  have HM := Hp.le_refl M
  have H := h
  unfold event_own at H
  refine Wp_seq ?_
  refine Wp_region_lit ?_
  refine W_box S #[.int .u8 a0.What, .int .i64 a0.Task, .int .i64 a0.Call, .int .i64 a0.Answer.Err, .bool a0.Answer.Found, .string (bs a0.Answer.Value), .slice A0_0 a0.Answer.Pairs.length c0_0] rfl rfl rfl ?_
  intro b1 w2 E' S
  replace E := E.trans E'
  clear E'
  refine W_alloc S #[.int .u8 0, .int .i64 0, .int .i64 0, .int .i64 0, .bool false, .string (bs ([] : Str)), .slice none 0 0] ty32 rfl rfl ?_
  intro b4 w5 E' S
  replace E := E.trans E'
  clear E'
  refine Wl_nil ?_
  refine tn ?_
  refine Wp_seq ?_
  refine Wp_region_lit ?_
  refine W_v (.pointer (some ⟨b1, 3, none⟩)) (x_fieldAddr (o := 0) (off := 3) Try.underlying32 rfl ty30 rfl rfl) rfl ?_
  refine W_v (.pointer (some ⟨b1, 6, none⟩)) (x_fieldAddr (o := 3) (off := 3) Try.underlying30 rfl ty28 rfl rfl) rfl ?_
  refine W_v (.slice A0_0 a0.Answer.Pairs.length c0_0) (x_load (S.blk 1 rfl) ty28 rfl rfl) rfl ?_
  obtain ⟨t7, ht8, H⟩ := bindS H
  refine W_callF fn49 (slices_Clone_api_Pair_api_Pair.con k M A0_0 c0_0 a0.Answer.Pairs t7 hr0_0 ht8) S rfl rfl (by rintro _ _ _ ⟨_, _, _, rfl⟩; exact (flat_cons (flat_row (fun _ _ _ _ h => h)) flat_nil)) ?_
  rintro _ w12 _ Γ' E' S ⟨A9, c10, rfl, rfl⟩
  replace E := E.trans E'
  clear E'
  refine W_v (.pointer (some ⟨b1, 3, none⟩)) (x_fieldAddr (o := 0) (off := 3) Try.underlying32 rfl ty30 rfl rfl) rfl ?_
  refine W_v (.pointer (some ⟨b1, 6, none⟩)) (x_fieldAddr (o := 3) (off := 3) Try.underlying30 rfl ty28 rfl rfl) rfl ?_
  refine W_store S 2 rfl ty28 rfl rfl [.slice A9 t7.length c10] rfl rfl rfl #[.int .u8 a0.What, .int .i64 a0.Task, .int .i64 a0.Call, .int .i64 a0.Answer.Err, .bool a0.Answer.Found, .string (bs a0.Answer.Value), .slice A9 t7.length c10] rfl rfl ?_
  intro w13 E' S
  replace E := E.trans E'
  clear E'
  refine Wl_nil ?_
  refine tn ?_
  refine Wp_seq ?_
  refine Wp_region_lit ?_
  refine W_v (.agg #[.int .u8 a0.What, .int .i64 a0.Task, .int .i64 a0.Call, .int .i64 a0.Answer.Err, .bool a0.Answer.Found, .string (bs a0.Answer.Value), .slice A9 t7.length c10]) (x_loadA (S.blk 2 rfl) ty32 rfl (sub_of_extract rfl) rfl rfl) rfl ?_
  refine W_store S 1 rfl ty32 rfl rfl [.int .u8 a0.What, .int .i64 a0.Task, .int .i64 a0.Call, .int .i64 a0.Answer.Err, .bool a0.Answer.Found, .string (bs a0.Answer.Value), .slice A9 t7.length c10] rfl rfl rfl #[.int .u8 a0.What, .int .i64 a0.Task, .int .i64 a0.Call, .int .i64 a0.Answer.Err, .bool a0.Answer.Found, .string (bs a0.Answer.Value), .slice A9 t7.length c10] rfl rfl ?_
  intro w14 E' S
  replace E := E.trans E'
  clear E'
  refine Wl_nil ?_
  refine tn ?_
  refine Wp_ret ?_
  obtain rfl := Option.some.inj H
  exact ⟨_, _, _, fun w1 e1 => run_resR (vs := [.agg #[.int .u8 a0.What, .int .i64 a0.Task, .int .i64 a0.Call, .int .i64 a0.Answer.Err, .bool a0.Answer.Found, .string (bs a0.Answer.Value), .slice A9 t7.length c10]]) (FA.cons (⟨_, rfl, run_loadVar_agg ty32 ((S.of_eq e1).blk 1 rfl) (sub_of_extract rfl) rfl (by decide)⟩) (FA.nil)), HM, E, S.pick [0] (by decide), ⟨A9, c10, rfl, rfl⟩⟩
/-! ### ferryman/event.New: function 14 -/
def event_New_v (k : Nat) (a0 : Int) : Option ((Unit) ⊕ (event_Recorder)) :=
  (if ((decide (a0 < (1 : Int))) || (decide (a0 > (6 : Int)))) = true then some (Sum.inl ()) else (if 0 ≤ a0 ∧ a0 ≤ a0 ∧ a0 * 16 ≤ 140737488355328 ∧ a0 ≤ 9223372036854775807 then some (Sum.inr (⟨(List.replicate a0.toNat (⟨0, 0⟩ : event_task)), ([] : List api_Event)⟩ : event_Recorder)) else none))
set_option maxHeartbeats 2000000 in
theorem event_New_v.mono {k : Nat} {a0 : Int} : OLe (event_New_v k a0) (event_New_v (k + 1) a0) := by
  unfold event_New_v
  repeat' (first | with_reducible exact OLe.none | with_reducible exact OLe.some | with_reducible refine OLe.ite ?_ ?_ | with_reducible refine OLe.bind ?_ (fun _ => ?_) | refine OLe.bind ?_ (fun _ => ?_) | refine OLe.ite ?_ ?_ | refine OLe.elim (fun _ => ?_) (fun _ => ?_) | split)
set_option maxHeartbeats 1000000 in
set_option maxRecDepth 100000 in
theorem event_New_v.con (k : Nat) (M : Hp) (a0 : Int) (r : (Unit) ⊕ (event_Recorder))  (h : event_New_v k a0 = some r) : Con Try.prog 14 #[.int .i64 a0] M [] (fun v M' Γ' => (Sum.elim (fun x => v = .tuple #[.pointer none, .int .i64 1] ∧ Γ' = []) (fun x => ∃ (bq1 : Nat) (Aq3 : Option Addr) (cq4 : Nat) (Aq6 : Option Addr) (cq7 : Nat), v = .tuple #[.pointer (some ⟨bq1, 0, none⟩), .int .i64 0] ∧ Γ' = [Blk bq1 (.cells #[.slice Aq3 x.tasks.length cq4, .slice Aq6 x.l.length cq7] 73 (0, 0)), Row r_event_task 70 (.slice Aq3 x.tasks.length cq4) x.tasks, Row r_api_Event 32 (.slice Aq6 x.l.length cq7) x.l])) r) := by
  refine con_of_wp Try.func14 rfl Try.ntmps14 Try.results14 rfl ?_
  intro w F rn S hrn
  have E := Ext.refl w
  have HM := Hp.le_refl M
  have H := h
  unfold event_New_v at H
  refine Wp_seq ?_
  refine Wp_region_lit ?_
  refine W_v (.pointer none) (x_assign rfl) rfl ?_
  refine W_v (.int .i64 0) (x_assign rfl) rfl ?_
  refine Wl_nil ?_
  refine tn ?_
  refine Wp_seq ?_
  refine Wp_seq ?_
  refine Wp_region_lit ?_
  refine W_v (.int .i64 a0) (x_move rfl) rfl ?_
  refine W_v (.bool (decide (a0 < (1 : Int)))) (x_ibin rfl rfl rfl rfl) rfl ?_
  refine W_v (.bool (decide (a0 < (1 : Int)))) (x_move rfl) rfl ?_
  refine Wl_cutN 3 (fun ρ w' => Agree ρ [(0, .int .i64 a0), (9, .bool ((decide (a0 < (1 : Int))) || (decide (a0 > (6 : Int)))))] ∧ w = w') ?_ ?_
  · rcases boolCases (decide (a0 < (1 : Int))) with hb1 | hb1
    · skip
      refine W_yes (congrArg some hb1) ?_
      refine W_v (.int .i64 a0) (x_move rfl) rfl ?_
      refine W_yes (congrArg some hb1) ?_
      refine W_v (.bool (decide (a0 > (6 : Int)))) (x_ibin rfl rfl rfl rfl) rfl ?_
      refine W_v (.bool (decide (a0 > (6 : Int)))) (x_pick (k := false) (congrArg Value.bool hb1) rfl) rfl ?_
      refine Wl_nil ?_
      exact ⟨⟨rfl, (by first | rfl | (rw [hb1]; rfl) | (simp only [hb1]; rfl)), trivial⟩, rfl⟩
    · skip
      refine W_no (skF hb1) rfl ?_
      refine W_no (skF hb1) rfl ?_
      refine W_v (.bool true) (x_pick (k := true) (congrArg Value.bool hb1) rfl) rfl ?_
      refine Wl_nil ?_
      exact ⟨⟨rfl, (by first | rfl | (rw [hb1]; rfl) | (simp only [hb1]; rfl)), trivial⟩, rfl⟩
  rintro ρ _ ⟨hρ, rfl⟩
  rw [agree_eta hρ]
  clear hρ
  refine Wl_nil ?_
  refine tn ?_
  rcases iteS H with ⟨hb2, H⟩ | ⟨hb2, H⟩
  · refine Wp_cond_true (congrArg Value.bool hb2) ?_
    refine Wp_seq ?_
    refine Wp_region_lit ?_
    refine W_v (.pointer none) (x_assign rfl) rfl ?_
    refine W_v (.int .i64 1) (x_assign rfl) rfl ?_
    refine Wl_nil ?_
    refine tn ?_
    refine Wp_ret ?_
    refine tr (?_)
    obtain rfl := Option.some.inj H
    exact ⟨_, _, _, fun w1 e1 => run_resR (vs := [.pointer none, .int .i64 1]) (FA.cons (rfl) (FA.cons (rfl) (FA.nil))), HM, E, S.pick [] (by decide), ⟨rfl, rfl⟩⟩
  refine Wp_cond_false (congrArg Value.bool hb2) ?_
  refine Wp_skip ?_
  refine tn ?_
  refine Wp_seq ?_
  refine Wp_region_lit ?_
  refine W_v (.int .i64 a0) (x_move rfl) rfl ?_
  obtain ⟨⟨p3, p4, p5, p6⟩, H⟩ := chkS H
  refine W_make (r := r_event_task) S (⟨0, 0⟩ : event_task) Try.underlying71 ty70 rfl (by decide) (fun _ => rfl) rfl rfl p3 p4 p5 p6 rfl ?_
  intro b7 w8 E' S
  replace E := E.trans E'
  clear E'
  refine W_v (.agg #[.slice (some ⟨b7, 0, none⟩) (List.replicate a0.toNat (⟨0, 0⟩ : event_task)).length a0.toNat, .slice none 0 0]) (x_build2 (pl := [(0, 1), (1, 1)]) #[.slice (some ⟨b7, 0, none⟩) (List.replicate a0.toNat (⟨0, 0⟩ : event_task)).length a0.toNat, .slice none 0 0] Try.underlying73 ty73 (by kernel_rfl) rfl (by kernel_rfl)) rfl ?_
  refine W_box S #[.slice (some ⟨b7, 0, none⟩) (List.replicate a0.toNat (⟨0, 0⟩ : event_task)).length a0.toNat, .slice none 0 0] rfl rfl rfl ?_
  intro b10 w11 E' S
  replace E := E.trans E'
  clear E'
  refine W_v (.pointer (some ⟨b10, 0, none⟩)) (x_assign rfl) rfl ?_
  refine W_v (.int .i64 0) (x_assign rfl) rfl ?_
  refine Wl_nil ?_
  refine tn ?_
  refine Wp_ret ?_
  obtain rfl := Option.some.inj H
  replace S := S.row_nil r_api_Event 32
  exact ⟨_, _, _, fun w1 e1 => run_resR (vs := [.pointer (some ⟨b10, 0, none⟩), .int .i64 0]) (FA.cons (rfl) (FA.cons (rfl) (FA.nil))), HM, E, S.pick [1, 2, 0] (by decide), ⟨b10, (some ⟨b7, 0, none⟩), a0.toNat, none, 0, rfl, rfl⟩⟩
/-! ### (*ferryman/event.Recorder).put: function 34 -/
def event_Recorder_put_POO (k : Nat) (a0 : event_Recorder) (a1 : Int) (a2 : Int) (a3 : api_Event) : Option (Int × event_Recorder) :=
  (if ((decide (a1 < (0 : Int))) || (decide (a1 ≥ (a0.tasks.length : Int)))) = true then some ((1 : Int), a0) else (if 0 ≤ a1 ∧ a1 < (a0.tasks.length : Int) then (if ((rd a0.tasks a1).at_ != a2) = true then some ((7 : Int), a0) else (if 0 ≤ a1 ∧ a1 < (a0.tasks.length : Int) then (Option.bind (event_own k (⟨a3.What, a1, (rd a0.tasks a1).calls, ⟨a3.Answer.Err, a3.Answer.Found, a3.Answer.Value, a3.Answer.Pairs⟩⟩ : api_Event)) (fun t57 => (if a0.l.length + ([t57] : List api_Event).length ≤ 1759218604441 then (Option.bind (α := List event_task) (some (List.set a0.tasks a1.toNat (⟨(IntKind.i64.wrap ((rd a0.tasks a1).at_ + (1 : Int))), (rd a0.tasks a1).calls⟩ : event_task))) (fun x79 => (Option.bind (α := List event_task) (if (decide ((rd x79 a1).at_ > (2 : Int))) = true then (Option.bind (α := List event_task) (some (List.set x79 a1.toNat (⟨(0 : Int), (rd x79 a1).calls⟩ : event_task))) (fun x117 => (Option.bind (α := List event_task) (some (List.set x117 a1.toNat (⟨(rd x117 a1).at_, (IntKind.i64.wrap ((rd x117 a1).calls + (1 : Int)))⟩ : event_task))) (fun x123 => some (x123))))) else some (x79)) (fun x110 => some ((0 : Int), (⟨x110, (a0.l ++ ([t57] : List api_Event))⟩ : event_Recorder)))))) else none))) else none)) else none))
set_option maxHeartbeats 2000000 in
theorem event_Recorder_put_POO.mono {k : Nat} {a0 : event_Recorder} {a1 : Int} {a2 : Int} {a3 : api_Event} : OLe (event_Recorder_put_POO k a0 a1 a2 a3) (event_Recorder_put_POO (k + 1) a0 a1 a2 a3) := by
  unfold event_Recorder_put_POO
  repeat' (first | with_reducible exact OLe.none | with_reducible exact OLe.some | with_reducible refine OLe.ite ?_ ?_ | with_reducible refine OLe.bind ?_ (fun _ => ?_) | with_reducible exact event_own.mono | refine OLe.bind ?_ (fun _ => ?_) | refine OLe.ite ?_ ?_ | refine OLe.elim (fun _ => ?_) (fun _ => ?_) | split)
set_option maxHeartbeats 1000000 in
set_option maxRecDepth 100000 in
theorem event_Recorder_put_POO.con (k : Nat) (M : Hp) (A0_0 : Option Addr) (c0_0 : Nat) (A0_1 : Option Addr) (c0_1 : Nat) (a0 : event_Recorder) (a1 : Int) (a2 : Int) (A3_0 : Option Addr) (c3_0 : Nat) (a3 : api_Event) (bo0 : Nat) (r : Int × event_Recorder) (hr3_0 : SlR r_api_Pair M (.slice A3_0 a3.Answer.Pairs.length c3_0) a3.Answer.Pairs) (h : event_Recorder_put_POO k a0 a1 a2 a3 = some r) : Con Try.prog 34 #[.pointer (some ⟨bo0, 0, none⟩), .int .i64 a1, .int .i64 a2, .agg #[.int .u8 a3.What, .int .i64 a3.Task, .int .i64 a3.Call, .int .i64 a3.Answer.Err, .bool a3.Answer.Found, .string (bs a3.Answer.Value), .slice A3_0 a3.Answer.Pairs.length c3_0]] M [Blk bo0 (.cells #[.slice A0_0 a0.tasks.length c0_0, .slice A0_1 a0.l.length c0_1] 73 (0, 0)), Row r_event_task 70 (.slice A0_0 a0.tasks.length c0_0) a0.tasks, Row r_api_Event 32 (.slice A0_1 a0.l.length c0_1) a0.l] (fun v M' Γ' => ∃ (Aq1 : Option Addr) (cq2 : Nat) (Aq4 : Option Addr) (cq5 : Nat), v = .int .i64 r.1 ∧ Γ' = [Blk bo0 (.cells #[.slice Aq1 r.2.tasks.length cq2, .slice Aq4 r.2.l.length cq5] 73 (0, 0)), Row r_event_task 70 (.slice Aq1 r.2.tasks.length cq2) r.2.tasks, Row r_api_Event 32 (.slice Aq4 r.2.l.length cq5) r.2.l]) := by
  refine con_of_wp Try.func34 rfl Try.ntmps34 Try.results34 rfl ?_
  intro w F rn S hrn
  have E := Ext.refl w
  have HM := Hp.le_refl M
  have H := h
  unfold event_Recorder_put_POO at H
  refine Wp_seq ?_
  refine Wp_region_lit ?_
  refine W_box S #[.int .u8 a3.What, .int .i64 a3.Task, .int .i64 a3.Call, .int .i64 a3.Answer.Err, .bool a3.Answer.Found, .string (bs a3.Answer.Value), .slice A3_0 a3.Answer.Pairs.length c3_0] rfl rfl rfl ?_
  intro b1 w2 E' S
  replace E := E.trans E'
  clear E'
  refine W_v (.int .i64 0) (x_assign rfl) rfl ?_
  refine Wl_nil ?_
  refine tn ?_
  refine Wp_seq ?_
  refine Wp_block ?_
  refine Wp_seq ?_
  refine Wp_region_lit ?_
  refine W_v (.pointer (some ⟨bo0, 0, none⟩)) (x_move rfl) rfl ?_
  refine W_v (.bool false) (x_eq_of (r := false) rfl rfl (run_eq_ptrsn Try.underlying36)) rfl ?_
  refine W_v (.bool false) (x_assign rfl) rfl ?_
  refine Wl_nil ?_
  refine tn ?_
  refine Wp_cond_false rfl ?_
  refine Wp_seq ?_
  refine Wp_region_lit ?_
  refine W_v (.int .i64 a1) (x_move rfl) rfl ?_
  refine W_v (.bool (decide (a1 < (0 : Int)))) (x_ibin rfl rfl rfl rfl) rfl ?_
  refine W_v (.bool (decide (a1 < (0 : Int)))) (x_move rfl) rfl ?_
  refine Wl_cutN 8 (fun ρ w' => Agree ρ [(0, .pointer (some ⟨bo0, 0, none⟩)), (1, .int .i64 a1), (2, .int .i64 a2), (7, .pointer (some ⟨b1, 0, none⟩)), (24, .bool ((decide (a1 < (0 : Int))) || (decide (a1 ≥ (a0.tasks.length : Int)))))] ∧ w2 = w') ?_ ?_
  · rcases boolCases (decide (a1 < (0 : Int))) with hb4 | hb4
    · skip
      refine W_yes (congrArg some hb4) ?_
      refine W_v (.int .i64 a1) (x_move rfl) rfl ?_
      refine W_yes (congrArg some hb4) ?_
      refine W_v (.pointer (some ⟨bo0, 0, none⟩)) (x_move rfl) rfl ?_
      refine W_yes (congrArg some hb4) ?_
      refine W_v (.pointer (some ⟨bo0, 0, none⟩)) (x_nilptr rfl) rfl ?_
      refine W_yes (congrArg some hb4) ?_
      refine W_v (.pointer (some ⟨bo0, 0, none⟩)) (x_fieldAddr (o := 0) (off := 0) Try.underlying73 rfl ty71 rfl rfl) rfl ?_
      refine W_yes (congrArg some hb4) ?_
      refine W_v (.slice A0_0 a0.tasks.length c0_0) (x_load (S.blk 1 rfl) ty71 rfl rfl) rfl ?_
      refine W_yes (congrArg some hb4) ?_
      refine W_v (.int .i64 (a0.tasks.length : Int)) (x_len_slice (n := a0.tasks.length) Try.underlying71 rfl) rfl ?_
      refine W_yes (congrArg some hb4) ?_
      refine W_v (.bool (decide (a1 ≥ (a0.tasks.length : Int)))) (x_ibin rfl rfl rfl rfl) rfl ?_
      refine W_v (.bool (decide (a1 ≥ (a0.tasks.length : Int)))) (x_pick (k := false) (congrArg Value.bool hb4) rfl) rfl ?_
      refine Wl_nil ?_
      exact ⟨⟨rfl, rfl, rfl, rfl, (by first | rfl | (rw [hb4]; rfl) | (simp only [hb4]; rfl)), trivial⟩, rfl⟩
    · skip
      refine W_no (skF hb4) rfl ?_
      refine W_no (skF hb4) rfl ?_
      refine W_no (skF hb4) rfl ?_
      refine W_no (skF hb4) rfl ?_
      refine W_no (skF hb4) rfl ?_
      refine W_no (skF hb4) rfl ?_
      refine W_no (skF hb4) rfl ?_
      refine W_v (.bool true) (x_pick (k := true) (congrArg Value.bool hb4) rfl) rfl ?_
      refine Wl_nil ?_
      exact ⟨⟨rfl, rfl, rfl, rfl, (by first | rfl | (rw [hb4]; rfl) | (simp only [hb4]; rfl)), trivial⟩, rfl⟩
  rintro ρ _ ⟨hρ, rfl⟩
  rw [agree_eta hρ]
  clear hρ
  refine W_v (.bool ((decide (a1 < (0 : Int))) || (decide (a1 ≥ (a0.tasks.length : Int))))) (x_assign rfl) rfl ?_
  refine Wl_nil ?_
  refine tn ?_
  rcases iteS H with ⟨hb5, H⟩ | ⟨hb5, H⟩
  · refine Wp_cond_true (congrArg Value.bool hb5) ?_
    refine Wp_seq ?_
    refine Wp_region_lit ?_
    refine W_v (.int .i64 1) (x_assign rfl) rfl ?_
    refine Wl_nil ?_
    refine tn ?_
    refine Wp_ret ?_
    refine br (tr (?_))
    obtain rfl := Option.some.inj H
    exact ⟨_, _, _, fun w1 e1 => run_resR (vs := [.int .i64 1]) (FA.cons (rfl) (FA.nil)), HM, E, S.pick [1, 2, 3] (by decide), ⟨A0_0, c0_0, A0_1, c0_1, rfl, rfl⟩⟩
  refine Wp_cond_false (congrArg Value.bool hb5) ?_
  refine Wp_seq ?_
  refine Wp_region_lit ?_
  refine W_v (.pointer (some ⟨bo0, 0, none⟩)) (x_move rfl) rfl ?_
  refine W_v (.pointer (some ⟨bo0, 0, none⟩)) (x_nilptr rfl) rfl ?_
  refine W_v (.pointer (some ⟨bo0, 0, none⟩)) (x_fieldAddr (o := 0) (off := 0) Try.underlying73 rfl ty71 rfl rfl) rfl ?_
  refine W_v (.slice A0_0 a0.tasks.length c0_0) (x_load (S.blk 1 rfl) ty71 rfl rfl) rfl ?_
  refine W_v (.int .i64 a1) (x_move rfl) rfl ?_
  obtain ⟨⟨p6, p7⟩, H⟩ := chkS H
  obtain ⟨b8, o9, cs10, _, _, ee15, hb11, vs12, hR13, hc14⟩ := SlW.at' (S.row_read 2 rfl) p6 p7
  obtain rfl : vs12 = _ := hR13
  refine W_v (.pointer (some ⟨b8, o9 + a1.toNat * 2, none⟩)) (x_indexAddr Try.underlying71 ty70 (slA ee15) rfl p6 p7) rfl ?_
  refine W_v (.pointer (some ⟨b8, o9 + a1.toNat * 2, none⟩)) (x_fieldAddr (o := o9 + a1.toNat * 2) (off := 0) Try.underlying70 rfl ty3 rfl rfl) rfl ?_
  refine W_v (.int .i64 ((rd a0.tasks a1).at_)) (x_load (Hp.of_get hb11) ty3 rfl (hc14 0 _ rfl)) rfl ?_
  refine W_v (.int .i64 a2) (x_move rfl) rfl ?_
  refine W_v (.bool ((rd a0.tasks a1).at_ != a2)) (x_ibin rfl rfl rfl rfl) rfl ?_
  refine W_v (.bool ((rd a0.tasks a1).at_ != a2)) (x_assign rfl) rfl ?_
  refine Wl_nil ?_
  refine tn ?_
  rcases iteS H with ⟨hb16, H⟩ | ⟨hb16, H⟩
  · refine Wp_cond_true (congrArg Value.bool hb16) ?_
    refine Wp_seq ?_
    refine Wp_region_lit ?_
    refine W_v (.int .i64 7) (x_assign rfl) rfl ?_
    refine Wl_nil ?_
    refine tn ?_
    refine Wp_ret ?_
    refine br (tr (?_))
    obtain rfl := Option.some.inj H
    exact ⟨_, _, _, fun w1 e1 => run_resR (vs := [.int .i64 7]) (FA.cons (rfl) (FA.nil)), HM, E, S.pick [1, 2, 3] (by decide), ⟨A0_0, c0_0, A0_1, c0_1, rfl, rfl⟩⟩
  refine Wp_cond_false (congrArg Value.bool hb16) ?_
  refine Wp_skip ?_
  refine bn ?_
  refine tn ?_
  refine Wp_seq ?_
  refine Wp_region_lit ?_
  refine W_v (.pointer (some ⟨bo0, 0, none⟩)) (x_move rfl) rfl ?_
  refine W_v (.pointer (some ⟨bo0, 0, none⟩)) (x_nilptr rfl) rfl ?_
  refine W_v (.pointer (some ⟨bo0, 0, none⟩)) (x_fieldAddr (o := 0) (off := 0) Try.underlying73 rfl ty71 rfl rfl) rfl ?_
  refine W_v (.slice A0_0 a0.tasks.length c0_0) (x_load (S.blk 1 rfl) ty71 rfl rfl) rfl ?_
  refine W_v (.int .i64 a1) (x_move rfl) rfl ?_
  obtain ⟨⟨p17, p18⟩, H⟩ := chkS H
  obtain ⟨b19, o20, cs21, _, _, ee26, hb22, vs23, hR24, hc25⟩ := SlW.at' (S.row_read 2 rfl) p17 p18
  obtain rfl : vs23 = _ := hR24
  refine W_v (.pointer (some ⟨b19, o20 + a1.toNat * 2, none⟩)) (x_indexAddr Try.underlying71 ty70 (slA ee26) rfl p17 p18) rfl ?_
  refine W_v (.pointer (some ⟨b19, o20 + a1.toNat * 2, none⟩)) (x_assign rfl) rfl ?_
  refine Wl_nil ?_
  refine tn ?_
  refine Wp_seq ?_
  refine Wp_region_any (S := fun w' => ∃ Mx, M.le Mx ∧ St w' Mx F [Blk bo0 (.cells #[.slice A0_0 a0.tasks.length c0_0, .slice A0_1 a0.l.length c0_1] 73 (0, 0)), Row r_event_task 70 (.slice A0_0 a0.tasks.length c0_0) a0.tasks, Row r_api_Event 32 (.slice A0_1 a0.l.length c0_1) a0.l]) (L := 8) mixed ?_
  intro w29 hw30 E'
  replace S := S.heap hw30
  replace E := E.trans E'
  clear E'
  refine Wa_take (i := 0) rfl (by kernel_rfl) rfl rfl (.int .i64 a1) rfl (fun w' h' => x_move rfl) (⟨M, Hp.le_refl M, (S.pick [1, 2, 3] (by decide))⟩) ?_
  refine Wa_take (i := 1) rfl (by kernel_rfl) rfl rfl (.pointer (some ⟨b19, o20 + a1.toNat * 2, none⟩)) rfl (fun w' h' => x_move rfl) (⟨M, Hp.le_refl M, (S.pick [1, 2, 3] (by decide))⟩) ?_
  refine Wa_take (i := 2) rfl (by kernel_rfl) rfl rfl (.pointer (some ⟨b19, o20 + a1.toNat * 2, none⟩)) rfl (fun w' h' => x_nilptr rfl) (⟨M, Hp.le_refl M, (S.pick [1, 2, 3] (by decide))⟩) ?_
  refine Wa_take (i := 3) rfl (by kernel_rfl) rfl rfl (.pointer (some ⟨b19, o20 + a1.toNat * 2 + 1, none⟩)) rfl (fun w' h' => x_fieldAddr (o := o20 + a1.toNat * 2) (off := 1) Try.underlying70 rfl ty3 rfl rfl) (⟨M, Hp.le_refl M, (S.pick [1, 2, 3] (by decide))⟩) ?_
  refine Wa_take (i := 4) rfl (by kernel_rfl) rfl rfl (.int .i64 ((rd a0.tasks a1).calls)) rfl (fun w' h' => x_load_cls h' 1 rfl ee26 p17 p18 1 (by rintro _ _ rfl; rfl) ty3 rfl) (⟨M, Hp.le_refl M, (S.pick [1, 2, 3] (by decide))⟩) ?_
  refine Wa_take (i := 5) rfl (by kernel_rfl) rfl rfl (.pointer (some ⟨b1, 1, none⟩)) rfl (fun w' h' => x_fieldAddr (o := 0) (off := 1) Try.underlying32 rfl ty3 rfl rfl) (⟨M, Hp.le_refl M, (S.pick [1, 2, 3] (by decide))⟩) ?_
  refine Wa_solo (i := 6) rfl (by kernel_rfl) ?_
  refine W_store S 0 rfl ty3 rfl rfl [.int .i64 a1] rfl rfl rfl #[.int .u8 a3.What, .int .i64 a1, .int .i64 a3.Call, .int .i64 a3.Answer.Err, .bool a3.Answer.Found, .string (bs a3.Answer.Value), .slice A3_0 a3.Answer.Pairs.length c3_0] rfl rfl ?_
  intro w31 E' S
  replace E := E.trans E'
  clear E'
  refine Wl_nil (on_n ⟨.inr ⟨M, Hp.le_refl M, (S.pick [1, 2, 3] (by decide))⟩, ?_⟩)
  refine Wa_take (i := 7) rfl (by kernel_rfl) rfl rfl (.pointer (some ⟨b1, 2, none⟩)) rfl (fun w' h' => x_fieldAddr (o := 0) (off := 2) Try.underlying32 rfl ty3 rfl rfl) (⟨M, Hp.le_refl M, (S.pick [1, 2, 3] (by decide))⟩) ?_
  refine Wa_solo (i := 8) rfl (by kernel_rfl) ?_
  refine W_store S 0 rfl ty3 rfl rfl [.int .i64 ((rd a0.tasks a1).calls)] rfl rfl rfl #[.int .u8 a3.What, .int .i64 a1, .int .i64 ((rd a0.tasks a1).calls), .int .i64 a3.Answer.Err, .bool a3.Answer.Found, .string (bs a3.Answer.Value), .slice A3_0 a3.Answer.Pairs.length c3_0] rfl rfl ?_
  intro w32 E' S
  replace E := E.trans E'
  clear E'
  refine Wl_nil (on_n ⟨.inl (by decide), ?_⟩)
  refine Wa_done (by kernel_rfl) ?_
  refine tn ?_
  refine Wp_seq ?_
  have LE54 := Hp.le_refl M
  refine Wp_region_any (S := fun w' => ∃ Mx, M.le Mx ∧ St w' Mx F [Blk b1 (.cells #[.int .u8 a3.What, .int .i64 a1, .int .i64 ((rd a0.tasks a1).calls), .int .i64 a3.Answer.Err, .bool a3.Answer.Found, .string (bs a3.Answer.Value), .slice A3_0 a3.Answer.Pairs.length c3_0] 32 (0, 0)), Blk bo0 (.cells #[.slice A0_0 a0.tasks.length c0_0, .slice A0_1 a0.l.length c0_1] 73 (0, 0)), Row r_event_task 70 (.slice A0_0 a0.tasks.length c0_0) a0.tasks]) (L := 11) mixed ?_
  intro w55 hw56 E'
  replace S := S.heap hw56
  replace E := E.trans E'
  clear E'
  have hr3_0z := hr3_0
  refine Wa_take (i := 0) rfl (by kernel_rfl) rfl rfl (.pointer (some ⟨bo0, 0, none⟩)) rfl (fun w' h' => x_move rfl) (⟨M, Hp.le_refl M, (S.pick [0, 1, 2] (by decide))⟩) ?_
  refine Wa_take (i := 1) rfl (by kernel_rfl) rfl rfl (.pointer (some ⟨bo0, 0, none⟩)) rfl (fun w' h' => x_move rfl) (⟨M, Hp.le_refl M, (S.pick [0, 1, 2] (by decide))⟩) ?_
  refine Wa_take (i := 2) rfl (by kernel_rfl) rfl rfl (.pointer (some ⟨bo0, 0, none⟩)) rfl (fun w' h' => x_nilptr rfl) (⟨M, Hp.le_refl M, (S.pick [0, 1, 2] (by decide))⟩) ?_
  refine Wa_take (i := 3) rfl (by kernel_rfl) rfl rfl (.pointer (some ⟨bo0, 1, none⟩)) rfl (fun w' h' => x_fieldAddr (o := 0) (off := 1) Try.underlying73 rfl ty22 rfl rfl) (⟨M, Hp.le_refl M, (S.pick [0, 1, 2] (by decide))⟩) ?_
  refine Wa_take (i := 4) rfl (by kernel_rfl) rfl rfl (.slice A0_1 a0.l.length c0_1) rfl (fun w' h' => x_load (cls_blk h' 1 rfl) ty22 rfl rfl) (⟨M, Hp.le_refl M, (S.pick [0, 1, 2] (by decide))⟩) ?_
  refine Wa_take (i := 5) rfl (by kernel_rfl) rfl rfl (.agg #[.int .u8 a3.What, .int .i64 a1, .int .i64 ((rd a0.tasks a1).calls), .int .i64 a3.Answer.Err, .bool a3.Answer.Found, .string (bs a3.Answer.Value), .slice A3_0 a3.Answer.Pairs.length c3_0]) rfl (fun w' h' => x_loadA (cls_blk h' 0 rfl) ty32 rfl (sub_of_extract rfl) rfl rfl) (⟨M, Hp.le_refl M, (S.pick [0, 1, 2] (by decide))⟩) ?_
  refine Wa_solo (i := 6) rfl (by kernel_rfl) ?_
  obtain ⟨t57, ht58, H⟩ := bindS H
  refine W_callF fn47 (event_own.con k M A3_0 c3_0 (⟨a3.What, a1, (rd a0.tasks a1).calls, ⟨a3.Answer.Err, a3.Answer.Found, a3.Answer.Value, a3.Answer.Pairs⟩⟩ : api_Event) t57 hr3_0 ht58) S rfl rfl (by rintro _ _ _ ⟨_, _, _, rfl⟩; exact (flat_cons (flat_row (fun _ _ _ _ h => h)) flat_nil)) ?_
  rintro _ w62 _ Γ' E' S ⟨A59, c60, rfl, rfl⟩
  replace E := E.trans E'
  clear E'
  refine Wl_nil (on_n ⟨.inr ⟨M, Hp.le_refl M, (S.pick [1, 2, 3] (by decide))⟩, ?_⟩)
  refine Wa_solo (i := 7) rfl (by kernel_rfl) ?_
  obtain ⟨M63, hM64, hf65, S⟩ := S.row_freeze 0 rfl
  replace HM := Hp.le_trans HM hM64
  replace LE54 := Hp.le_trans LE54 hM64
  replace hr3_0 := SlR.mono hr3_0 hM64
  refine W_bslice S #[.int .u8 t57.What, .int .i64 t57.Task, .int .i64 t57.Call, .int .i64 t57.Answer.Err, .bool t57.Answer.Found, .string (bs t57.Answer.Value), .slice A59 t57.Answer.Pairs.length c60] Try.underlying22 ty32 rfl rfl #[.int .u8 0, .int .i64 0, .int .i64 0, .int .i64 0, .bool false, .string (bs ([] : Str)), .slice none 0 0] (by kernel_rfl) (by kernel_rfl) rfl ?_
  intro b66 w67 E' S
  replace E := E.trans E'
  clear E'
  replace S := S.blk_row (r := r_api_Event) (l := ([t57] : List api_Event)) 0 rfl 1 (Nat.le_refl 1) rfl (Cells.cons (vs := [.int .u8 t57.What, .int .i64 t57.Task, .int .i64 t57.Call, .int .i64 t57.Answer.Err, .bool t57.Answer.Found, .string (bs t57.Answer.Value), .slice A59 t57.Answer.Pairs.length c60]) (⟨_, hf65, rfl⟩) Cells.nil)
  refine Wl_nil (on_n ⟨.inr ⟨M63, LE54, (S.pick [1, 2, 3] (by decide))⟩, ?_⟩)
  refine Wa_solo (i := 8) rfl (by kernel_rfl) ?_
  obtain ⟨p69, H⟩ := chkS H
  obtain ⟨src70, hs71, hC72⟩ := src_of_read (P := Try.prog) (ρ := r_api_Event) (l := ([t57] : List api_Event)) (S.row_read 0 rfl) (by decide)
  refine W_append S 4 rfl rfl rfl Try.underlying22 (.inl Try.underlying22) ty32 rfl (by decide) (by decide) hs71 hC72 rfl (by omega) rfl ?_
  intro v73 w74 E' S
  replace E := E.trans E'
  clear E'
  obtain ⟨A75, c76, rfl, _⟩ := (S.row_read 4 rfl).form
  refine Wl_nil (on_n ⟨.inr ⟨M63, LE54, (S.pick [1, 2, 3] (by decide))⟩, ?_⟩)
  refine Wa_take (i := 9) rfl (by kernel_rfl) rfl rfl (.pointer (some ⟨bo0, 0, none⟩)) rfl (fun w' h' => x_nilptr rfl) (⟨M63, LE54, (S.pick [1, 2, 3] (by decide))⟩) ?_
  refine Wa_take (i := 10) rfl (by kernel_rfl) rfl rfl (.pointer (some ⟨bo0, 1, none⟩)) rfl (fun w' h' => x_fieldAddr (o := 0) (off := 1) Try.underlying73 rfl ty22 rfl rfl) (⟨M63, LE54, (S.pick [1, 2, 3] (by decide))⟩) ?_
  refine Wa_solo (i := 11) rfl (by kernel_rfl) ?_
  refine W_store S 2 rfl ty22 rfl rfl [.slice A75 (a0.l ++ ([t57] : List api_Event)).length c76] rfl rfl rfl #[.slice A0_0 a0.tasks.length c0_0, .slice A75 (a0.l ++ ([t57] : List api_Event)).length c76] rfl rfl ?_
  intro w77 E' S
  replace E := E.trans E'
  clear E'
  refine Wl_nil (on_n ⟨.inl (by decide), ?_⟩)
  refine Wa_done (by kernel_rfl) ?_
  refine tn ?_
  refine Wp_seq ?_
  refine Wp_seq ?_
  refine Wp_region_lit ?_
  refine W_v (.pointer (some ⟨b19, o20 + a1.toNat * 2, none⟩)) (x_move rfl) rfl ?_
  refine W_v (.pointer (some ⟨b19, o20 + a1.toNat * 2, none⟩)) (x_nilptr rfl) rfl ?_
  refine W_v (.pointer (some ⟨b19, o20 + a1.toNat * 2, none⟩)) (x_fieldAddr (o := o20 + a1.toNat * 2) (off := 0) Try.underlying70 rfl ty3 rfl rfl) rfl ?_
  refine W_v (.int .i64 ((rd a0.tasks a1).at_)) (x_load_cls ⟨M63, Hp.le_refl _, S⟩ 3 rfl ee26 p17 p18 0 (by rintro _ _ rfl; rfl) ty3 rfl) rfl ?_
  refine W_v (.int .i64 (IntKind.i64.wrap ((rd a0.tasks a1).at_ + (1 : Int)))) (x_ibin rfl rfl rfl rfl) rfl ?_
  refine W_v (.pointer (some ⟨b19, o20 + a1.toNat * 2, none⟩)) (x_nilptr rfl) rfl ?_
  refine W_v (.pointer (some ⟨b19, o20 + a1.toNat * 2, none⟩)) (x_fieldAddr (o := o20 + a1.toNat * 2) (off := 0) Try.underlying70 rfl ty3 rfl rfl) rfl ?_
  obtain ⟨x79, he80, H⟩ := bindS H
  replace he80 := Option.some.inj he80
  refine W_rowstore S 3 rfl rfl ee26 (by first | exact p17 | simpa using p17) (by first | exact p18 | simpa using p18) 0 ty3 rfl rfl [.int .i64 (IntKind.i64.wrap ((rd a0.tasks a1).at_ + (1 : Int)))] rfl rfl rfl rfl (⟨(IntKind.i64.wrap ((rd a0.tasks a1).at_ + (1 : Int))), (rd a0.tasks a1).calls⟩ : event_task) (by rintro _ rfl; rfl) he80 ?_
  intro w78 E' S
  replace E := E.trans E'
  clear E'
  have hs81 : Value.slice A0_0 a0.tasks.length c0_0 = Value.slice A0_0 x79.length c0_0 := by rw [← he80, List.length_set]
  try rw [hs81] at S
  try rw [hs81]
  clear hs81
  have p82 : a1 < (x79.length : Int) := by rw [← he80, List.length_set]; exact p7
  have p83 : a1 < (x79.length : Int) := by rw [← he80, List.length_set]; exact p18
  refine Wl_nil ?_
  refine tn ?_
  refine Wp_seq ?_
  refine Wp_region_lit ?_
  refine W_v (.pointer (some ⟨b19, o20 + a1.toNat * 2, none⟩)) (x_move rfl) rfl ?_
  refine W_v (.pointer (some ⟨b19, o20 + a1.toNat * 2, none⟩)) (x_nilptr rfl) rfl ?_
  refine W_v (.pointer (some ⟨b19, o20 + a1.toNat * 2, none⟩)) (x_fieldAddr (o := o20 + a1.toNat * 2) (off := 0) Try.underlying70 rfl ty3 rfl rfl) rfl ?_
  refine W_v (.int .i64 ((rd x79 a1).at_)) (x_load_cls ⟨M63, Hp.le_refl _, S⟩ 3 rfl ee26 p17 p83 0 (by rintro _ _ rfl; rfl) ty3 rfl) rfl ?_
  refine W_v (.bool (decide ((rd x79 a1).at_ > (2 : Int)))) (x_ibin rfl rfl rfl rfl) rfl ?_
  refine Wl_nil ?_
  refine tn ?_
  obtain ⟨o114, o114h, o114H⟩ := bindS H
  refine Wp_cut (fun ρ w' => ∃ (x110 : List event_task) (A111 : Option Addr) (c112 : Nat), (x110) = o114 ∧ Agree ρ [] ∧ Ext w w' ∧ St w' M63 F [Row r_event_task 70 (.slice A111 x110.length c112) x110, Blk bo0 (.cells #[.slice A111 x110.length c112, .slice A75 (a0.l ++ ([t57] : List api_Event)).length c76] 73 (0, 0)), Row r_api_Event 32 (.slice A75 (a0.l ++ ([t57] : List api_Event)).length c76) (a0.l ++ ([t57] : List api_Event))]) ?_ ?_
  · clear o114H
    have H := o114h
    clear o114h
    rcases iteS H with ⟨hb115, H⟩ | ⟨hb115, H⟩
    · refine Wp_cond_true (congrArg Value.bool hb115) ?_
      refine Wp_seq ?_
      refine Wp_region_lit ?_
      refine W_v (.pointer (some ⟨b19, o20 + a1.toNat * 2, none⟩)) (x_move rfl) rfl ?_
      refine W_v (.pointer (some ⟨b19, o20 + a1.toNat * 2, none⟩)) (x_nilptr rfl) rfl ?_
      refine W_v (.pointer (some ⟨b19, o20 + a1.toNat * 2, none⟩)) (x_fieldAddr (o := o20 + a1.toNat * 2) (off := 0) Try.underlying70 rfl ty3 rfl rfl) rfl ?_
      obtain ⟨x117, he118, H⟩ := bindS H
      replace he118 := Option.some.inj he118
      refine W_rowstore S 3 rfl rfl ee26 (by first | exact p17 | simpa using p17) (by first | exact p83 | simpa using p83) 0 ty3 rfl rfl [.int .i64 0] rfl rfl rfl rfl (⟨(0 : Int), (rd x79 a1).calls⟩ : event_task) (by rintro _ rfl; rfl) he118 ?_
      intro w116 E' S
      replace E := E.trans E'
      clear E'
      have hs119 : Value.slice A0_0 x79.length c0_0 = Value.slice A0_0 x117.length c0_0 := by rw [← he118, List.length_set]
      try rw [hs119] at S
      try rw [hs119]
      clear hs119
      have p120 : a1 < (x117.length : Int) := by rw [← he118, List.length_set]; exact p82
      have p121 : a1 < (x117.length : Int) := by rw [← he118, List.length_set]; exact p83
      refine Wl_nil ?_
      refine tn ?_
      refine Wp_region_lit ?_
      refine W_v (.pointer (some ⟨b19, o20 + a1.toNat * 2, none⟩)) (x_move rfl) rfl ?_
      refine W_v (.pointer (some ⟨b19, o20 + a1.toNat * 2, none⟩)) (x_nilptr rfl) rfl ?_
      refine W_v (.pointer (some ⟨b19, o20 + a1.toNat * 2 + 1, none⟩)) (x_fieldAddr (o := o20 + a1.toNat * 2) (off := 1) Try.underlying70 rfl ty3 rfl rfl) rfl ?_
      refine W_v (.int .i64 ((rd x117 a1).calls)) (x_load_cls ⟨M63, Hp.le_refl _, S⟩ 3 rfl ee26 p17 p121 1 (by rintro _ _ rfl; rfl) ty3 rfl) rfl ?_
      refine W_v (.int .i64 (IntKind.i64.wrap ((rd x117 a1).calls + (1 : Int)))) (x_ibin rfl rfl rfl rfl) rfl ?_
      refine W_v (.pointer (some ⟨b19, o20 + a1.toNat * 2, none⟩)) (x_nilptr rfl) rfl ?_
      refine W_v (.pointer (some ⟨b19, o20 + a1.toNat * 2 + 1, none⟩)) (x_fieldAddr (o := o20 + a1.toNat * 2) (off := 1) Try.underlying70 rfl ty3 rfl rfl) rfl ?_
      obtain ⟨x123, he124, H⟩ := bindS H
      replace he124 := Option.some.inj he124
      refine W_rowstore S 3 rfl rfl ee26 (by first | exact p17 | simpa using p17) (by first | exact p121 | simpa using p121) 1 ty3 rfl rfl [.int .i64 (IntKind.i64.wrap ((rd x117 a1).calls + (1 : Int)))] rfl rfl rfl rfl (⟨(rd x117 a1).at_, (IntKind.i64.wrap ((rd x117 a1).calls + (1 : Int)))⟩ : event_task) (by rintro _ rfl; rfl) he124 ?_
      intro w122 E' S
      replace E := E.trans E'
      clear E'
      have hs125 : Value.slice A0_0 x117.length c0_0 = Value.slice A0_0 x123.length c0_0 := by rw [← he124, List.length_set]
      try rw [hs125] at S
      try rw [hs125]
      clear hs125
      have p126 : a1 < (x123.length : Int) := by rw [← he124, List.length_set]; exact p120
      have p127 : a1 < (x123.length : Int) := by rw [← he124, List.length_set]; exact p121
      refine Wl_nil ?_
      refine tn ?_
      exact ⟨x123, A0_0, c0_0, Option.some.inj H, trivial, E, S.pick [3, 2, 4] (by decide)⟩
    refine Wp_cond_false (congrArg Value.bool hb115) ?_
    refine Wp_skip ?_
    refine tn ?_
    exact ⟨x79, A0_0, c0_0, Option.some.inj H, trivial, E, S.pick [3, 2, 4] (by decide)⟩
  clear o114h
  rintro ρ w128 ⟨x110, A111, c112, rfl, hρ, E, S⟩
  rw [agree_eta hρ]
  clear hρ
  have H := o114H
  clear o114H
  refine tn ?_
  refine Wp_seq ?_
  refine Wp_region_lit ?_
  refine W_v (.int .i64 0) (x_assign rfl) rfl ?_
  refine Wl_nil ?_
  refine tn ?_
  refine Wp_ret ?_
  obtain rfl := Option.some.inj H
  exact ⟨_, _, _, fun w1 e1 => run_resR (vs := [.int .i64 0]) (FA.cons (rfl) (FA.nil)), HM, E, S.pick [1, 0, 2] (by decide), ⟨A111, c112, A75, c76, rfl, rfl⟩⟩
/-! ### ferryman/event.Legal: function 12 -/
def event_Legal_l0 (a0 : Int) (a1 : (List api_Event)) : Nat → Int → List event_task → List api_Event → Option ((Bool) ⊕ (Unit))
  | 0, _, _, _ => none
  | k + 1, x349, x350, x354 => (if (decide (x349 < (a1.length : Int))) = true then (if 0 ≤ x349 ∧ x349 < (a1.length : Int) then (Option.bind (α := Int) (if ((decide ((rd a1 x349).Task ≥ (0 : Int))) && (decide ((rd a1 x349).Task < a0))) = true then (if 0 ≤ (rd a1 x349).Task ∧ (rd a1 x349).Task < (x350.length : Int) then some ((rd x350 ((rd a1 x349).Task)).calls) else none) else some ((-1 : Int))) (fun x564 => (Option.bind (α := Bool) (if (((decide ((rd a1 x349).What < (1 : Int))) || (decide ((rd a1 x349).What > (3 : Int)))) || ((rd a1 x349).Call != x564)) = true then some (true) else (Option.bind (α := Bool) (if ((rd a1 x349).What != (3 : Int)) = true then (Option.bind (event_nothing k ((rd a1 x349).Answer)) (fun t620 => some ((!t620)))) else some (false)) (fun x618 => some (x618)))) (fun x609 => (Option.bind (α := Bool × List event_task × List api_Event) (if x609 = true then some (true, x350, x354) else (Option.bind (event_Recorder_put_POO k (⟨x350, x354⟩ : event_Recorder) ((rd a1 x349).Task) (IntKind.i64.wrap ((IntKind.i64.wrap ((rd a1 x349).What)) - (1 : Int))) (rd a1 x349)) (fun t659 => some ((t659.1 != (0 : Int)), t659.2.tasks, t659.2.l)))) (fun ⟨x648, x649, x653⟩ => (if x648 = true then some (.inl false) else event_Legal_l0 a0 a1 k (IntKind.i64.wrap (x349 + (1 : Int))) x649 x653))))))) else none) else some (.inr ()))
set_option maxHeartbeats 2000000 in
theorem event_Legal_l0.mono {a0 : Int} {a1 : (List api_Event)} : ∀ {k : Nat} {x0 x1 x2}, OLe (event_Legal_l0 a0 a1 k x0 x1 x2) (event_Legal_l0 a0 a1 (k + 1) x0 x1 x2) := by
  intro k
  induction k with
  | zero => intros; exact OLe.none
  | succ k ih =>
    intros
    rw [event_Legal_l0.eq_2, event_Legal_l0.eq_2]
    repeat' (first | with_reducible exact OLe.none | with_reducible exact OLe.some | with_reducible refine OLe.ite ?_ ?_ | with_reducible refine OLe.bind ?_ (fun _ => ?_) | with_reducible exact event_Recorder_put_POO.mono | with_reducible exact event_nothing.mono | exact ih | refine OLe.bind ?_ (fun _ => ?_) | refine OLe.ite ?_ ?_ | refine OLe.elim (fun _ => ?_) (fun _ => ?_) | split)
def event_Legal (k : Nat) (a0 : Int) (a1 : (List api_Event)) : Option (Bool) :=
  (Option.bind (event_New_v k a0) (fun t1 => (Sum.elim (fun t3 => some false) (fun t4 => (Option.bind (event_Legal_l0 a0 a1 k (0 : Int) t4.tasks t4.l) (fun o514o => Sum.elim (fun r' => some r') (fun _ => some true) o514o)))) t1))
set_option maxHeartbeats 2000000 in
theorem event_Legal.mono {k : Nat} {a0 : Int} {a1 : (List api_Event)} : OLe (event_Legal k a0 a1) (event_Legal (k + 1) a0 a1) := by
  unfold event_Legal
  repeat' (first | with_reducible exact OLe.none | with_reducible exact OLe.some | with_reducible refine OLe.ite ?_ ?_ | with_reducible refine OLe.bind ?_ (fun _ => ?_) | with_reducible exact event_Legal_l0.mono | with_reducible exact event_New_v.mono | refine OLe.bind ?_ (fun _ => ?_) | refine OLe.ite ?_ ?_ | refine OLe.elim (fun _ => ?_) (fun _ => ?_) | split)
set_option maxHeartbeats 1000000 in
set_option maxRecDepth 100000 in
theorem event_Legal.con (k : Nat) (M : Hp) (a0 : Int) (A1 : Option Addr) (c1 : Nat) (a1 : (List api_Event)) (r : Bool) (hr1 : SlR r_api_Event M (.slice A1 a1.length c1) a1) (h : event_Legal k a0 a1 = some r) : Con Try.prog 12 #[.int .i64 a0, .slice A1 a1.length c1] M [] (fun v M' Γ' => v = .bool r ∧ Γ' = []) := by
  refine con_of_wp Try.func12 rfl Try.ntmps12 Try.results12 rfl ?_
  intro w F rn S hrn
  have E := Ext.refl w
  have HM := Hp.le_refl M
  have H := h
  unfold event_Legal at H
  refine Wp_seq ?_
  refine Wp_region_lit ?_
  refine W_v (.bool false) (x_assign rfl) rfl ?_
  refine Wl_nil ?_
  refine tn ?_
  refine Wp_seq ?_
  refine Wp_region_lit ?_
  refine W_v (.int .i64 a0) (x_move rfl) rfl ?_
  obtain ⟨t1, ht2, H⟩ := bindS H
  rcases t1 with t3 | t4
  · skip
    replace H := elimL H
    refine W_callF2 fn14 (event_New_v.con k M a0 (Sum.inl t3)  ht2) (Γ1 := []) (Γ2 := []) S rfl rfl (by rintro _ _ _ ⟨rfl, rfl⟩; exact flat_nil) ?_
    rintro _ w5 _ Γ' E' S ⟨rfl, rfl⟩
    replace E := E.trans E'
    clear E'
    replace S : St w5 M F [] := S
    refine W_v (.tuple #[.pointer none, .int .i64 1]) (x_move rfl) rfl ?_
    refine W_v (.pointer none) (x_extract rfl rfl) rfl ?_
    refine W_v (.int .i64 1) (x_extract rfl rfl) rfl ?_
    refine W_v (.pointer none) (x_assign rfl) rfl ?_
    refine W_v (.int .i64 1) (x_assign rfl) rfl ?_
    refine Wl_nil ?_
    refine tn ?_
    refine Wp_seq ?_
    refine Wp_seq ?_
    refine Wp_region_lit ?_
    refine W_v (.int .i64 1) (x_move rfl) rfl ?_
    refine W_v (.bool true) (x_ibin rfl rfl rfl rfl) rfl ?_
    refine Wl_nil ?_
    refine tn ?_
    refine Wp_cond_true rfl ?_
    refine Wp_seq ?_
    refine Wp_region_lit ?_
    refine W_v (.bool false) (x_assign rfl) rfl ?_
    refine Wl_nil ?_
    refine tn ?_
    refine Wp_ret ?_
    refine tr (?_)
    obtain rfl := Option.some.inj H
    exact ⟨_, _, _, fun w1 e1 => run_resR (vs := [.bool false]) (FA.cons (rfl) (FA.nil)), HM, E, S.pick [] (by decide), ⟨rfl, rfl⟩⟩
  · skip
    replace H := elimR H
    refine W_call fn14 (event_New_v.con k M a0 (Sum.inr t4)  ht2) (Γ1 := []) (Γ2 := []) S rfl rfl ?_
    rintro _ w16 M17 Γ' hM18 E' S ⟨b8, A10, c11, A13, c14, rfl, rfl⟩
    replace HM := Hp.le_trans HM hM18
    replace hr1 := SlR.mono hr1 hM18
    replace E := E.trans E'
    clear E'
    replace S : St w16 M17 F [Blk b8 (.cells #[.slice A10 t4.tasks.length c11, .slice A13 t4.l.length c14] 73 (0, 0)), Row r_event_task 70 (.slice A10 t4.tasks.length c11) t4.tasks, Row r_api_Event 32 (.slice A13 t4.l.length c14) t4.l] := S
    refine W_v (.tuple #[.pointer (some ⟨b8, 0, none⟩), .int .i64 0]) (x_move rfl) rfl ?_
    refine W_v (.pointer (some ⟨b8, 0, none⟩)) (x_extract rfl rfl) rfl ?_
    refine W_v (.int .i64 0) (x_extract rfl rfl) rfl ?_
    refine W_v (.pointer (some ⟨b8, 0, none⟩)) (x_assign rfl) rfl ?_
    refine W_v (.int .i64 0) (x_assign rfl) rfl ?_
    refine Wl_nil ?_
    refine tn ?_
    refine Wp_seq ?_
    refine Wp_seq ?_
    refine Wp_region_lit ?_
    refine W_v (.int .i64 0) (x_move rfl) rfl ?_
    refine W_v (.bool false) (x_ibin rfl rfl rfl rfl) rfl ?_
    refine Wl_nil ?_
    refine tn ?_
    refine Wp_cond_false rfl ?_
    refine Wp_skip ?_
    refine tn ?_
    refine Wp_seq ?_
    refine Wp_seq ?_
    refine Wp_region_lit ?_
    refine W_v (.slice A1 a1.length c1) (x_move rfl) rfl ?_
    refine W_v (.int .i64 (a1.length : Int)) (x_len_slice (n := a1.length) Try.underlying22 rfl) rfl ?_
    refine W_v (.int .i64 0) (x_move rfl) rfl ?_
    refine Wl_nil ?_
    refine tn ?_
    obtain ⟨o514, o514h, o514H⟩ := bindS H
    clear H
    refine Wp_blockJ (fun ρ w' => ∃ (Mj : Hp), .inr () = o514 ∧ Agree ρ [] ∧ M17.le Mj ∧ Ext w w' ∧ St w' Mj F []) ?_ ?_
    · skip
      refine Wp_loop (fun n ρ w' => ∃ (x349 : Int) (x350 : List event_task) (x354 : List api_Event) (A351 : Option Addr) (c352 : Nat) (A355 : Option Addr) (c356 : Nat) (Mj : Hp), event_Legal_l0 a0 a1 n x349 x350 x354 = some o514 ∧ Agree ρ [(0, .int .i64 a0), (5, .pointer (some ⟨b8, 0, none⟩)), (17, .slice A1 a1.length c1), (18, .int .i64 (a1.length : Int)), (19, .int .i64 x349)] ∧ M17.le Mj ∧ Ext w w' ∧ St w' Mj F [Row r_api_Event 32 (.slice A355 x354.length c356) x354, Row r_event_task 70 (.slice A351 x350.length c352) x350, Blk b8 (.cells #[.slice A351 x350.length c352, .slice A355 x354.length c356] 73 (0, 0))]) k ?_ ?_
      · skip
        exact ⟨(0 : Int), t4.tasks, t4.l, A10, c11, A13, c14, M17, o514h, ⟨rfl, rfl, rfl, rfl, rfl, trivial⟩, (Hp.le_refl M17), E, S.pick [2, 1, 0] (by decide)⟩
      · intro n
        rintro ρ w515 ⟨x349, x350, x354, A351, c352, A355, c356, M516, H, hρ, hM517, E, S⟩
        rw [agree_eta hρ]
        clear hρ
        replace HM := Hp.le_trans HM hM517
        replace hr1 := SlR.mono hr1 hM517
        cases n with
        | zero => cases H
        | succ k =>
          rw [event_Legal_l0.eq_2] at H
          refine Wp_seq ?_
          refine Wp_region_lit ?_
          refine W_v (.bool (decide (x349 < (a1.length : Int)))) (x_ibin rfl rfl rfl rfl) rfl ?_
          refine Wl_nil ?_
          refine tn ?_
          refine Wp_seq ?_
          rcases iteS H with ⟨hb518, H⟩ | ⟨hb518, H⟩
          · refine Wp_cond_true (congrArg Value.bool hb518) ?_
            refine Wp_skip ?_
            refine tn ?_
            refine Wp_seq ?_
            refine Wp_block ?_
            refine Wp_seq ?_
            refine Wp_region_lit ?_
            obtain ⟨⟨p519, p520⟩, H⟩ := chkS H
            obtain ⟨b521, o522, cs523, _, _, ee528, hb524, vs525, hR526, hc527⟩ := SlW.at' hr1 p519 p520
            obtain ⟨v532, hs531, rfl⟩ := hR526
            obtain ⟨A529, c530, rfl, _⟩ := hs531.form
            refine W_v (.pointer (some ⟨b521, o522 + x349.toNat * 7, none⟩)) (x_indexAddr Try.underlying22 ty32 (slA ee528) rfl p519 p520) rfl ?_
            refine W_v (.agg #[.int .u8 ((rd a1 x349).What), .int .i64 ((rd a1 x349).Task), .int .i64 ((rd a1 x349).Call), .int .i64 ((rd a1 x349).Answer.Err), .bool ((rd a1 x349).Answer.Found), .string (bs ((rd a1 x349).Answer.Value)), .slice A529 ((rd a1 x349).Answer.Pairs).length c530]) (x_loadA (S.frz hb524) ty32 rfl (sub_el hc527 0 rfl) rfl rfl) rfl ?_
            refine W_alloc S #[.int .u8 0, .int .i64 0, .int .i64 0, .int .i64 0, .bool false, .string (bs ([] : Str)), .slice none 0 0] ty32 rfl rfl ?_
            intro b533 w534 E' S
            replace E := E.trans E'
            clear E'
            refine W_store S 0 rfl ty32 rfl rfl [.int .u8 ((rd a1 x349).What), .int .i64 ((rd a1 x349).Task), .int .i64 ((rd a1 x349).Call), .int .i64 ((rd a1 x349).Answer.Err), .bool ((rd a1 x349).Answer.Found), .string (bs ((rd a1 x349).Answer.Value)), .slice A529 ((rd a1 x349).Answer.Pairs).length c530] rfl rfl rfl #[.int .u8 ((rd a1 x349).What), .int .i64 ((rd a1 x349).Task), .int .i64 ((rd a1 x349).Call), .int .i64 ((rd a1 x349).Answer.Err), .bool ((rd a1 x349).Answer.Found), .string (bs ((rd a1 x349).Answer.Value)), .slice A529 ((rd a1 x349).Answer.Pairs).length c530] rfl rfl ?_
            intro w536 E' S
            replace E := E.trans E'
            clear E'
            refine Wl_nil ?_
            refine tn ?_
            refine Wp_seq ?_
            refine Wp_region_lit ?_
            refine W_v (.int .i64 (-1)) (x_assign rfl) rfl ?_
            refine Wl_nil ?_
            refine tn ?_
            refine Wp_seq ?_
            refine Wp_seq ?_
            refine Wp_region_lit ?_
            refine W_v (.pointer (some ⟨b533, 1, none⟩)) (x_fieldAddr (o := 0) (off := 1) Try.underlying32 rfl ty3 rfl rfl) rfl ?_
            refine W_v (.int .i64 ((rd a1 x349).Task)) (x_load (S.blk 0 rfl) ty3 rfl rfl) rfl ?_
            refine W_v (.bool (decide ((rd a1 x349).Task ≥ (0 : Int)))) (x_ibin rfl rfl rfl rfl) rfl ?_
            refine W_v (.bool (decide ((rd a1 x349).Task ≥ (0 : Int)))) (x_move rfl) rfl ?_
            refine Wl_cutN 5 (fun ρ w' => Agree ρ [(0, .int .i64 a0), (5, .pointer (some ⟨b8, 0, none⟩)), (8, .pointer (some ⟨b533, 0, none⟩)), (9, .int .i64 (-1)), (17, .slice A1 a1.length c1), (18, .int .i64 (a1.length : Int)), (19, .int .i64 x349), (31, .bool ((decide ((rd a1 x349).Task ≥ (0 : Int))) && (decide ((rd a1 x349).Task < a0))))] ∧ w536 = w') ?_ ?_
            · rcases boolCases (decide ((rd a1 x349).Task ≥ (0 : Int))) with hb537 | hb537
              · skip
                refine W_no (skT hb537) rfl ?_
                refine W_no (skT hb537) rfl ?_
                refine W_no (skT hb537) rfl ?_
                refine W_no (skT hb537) rfl ?_
                refine W_v (.bool false) (x_pick (k := false) (congrArg Value.bool hb537) rfl) rfl ?_
                refine Wl_nil ?_
                exact ⟨⟨rfl, rfl, rfl, rfl, rfl, rfl, rfl, (by first | rfl | (rw [hb537]; rfl) | (simp only [hb537]; rfl)), trivial⟩, rfl⟩
              · skip
                refine W_yes (congrArg some hb537) ?_
                refine W_v (.pointer (some ⟨b533, 1, none⟩)) (x_fieldAddr (o := 0) (off := 1) Try.underlying32 rfl ty3 rfl rfl) rfl ?_
                refine W_yes (congrArg some hb537) ?_
                refine W_v (.int .i64 ((rd a1 x349).Task)) (x_load (S.blk 0 rfl) ty3 rfl rfl) rfl ?_
                refine W_yes (congrArg some hb537) ?_
                refine W_v (.int .i64 a0) (x_move rfl) rfl ?_
                refine W_yes (congrArg some hb537) ?_
                refine W_v (.bool (decide ((rd a1 x349).Task < a0))) (x_ibin rfl rfl rfl rfl) rfl ?_
                refine W_v (.bool (decide ((rd a1 x349).Task < a0))) (x_pick (k := true) (congrArg Value.bool hb537) rfl) rfl ?_
                refine Wl_nil ?_
                exact ⟨⟨rfl, rfl, rfl, rfl, rfl, rfl, rfl, (by first | rfl | (rw [hb537]; rfl) | (simp only [hb537]; rfl)), trivial⟩, rfl⟩
            rintro ρ _ ⟨hρ, rfl⟩
            rw [agree_eta hρ]
            clear hρ
            refine Wl_nil ?_
            refine tn ?_
            obtain ⟨o565, o565h, o565H⟩ := bindS H
            refine Wp_cut (fun ρ w' => ∃ (x564 : Int), (x564) = o565 ∧ Agree ρ [(0, .int .i64 a0), (5, .pointer (some ⟨b8, 0, none⟩)), (8, .pointer (some ⟨b533, 0, none⟩)), (9, .int .i64 x564), (17, .slice A1 a1.length c1), (18, .int .i64 (a1.length : Int)), (19, .int .i64 x349)] ∧ Ext w w' ∧ St w' M516 F [Blk b533 (.cells #[.int .u8 ((rd a1 x349).What), .int .i64 ((rd a1 x349).Task), .int .i64 ((rd a1 x349).Call), .int .i64 ((rd a1 x349).Answer.Err), .bool ((rd a1 x349).Answer.Found), .string (bs ((rd a1 x349).Answer.Value)), .slice A529 ((rd a1 x349).Answer.Pairs).length c530] 32 (0, 0)), Row r_api_Event 32 (.slice A355 x354.length c356) x354, Row r_event_task 70 (.slice A351 x350.length c352) x350, Blk b8 (.cells #[.slice A351 x350.length c352, .slice A355 x354.length c356] 73 (0, 0))]) ?_ ?_
            · clear o565H
              have H := o565h
              clear o565h
              rcases iteS H with ⟨hb566, H⟩ | ⟨hb566, H⟩
              · refine Wp_cond_true (congrArg Value.bool hb566) ?_
                refine Wp_region_any (S := fun w' => ∃ Mx, M516.le Mx ∧ St w' Mx F [Blk b533 (.cells #[.int .u8 ((rd a1 x349).What), .int .i64 ((rd a1 x349).Task), .int .i64 ((rd a1 x349).Call), .int .i64 ((rd a1 x349).Answer.Err), .bool ((rd a1 x349).Answer.Found), .string (bs ((rd a1 x349).Answer.Value)), .slice A529 ((rd a1 x349).Answer.Pairs).length c530] 32 (0, 0)), Row r_api_Event 32 (.slice A355 x354.length c356) x354, Row r_event_task 70 (.slice A351 x350.length c352) x350, Blk b8 (.cells #[.slice A351 x350.length c352, .slice A355 x354.length c356] 73 (0, 0))]) (L := 10) mixed ?_
                intro w572 hw573 E'
                replace S := S.heap hw573
                replace E := E.trans E'
                clear E'
                refine Wa_take (i := 0) rfl (by kernel_rfl) rfl rfl (.pointer (some ⟨b8, 0, none⟩)) rfl (fun w' h' => x_move rfl) (⟨M516, Hp.le_refl M516, (S.pick [0, 1, 2, 3] (by decide))⟩) ?_
                refine Wa_take (i := 1) rfl (by kernel_rfl) rfl rfl (.pointer (some ⟨b8, 0, none⟩)) rfl (fun w' h' => x_nilptr rfl) (⟨M516, Hp.le_refl M516, (S.pick [0, 1, 2, 3] (by decide))⟩) ?_
                refine Wa_take (i := 2) rfl (by kernel_rfl) rfl rfl (.pointer (some ⟨b8, 0, none⟩)) rfl (fun w' h' => x_fieldAddr (o := 0) (off := 0) Try.underlying73 rfl ty71 rfl rfl) (⟨M516, Hp.le_refl M516, (S.pick [0, 1, 2, 3] (by decide))⟩) ?_
                refine Wa_take (i := 3) rfl (by kernel_rfl) rfl rfl (.slice A351 x350.length c352) rfl (fun w' h' => x_load (cls_blk h' 3 rfl) ty71 rfl rfl) (⟨M516, Hp.le_refl M516, (S.pick [0, 1, 2, 3] (by decide))⟩) ?_
                refine Wa_take (i := 4) rfl (by kernel_rfl) rfl rfl (.pointer (some ⟨b533, 1, none⟩)) rfl (fun w' h' => x_fieldAddr (o := 0) (off := 1) Try.underlying32 rfl ty3 rfl rfl) (⟨M516, Hp.le_refl M516, (S.pick [0, 1, 2, 3] (by decide))⟩) ?_
                refine Wa_take (i := 5) rfl (by kernel_rfl) rfl rfl (.int .i64 ((rd a1 x349).Task)) rfl (fun w' h' => x_load (cls_blk h' 0 rfl) ty3 rfl rfl) (⟨M516, Hp.le_refl M516, (S.pick [0, 1, 2, 3] (by decide))⟩) ?_
                obtain ⟨⟨p574, p575⟩, H⟩ := chkS H
                obtain ⟨b576, o577, _, _, _, ee578, _⟩ := SlW.at' (S.row_read 2 rfl) p574 p575
                refine Wa_take (i := 6) rfl (by kernel_rfl) rfl rfl (.pointer (some ⟨b576, o577 + ((rd a1 x349).Task).toNat * 2, none⟩)) rfl (fun w' h' => x_indexAddr Try.underlying71 ty70 (slA ee578) rfl p574 p575) (⟨M516, Hp.le_refl M516, (S.pick [0, 1, 2, 3] (by decide))⟩) ?_
                refine Wa_take (i := 7) rfl (by kernel_rfl) rfl rfl (.pointer (some ⟨b576, o577 + ((rd a1 x349).Task).toNat * 2 + 1, none⟩)) rfl (fun w' h' => x_fieldAddr (o := o577 + ((rd a1 x349).Task).toNat * 2) (off := 1) Try.underlying70 rfl ty3 rfl rfl) (⟨M516, Hp.le_refl M516, (S.pick [0, 1, 2, 3] (by decide))⟩) ?_
                refine Wa_take (i := 8) rfl (by kernel_rfl) rfl rfl (.int .i64 ((rd x350 ((rd a1 x349).Task)).calls)) rfl (fun w' h' => x_load_cls h' 2 rfl ee578 p574 p575 1 (by rintro _ _ rfl; rfl) ty3 rfl) (⟨M516, Hp.le_refl M516, (S.pick [0, 1, 2, 3] (by decide))⟩) ?_
                refine Wa_take (i := 9) rfl (by kernel_rfl) rfl rfl (.int .i64 ((rd x350 ((rd a1 x349).Task)).calls)) rfl (fun w' h' => x_assign rfl) (⟨M516, Hp.le_refl M516, (S.pick [0, 1, 2, 3] (by decide))⟩) ?_
                refine Wa_done (by kernel_rfl) ?_
                refine tn ?_
                exact ⟨((rd x350 ((rd a1 x349).Task)).calls), Option.some.inj H, ⟨rfl, rfl, rfl, rfl, rfl, rfl, rfl, trivial⟩, E, S.pick [0, 1, 2, 3] (by decide)⟩
              refine Wp_cond_false (congrArg Value.bool hb566) ?_
              refine Wp_skip ?_
              refine tn ?_
              exact ⟨(-1 : Int), Option.some.inj H, ⟨rfl, rfl, rfl, rfl, rfl, rfl, rfl, trivial⟩, E, S.pick [0, 1, 2, 3] (by decide)⟩
            clear o565h
            rintro ρ w579 ⟨x564, rfl, hρ, E, S⟩
            rw [agree_eta hρ]
            clear hρ
            have H := o565H
            clear o565H
            refine tn ?_
            refine Wp_seq ?_
            refine Wp_region_lit ?_
            refine W_v (.pointer (some ⟨b533, 0, none⟩)) (x_fieldAddr (o := 0) (off := 0) Try.underlying32 rfl ty5 rfl rfl) rfl ?_
            refine W_v (.int .u8 ((rd a1 x349).What)) (x_load (S.blk 0 rfl) ty5 rfl rfl) rfl ?_
            refine W_v (.bool (decide ((rd a1 x349).What < (1 : Int)))) (x_ibin rfl rfl rfl rfl) rfl ?_
            refine W_v (.bool (decide ((rd a1 x349).What < (1 : Int)))) (x_move rfl) rfl ?_
            refine Wl_cutN 4 (fun ρ w' => Agree ρ [(0, .int .i64 a0), (5, .pointer (some ⟨b8, 0, none⟩)), (8, .pointer (some ⟨b533, 0, none⟩)), (9, .int .i64 x564), (17, .slice A1 a1.length c1), (18, .int .i64 (a1.length : Int)), (19, .int .i64 x349), (48, .bool ((decide ((rd a1 x349).What < (1 : Int))) || (decide ((rd a1 x349).What > (3 : Int)))))] ∧ w579 = w') ?_ ?_
            · rcases boolCases (decide ((rd a1 x349).What < (1 : Int))) with hb580 | hb580
              · skip
                refine W_yes (congrArg some hb580) ?_
                refine W_v (.pointer (some ⟨b533, 0, none⟩)) (x_fieldAddr (o := 0) (off := 0) Try.underlying32 rfl ty5 rfl rfl) rfl ?_
                refine W_yes (congrArg some hb580) ?_
                refine W_v (.int .u8 ((rd a1 x349).What)) (x_load (S.blk 0 rfl) ty5 rfl rfl) rfl ?_
                refine W_yes (congrArg some hb580) ?_
                refine W_v (.bool (decide ((rd a1 x349).What > (3 : Int)))) (x_ibin rfl rfl rfl rfl) rfl ?_
                refine W_v (.bool (decide ((rd a1 x349).What > (3 : Int)))) (x_pick (k := false) (congrArg Value.bool hb580) rfl) rfl ?_
                refine Wl_nil ?_
                exact ⟨⟨rfl, rfl, rfl, rfl, rfl, rfl, rfl, (by first | rfl | (rw [hb580]; rfl) | (simp only [hb580]; rfl)), trivial⟩, rfl⟩
              · skip
                refine W_no (skF hb580) rfl ?_
                refine W_no (skF hb580) rfl ?_
                refine W_no (skF hb580) rfl ?_
                refine W_v (.bool true) (x_pick (k := true) (congrArg Value.bool hb580) rfl) rfl ?_
                refine Wl_nil ?_
                exact ⟨⟨rfl, rfl, rfl, rfl, rfl, rfl, rfl, (by first | rfl | (rw [hb580]; rfl) | (simp only [hb580]; rfl)), trivial⟩, rfl⟩
            rintro ρ _ ⟨hρ, rfl⟩
            rw [agree_eta hρ]
            clear hρ
            refine W_v (.bool ((decide ((rd a1 x349).What < (1 : Int))) || (decide ((rd a1 x349).What > (3 : Int))))) (x_move rfl) rfl ?_
            refine Wl_cutN 5 (fun ρ w' => Agree ρ [(0, .int .i64 a0), (5, .pointer (some ⟨b8, 0, none⟩)), (8, .pointer (some ⟨b533, 0, none⟩)), (17, .slice A1 a1.length c1), (18, .int .i64 (a1.length : Int)), (19, .int .i64 x349), (54, .bool (((decide ((rd a1 x349).What < (1 : Int))) || (decide ((rd a1 x349).What > (3 : Int)))) || ((rd a1 x349).Call != x564)))] ∧ w579 = w') ?_ ?_
            · rcases boolCases ((decide ((rd a1 x349).What < (1 : Int))) || (decide ((rd a1 x349).What > (3 : Int)))) with hb581 | hb581
              · skip
                refine W_yes (congrArg some hb581) ?_
                refine W_v (.pointer (some ⟨b533, 2, none⟩)) (x_fieldAddr (o := 0) (off := 2) Try.underlying32 rfl ty3 rfl rfl) rfl ?_
                refine W_yes (congrArg some hb581) ?_
                refine W_v (.int .i64 ((rd a1 x349).Call)) (x_load (S.blk 0 rfl) ty3 rfl rfl) rfl ?_
                refine W_yes (congrArg some hb581) ?_
                refine W_v (.int .i64 x564) (x_move rfl) rfl ?_
                refine W_yes (congrArg some hb581) ?_
                refine W_v (.bool ((rd a1 x349).Call != x564)) (x_ibin rfl rfl rfl rfl) rfl ?_
                refine W_v (.bool ((rd a1 x349).Call != x564)) (x_pick (k := false) (congrArg Value.bool hb581) rfl) rfl ?_
                refine Wl_nil ?_
                exact ⟨⟨rfl, rfl, rfl, rfl, rfl, rfl, (by first | rfl | (rw [hb581]; rfl) | (simp only [hb581]; rfl)), trivial⟩, rfl⟩
              · skip
                refine W_no (skF hb581) rfl ?_
                refine W_no (skF hb581) rfl ?_
                refine W_no (skF hb581) rfl ?_
                refine W_no (skF hb581) rfl ?_
                refine W_v (.bool true) (x_pick (k := true) (congrArg Value.bool hb581) rfl) rfl ?_
                refine Wl_nil ?_
                exact ⟨⟨rfl, rfl, rfl, rfl, rfl, rfl, (by first | rfl | (rw [hb581]; rfl) | (simp only [hb581]; rfl)), trivial⟩, rfl⟩
            rintro ρ _ ⟨hρ, rfl⟩
            rw [agree_eta hρ]
            clear hρ
            refine W_v (.bool (((decide ((rd a1 x349).What < (1 : Int))) || (decide ((rd a1 x349).What > (3 : Int)))) || ((rd a1 x349).Call != x564))) (x_move rfl) rfl ?_
            obtain ⟨o610, o610h, o610H⟩ := bindS H
            clear H
            refine Wl_cutN 10 (fun ρ w' => ∃ (x609 : Bool), (x609) = o610 ∧ Agree ρ [(0, .int .i64 a0), (5, .pointer (some ⟨b8, 0, none⟩)), (8, .pointer (some ⟨b533, 0, none⟩)), (17, .slice A1 a1.length c1), (18, .int .i64 (a1.length : Int)), (19, .int .i64 x349), (65, .bool x609)] ∧ Ext w w' ∧ St w' M516 F [Blk b533 (.cells #[.int .u8 ((rd a1 x349).What), .int .i64 ((rd a1 x349).Task), .int .i64 ((rd a1 x349).Call), .int .i64 ((rd a1 x349).Answer.Err), .bool ((rd a1 x349).Answer.Found), .string (bs ((rd a1 x349).Answer.Value)), .slice A529 ((rd a1 x349).Answer.Pairs).length c530] 32 (0, 0)), Row r_api_Event 32 (.slice A355 x354.length c356) x354, Row r_event_task 70 (.slice A351 x350.length c352) x350, Blk b8 (.cells #[.slice A351 x350.length c352, .slice A355 x354.length c356] 73 (0, 0))]) ?_ ?_
            · have H := o610h
              rcases iteS H with ⟨hb608, H⟩ | ⟨hb608, H⟩
              · skip
                refine W_no (skF hb608) rfl ?_
                refine W_no (skF hb608) rfl ?_
                refine W_no (skF hb608) rfl ?_
                refine W_no (skF hb608) rfl ?_
                refine W_no (rfl) rfl ?_
                refine W_no (rfl) rfl ?_
                refine W_no (rfl) rfl ?_
                refine W_no (rfl) rfl ?_
                refine W_no (skF hb608) rfl ?_
                refine W_v (.bool true) (x_pick (k := true) (congrArg Value.bool hb608) rfl) rfl ?_
                refine Wl_nil ?_
                exact ⟨true, Option.some.inj H, ⟨rfl, rfl, rfl, rfl, rfl, rfl, rfl, trivial⟩, E, S.pick [0, 1, 2, 3] (by decide)⟩
              · skip
                refine W_yes (congrArg some hb608) ?_
                refine W_v (.pointer (some ⟨b533, 0, none⟩)) (x_fieldAddr (o := 0) (off := 0) Try.underlying32 rfl ty5 rfl rfl) rfl ?_
                refine W_yes (congrArg some hb608) ?_
                refine W_v (.int .u8 ((rd a1 x349).What)) (x_load (S.blk 0 rfl) ty5 rfl rfl) rfl ?_
                refine W_yes (congrArg some hb608) ?_
                refine W_v (.bool ((rd a1 x349).What != (3 : Int))) (x_ibin rfl rfl rfl rfl) rfl ?_
                refine W_yes (congrArg some hb608) ?_
                refine W_v (.bool ((rd a1 x349).What != (3 : Int))) (x_move rfl) rfl ?_
                obtain ⟨o619, o619h, o619H⟩ := bindS H
                clear H
                refine Wl_cutN 5 (fun ρ w' => ∃ (x618 : Bool), (x618) = o619 ∧ Agree ρ [(0, .int .i64 a0), (5, .pointer (some ⟨b8, 0, none⟩)), (8, .pointer (some ⟨b533, 0, none⟩)), (17, .slice A1 a1.length c1), (18, .int .i64 (a1.length : Int)), (19, .int .i64 x349), (55, .bool (((decide ((rd a1 x349).What < (1 : Int))) || (decide ((rd a1 x349).What > (3 : Int)))) || ((rd a1 x349).Call != x564))), (56, .pointer (some ⟨b533, 0, none⟩)), (57, .int .u8 ((rd a1 x349).What)), (58, .bool ((rd a1 x349).What != (3 : Int))), (59, .bool ((rd a1 x349).What != (3 : Int))), (64, .bool x618)] ∧ Ext w w' ∧ St w' M516 F [Blk b533 (.cells #[.int .u8 ((rd a1 x349).What), .int .i64 ((rd a1 x349).Task), .int .i64 ((rd a1 x349).Call), .int .i64 ((rd a1 x349).Answer.Err), .bool ((rd a1 x349).Answer.Found), .string (bs ((rd a1 x349).Answer.Value)), .slice A529 ((rd a1 x349).Answer.Pairs).length c530] 32 (0, 0)), Row r_api_Event 32 (.slice A355 x354.length c356) x354, Row r_event_task 70 (.slice A351 x350.length c352) x350, Blk b8 (.cells #[.slice A351 x350.length c352, .slice A355 x354.length c356] 73 (0, 0))]) ?_ ?_
                · have H := o619h
                  rcases iteS H with ⟨hb617, H⟩ | ⟨hb617, H⟩
                  · skip
                    refine W_yes (congrArg some hb617) ?_
                    refine W_v (.pointer (some ⟨b533, 3, none⟩)) (x_fieldAddr (o := 0) (off := 3) Try.underlying32 rfl ty30 rfl rfl) rfl ?_
                    refine W_yes (congrArg some hb617) ?_
                    refine W_v (.agg #[.int .i64 ((rd a1 x349).Answer.Err), .bool ((rd a1 x349).Answer.Found), .string (bs ((rd a1 x349).Answer.Value)), .slice A529 ((rd a1 x349).Answer.Pairs).length c530]) (x_loadA (S.blk 0 rfl) ty30 rfl (sub_of_extract rfl) rfl rfl) rfl ?_
                    refine W_yes (congrArg some hb617) ?_
                    obtain ⟨t620, ht621, H⟩ := bindS H
                    refine W_callF fn33 (event_nothing.con k M516 A529 c530 ((rd a1 x349).Answer) t620 hs531 ht621) S rfl rfl (by rintro _ _ _ ⟨_, rfl⟩; exact flat_nil) ?_
                    rintro _ w622 _ Γ' E' S ⟨rfl, rfl⟩
                    replace E := E.trans E'
                    clear E'
                    refine W_yes (congrArg some hb617) ?_
                    refine W_v (.bool (!t620)) (x_not rfl) rfl ?_
                    refine W_yes (congrArg some hb608) ?_
                    refine W_v (.bool (!t620)) (x_pick (k := true) (congrArg Value.bool hb617) rfl) rfl ?_
                    refine Wl_nil ?_
                    exact ⟨(!t620), Option.some.inj H, ⟨rfl, rfl, rfl, rfl, rfl, rfl, rfl, rfl, rfl, rfl, rfl, rfl, trivial⟩, E, S.pick [0, 1, 2, 3] (by decide)⟩
                  · skip
                    refine W_no (skT hb617) rfl ?_
                    refine W_no (skT hb617) rfl ?_
                    refine W_no (skT hb617) rfl ?_
                    refine W_no (skT hb617) rfl ?_
                    refine W_yes (congrArg some hb608) ?_
                    refine W_v (.bool false) (x_pick (k := false) (congrArg Value.bool hb617) rfl) rfl ?_
                    refine Wl_nil ?_
                    exact ⟨false, Option.some.inj H, ⟨rfl, rfl, rfl, rfl, rfl, rfl, rfl, rfl, rfl, rfl, rfl, rfl, trivial⟩, E, S.pick [0, 1, 2, 3] (by decide)⟩
                clear o619h
                rintro ρ w623 ⟨x618, rfl, hρ, E, S⟩
                rw [agree_eta hρ]
                clear hρ
                have H := o619H
                clear o619H
                refine W_v (.bool x618) (x_pick (k := false) (congrArg Value.bool hb608) rfl) rfl ?_
                refine Wl_nil ?_
                exact ⟨x618, Option.some.inj H, ⟨rfl, rfl, rfl, rfl, rfl, rfl, rfl, trivial⟩, E, S.pick [0, 1, 2, 3] (by decide)⟩
            clear o610h
            rintro ρ w624 ⟨x609, rfl, hρ, E, S⟩
            rw [agree_eta hρ]
            clear hρ
            have H := o610H
            clear o610H
            refine W_v (.bool x609) (x_move rfl) rfl ?_
            obtain ⟨o657, o657h, o657H⟩ := bindS H
            clear H
            refine Wl_cutN 11 (fun ρ w' => ∃ (x648 : Bool) (x649 : List event_task) (x653 : List api_Event) (A650 : Option Addr) (c651 : Nat) (A654 : Option Addr) (c655 : Nat) (Mj : Hp), (x648, x649, x653) = o657 ∧ Agree ρ [(0, .int .i64 a0), (5, .pointer (some ⟨b8, 0, none⟩)), (17, .slice A1 a1.length c1), (18, .int .i64 (a1.length : Int)), (19, .int .i64 x349), (77, .bool x648)] ∧ M516.le Mj ∧ Ext w w' ∧ St w' Mj F [Row r_api_Event 32 (.slice A654 x653.length c655) x653, Row r_event_task 70 (.slice A650 x649.length c651) x649, Blk b8 (.cells #[.slice A650 x649.length c651, .slice A654 x653.length c655] 73 (0, 0))]) ?_ ?_
            · have H := o657h
              have LE658 := Hp.le_refl M516
              rcases iteS H with ⟨hb647, H⟩ | ⟨hb647, H⟩
              · skip
                refine W_no (skF hb647) rfl ?_
                refine W_no (skF hb647) rfl ?_
                refine W_no (skF hb647) rfl ?_
                refine W_no (skF hb647) rfl ?_
                refine W_no (skF hb647) rfl ?_
                refine W_no (skF hb647) rfl ?_
                refine W_no (skF hb647) rfl ?_
                refine W_no (skF hb647) rfl ?_
                refine W_no (skF hb647) rfl ?_
                refine W_no (skF hb647) rfl ?_
                refine W_v (.bool true) (x_pick (k := true) (congrArg Value.bool hb647) rfl) rfl ?_
                refine Wl_nil ?_
                exact ⟨true, x350, x354, A351, c352, A355, c356, M516, Option.some.inj H, ⟨rfl, rfl, rfl, rfl, rfl, rfl, trivial⟩, (Hp.le_refl M516), E, S.pick [1, 2, 3] (by decide)⟩
              · skip
                refine W_yes (congrArg some hb647) ?_
                refine W_v (.pointer (some ⟨b8, 0, none⟩)) (x_move rfl) rfl ?_
                refine W_yes (congrArg some hb647) ?_
                refine W_v (.pointer (some ⟨b533, 1, none⟩)) (x_fieldAddr (o := 0) (off := 1) Try.underlying32 rfl ty3 rfl rfl) rfl ?_
                refine W_yes (congrArg some hb647) ?_
                refine W_v (.int .i64 ((rd a1 x349).Task)) (x_load (S.blk 0 rfl) ty3 rfl rfl) rfl ?_
                refine W_yes (congrArg some hb647) ?_
                refine W_v (.pointer (some ⟨b533, 0, none⟩)) (x_fieldAddr (o := 0) (off := 0) Try.underlying32 rfl ty5 rfl rfl) rfl ?_
                refine W_yes (congrArg some hb647) ?_
                refine W_v (.int .u8 ((rd a1 x349).What)) (x_load (S.blk 0 rfl) ty5 rfl rfl) rfl ?_
                refine W_yes (congrArg some hb647) ?_
                refine W_v (.int .i64 (IntKind.i64.wrap ((rd a1 x349).What))) (x_conv_int Try.underlying5 Try.underlying3 rfl) rfl ?_
                refine W_yes (congrArg some hb647) ?_
                refine W_v (.int .i64 (IntKind.i64.wrap ((IntKind.i64.wrap ((rd a1 x349).What)) - (1 : Int)))) (x_ibin rfl rfl rfl rfl) rfl ?_
                refine W_yes (congrArg some hb647) ?_
                refine W_v (.agg #[.int .u8 ((rd a1 x349).What), .int .i64 ((rd a1 x349).Task), .int .i64 ((rd a1 x349).Call), .int .i64 ((rd a1 x349).Answer.Err), .bool ((rd a1 x349).Answer.Found), .string (bs ((rd a1 x349).Answer.Value)), .slice A529 ((rd a1 x349).Answer.Pairs).length c530]) (x_loadA (S.blk 0 rfl) ty32 rfl (sub_of_extract rfl) rfl rfl) rfl ?_
                refine W_yes (congrArg some hb647) ?_
                obtain ⟨t659, ht660, H⟩ := bindS H
                replace S : St w624 M516 F [Blk b8 (.cells #[.slice A351 x350.length c352, .slice A355 x354.length c356] 73 (0, 0)), Row r_event_task 70 (.slice A351 x350.length c352) x350, Row r_api_Event 32 (.slice A355 x354.length c356) x354, Blk b533 (.cells #[.int .u8 ((rd a1 x349).What), .int .i64 ((rd a1 x349).Task), .int .i64 ((rd a1 x349).Call), .int .i64 ((rd a1 x349).Answer.Err), .bool ((rd a1 x349).Answer.Found), .string (bs ((rd a1 x349).Answer.Value)), .slice A529 ((rd a1 x349).Answer.Pairs).length c530] 32 (0, 0))] := S.pick [3, 2, 1, 0] (by decide)
                refine W_call fn34 (event_Recorder_put_POO.con k M516 A351 c352 A355 c356 (⟨x350, x354⟩ : event_Recorder) ((rd a1 x349).Task) (IntKind.i64.wrap ((IntKind.i64.wrap ((rd a1 x349).What)) - (1 : Int))) A529 c530 (rd a1 x349) b8 t659 hs531 ht660) (Γ1 := [Blk b8 (.cells #[.slice A351 x350.length c352, .slice A355 x354.length c356] 73 (0, 0)), Row r_event_task 70 (.slice A351 x350.length c352) x350, Row r_api_Event 32 (.slice A355 x354.length c356) x354]) (Γ2 := [Blk b533 (.cells #[.int .u8 ((rd a1 x349).What), .int .i64 ((rd a1 x349).Task), .int .i64 ((rd a1 x349).Call), .int .i64 ((rd a1 x349).Answer.Err), .bool ((rd a1 x349).Answer.Found), .string (bs ((rd a1 x349).Answer.Value)), .slice A529 ((rd a1 x349).Answer.Pairs).length c530] 32 (0, 0))]) S rfl rfl ?_
                rintro _ w667 M668 Γ' hM669 E' S ⟨A661, c662, A664, c665, rfl, rfl⟩
                replace HM := Hp.le_trans HM hM669
                replace hM517 := Hp.le_trans hM517 hM669
                replace LE658 := Hp.le_trans LE658 hM669
                replace hr1 := SlR.mono hr1 hM669
                replace hb524 := hM669 _ _ hb524
                replace hs531 := SlR.mono hs531 hM669
                replace E := E.trans E'
                clear E'
                replace S : St w667 M668 F [Blk b8 (.cells #[.slice A661 t659.2.tasks.length c662, .slice A664 t659.2.l.length c665] 73 (0, 0)), Row r_event_task 70 (.slice A661 t659.2.tasks.length c662) t659.2.tasks, Row r_api_Event 32 (.slice A664 t659.2.l.length c665) t659.2.l, Blk b533 (.cells #[.int .u8 ((rd a1 x349).What), .int .i64 ((rd a1 x349).Task), .int .i64 ((rd a1 x349).Call), .int .i64 ((rd a1 x349).Answer.Err), .bool ((rd a1 x349).Answer.Found), .string (bs ((rd a1 x349).Answer.Value)), .slice A529 ((rd a1 x349).Answer.Pairs).length c530] 32 (0, 0))] := S
                refine W_yes (congrArg some hb647) ?_
                refine W_v (.bool (t659.1 != (0 : Int))) (x_ibin rfl rfl rfl rfl) rfl ?_
                refine W_v (.bool (t659.1 != (0 : Int))) (x_pick (k := false) (congrArg Value.bool hb647) rfl) rfl ?_
                refine Wl_nil ?_
                exact ⟨(t659.1 != (0 : Int)), t659.2.tasks, t659.2.l, A661, c662, A664, c665, M668, Option.some.inj H, ⟨rfl, rfl, rfl, rfl, rfl, rfl, trivial⟩, LE658, E, S.pick [2, 1, 0] (by decide)⟩
            clear o657h
            rintro ρ w670 ⟨x648, x649, x653, A650, c651, A654, c655, M671, rfl, hρ, hM672, E, S⟩
            rw [agree_eta hρ]
            clear hρ
            replace HM := Hp.le_trans HM hM672
            replace hM517 := Hp.le_trans hM517 hM672
            replace hr1 := SlR.mono hr1 hM672
            replace hb524 := hM672 _ _ hb524
            replace hs531 := SlR.mono hs531 hM672
            have H := o657H
            clear o657H
            refine Wl_nil ?_
            refine tn ?_
            rcases iteS H with ⟨hb673, H⟩ | ⟨hb673, H⟩
            · refine Wp_cond_true (congrArg Value.bool hb673) ?_
              refine Wp_seq ?_
              refine Wp_region_lit ?_
              refine W_v (.bool false) (x_assign rfl) rfl ?_
              refine Wl_nil ?_
              refine tn ?_
              refine Wp_ret ?_
              refine br (tr (tr (br (tr (tr (?_))))))
              obtain rfl := Option.some.inj H
              have H := o514H
              replace H := elimL H
              obtain rfl := Option.some.inj H
              exact ⟨_, _, _, fun w1 e1 => run_resR (vs := [.bool false]) (FA.cons (rfl) (FA.nil)), HM, E, S.pick [] (by decide), ⟨rfl, rfl⟩⟩
            refine Wp_cond_false (congrArg Value.bool hb673) ?_
            refine Wp_skip ?_
            refine bn ?_
            refine tn ?_
            refine Wp_region_lit ?_
            refine W_v (.int .i64 (IntKind.i64.wrap (x349 + (1 : Int)))) (x_ibin rfl rfl rfl rfl) rfl ?_
            refine W_v (.int .i64 (IntKind.i64.wrap (x349 + (1 : Int)))) (x_move rfl) rfl ?_
            refine Wl_nil ?_
            refine tn ?_
            exact ⟨k, Nat.lt_succ_self k, ⟨(IntKind.i64.wrap (x349 + (1 : Int))), x649, x653, A650, c651, A654, c655, M671, H, ⟨rfl, rfl, rfl, rfl, rfl, trivial⟩, hM517, E, S.pick [0, 1, 2] (by decide)⟩⟩
          refine Wp_cond_false (congrArg Value.bool hb518) ?_
          refine Wp_exit ?_
          refine tx (tx (bsm (?_)))
          refine tn ?_
          exact ⟨M516, Option.some.inj H, trivial, hM517, E, S.pick [] (by decide)⟩
    clear o514h
    rintro ρ w674 ⟨M675, rfl, hρ, hM676, E, S⟩
    rw [agree_eta hρ]
    clear hρ
    replace HM := Hp.le_trans HM hM676
    replace hr1 := SlR.mono hr1 hM676
    have H := o514H
    clear o514H
    replace H := elimR H
    refine tn ?_
    refine Wp_seq ?_
    refine Wp_region_lit ?_
    refine W_v (.bool true) (x_assign rfl) rfl ?_
    refine Wl_nil ?_
    refine tn ?_
    refine Wp_ret ?_
    obtain rfl := Option.some.inj H
    exact ⟨_, _, _, fun w1 e1 => run_resR (vs := [.bool true]) (FA.cons (rfl) (FA.nil)), HM, E, S.pick [] (by decide), ⟨rfl, rfl⟩⟩
/-! ### ferryman/event.owned: function 37 -/
def event_owned_l0 (a0 : (List api_Event)) : Nat → List api_Event → Int → Option ((List api_Event))
  | 0, _, _ => none
  | k + 1, x90, x94 => (if (decide (x94 < (a0.length : Int))) = true then (if 0 ≤ x94 ∧ x94 < (a0.length : Int) then (Option.bind (event_own k (rd a0 x94)) (fun t162 => (if x90.length + ([t162] : List api_Event).length ≤ 1759218604441 then event_owned_l0 a0 k (x90 ++ ([t162] : List api_Event)) (IntKind.i64.wrap (x94 + (1 : Int))) else none))) else none) else some (x90))
set_option maxHeartbeats 2000000 in
theorem event_owned_l0.mono {a0 : (List api_Event)} : ∀ {k : Nat} {x0 x1}, OLe (event_owned_l0 a0 k x0 x1) (event_owned_l0 a0 (k + 1) x0 x1) := by
  intro k
  induction k with
  | zero => intros; exact OLe.none
  | succ k ih =>
    intros
    rw [event_owned_l0.eq_2, event_owned_l0.eq_2]
    repeat' (first | with_reducible exact OLe.none | with_reducible exact OLe.some | with_reducible refine OLe.ite ?_ ?_ | with_reducible refine OLe.bind ?_ (fun _ => ?_) | with_reducible exact event_own.mono | exact ih | refine OLe.bind ?_ (fun _ => ?_) | refine OLe.ite ?_ ?_ | refine OLe.elim (fun _ => ?_) (fun _ => ?_) | split)
def event_owned (k : Nat) (a0 : (List api_Event)) : Option ((List api_Event)) :=
  (Option.bind (event_owned_l0 a0 k ([] : List api_Event) (0 : Int)) (fun x134 => some x134))
set_option maxHeartbeats 2000000 in
theorem event_owned.mono {k : Nat} {a0 : (List api_Event)} : OLe (event_owned k a0) (event_owned (k + 1) a0) := by
  unfold event_owned
  repeat' (first | with_reducible exact OLe.none | with_reducible exact OLe.some | with_reducible refine OLe.ite ?_ ?_ | with_reducible refine OLe.bind ?_ (fun _ => ?_) | with_reducible exact event_owned_l0.mono | refine OLe.bind ?_ (fun _ => ?_) | refine OLe.ite ?_ ?_ | refine OLe.elim (fun _ => ?_) (fun _ => ?_) | split)
set_option maxHeartbeats 1000000 in
set_option maxRecDepth 100000 in
theorem event_owned.con (k : Nat) (M : Hp) (A0 : Option Addr) (c0 : Nat) (a0 : (List api_Event)) (r : (List api_Event)) (hr0 : SlR r_api_Event M (.slice A0 a0.length c0) a0) (h : event_owned k a0 = some r) : Con Try.prog 37 #[.slice A0 a0.length c0] M [] (fun v M' Γ' => ∃ (A0 : Option Addr) (c0 : Nat), v = .slice A0 r.length c0 ∧ Γ' = [Row r_api_Event 32 (.slice A0 r.length c0) r]) := by
  refine con_of_wp Try.func37 rfl Try.ntmps37 Try.results37 rfl ?_
  intro w F rn S hrn
  have E := Ext.refl w
  have HM := Hp.le_refl M
  have H := h
  unfold event_owned at H
  refine Wp_seq ?_
  refine Wp_region_lit ?_
  refine W_v (.slice none 0 0) (x_assign rfl) rfl ?_
  refine Wl_nil ?_
  refine tn ?_
  refine Wp_seq ?_
  refine Wp_region_lit ?_
  refine W_v (.slice none 0 0) (x_assign rfl) rfl ?_
  refine Wl_nil ?_
  refine tn ?_
  refine Wp_seq ?_
  refine Wp_seq ?_
  refine Wp_region_lit ?_
  refine W_v (.slice A0 a0.length c0) (x_move rfl) rfl ?_
  refine W_v (.int .i64 (a0.length : Int)) (x_len_slice (n := a0.length) Try.underlying22 rfl) rfl ?_
  refine W_v (.int .i64 0) (x_move rfl) rfl ?_
  refine Wl_nil ?_
  refine tn ?_
  obtain ⟨o138, o138h, o138H⟩ := bindS H
  clear H
  refine Wp_blockJ (fun ρ w' => ∃ (x134 : List api_Event) (A135 : Option Addr) (c136 : Nat) (Mj : Hp), (x134) = o138 ∧ Agree ρ [(3, .slice A135 x134.length c136)] ∧ M.le Mj ∧ Ext w w' ∧ St w' Mj F [Row r_api_Event 32 (.slice A135 x134.length c136) x134]) ?_ ?_
  · skip
    refine Wp_loop (fun n ρ w' => ∃ (x90 : List api_Event) (x94 : Int) (A91 : Option Addr) (c92 : Nat) (Mj : Hp), event_owned_l0 a0 n x90 x94 = some o138 ∧ Agree ρ [(3, .slice A91 x90.length c92), (6, .slice A0 a0.length c0), (7, .int .i64 (a0.length : Int)), (8, .int .i64 x94)] ∧ M.le Mj ∧ Ext w w' ∧ St w' Mj F [Row r_api_Event 32 (.slice A91 x90.length c92) x90]) k ?_ ?_
    · skip
      replace S := S.row_nil r_api_Event 32
      exact ⟨([] : List api_Event), (0 : Int), none, 0, M, o138h, ⟨rfl, rfl, rfl, rfl, trivial⟩, (Hp.le_refl M), E, S.pick [0] (by decide)⟩
    · intro n
      rintro ρ w140 ⟨x90, x94, A91, c92, M141, H, hρ, hM142, E, S⟩
      rw [agree_eta hρ]
      clear hρ
      replace HM := Hp.le_trans HM hM142
      replace hr0 := SlR.mono hr0 hM142
      cases n with
      | zero => cases H
      | succ k =>
        rw [event_owned_l0.eq_2] at H
        refine Wp_seq ?_
        refine Wp_region_lit ?_
        refine W_v (.bool (decide (x94 < (a0.length : Int)))) (x_ibin rfl rfl rfl rfl) rfl ?_
        refine Wl_nil ?_
        refine tn ?_
        refine Wp_seq ?_
        rcases iteS H with ⟨hb143, H⟩ | ⟨hb143, H⟩
        · refine Wp_cond_true (congrArg Value.bool hb143) ?_
          refine Wp_skip ?_
          refine tn ?_
          refine Wp_seq ?_
          refine Wp_block ?_
          refine Wp_seq ?_
          refine Wp_region_lit ?_
          obtain ⟨⟨p144, p145⟩, H⟩ := chkS H
          obtain ⟨b146, o147, cs148, _, _, ee153, hb149, vs150, hR151, hc152⟩ := SlW.at' hr0 p144 p145
          obtain ⟨v157, hs156, rfl⟩ := hR151
          obtain ⟨A154, c155, rfl, _⟩ := hs156.form
          refine W_v (.pointer (some ⟨b146, o147 + x94.toNat * 7, none⟩)) (x_indexAddr Try.underlying22 ty32 (slA ee153) rfl p144 p145) rfl ?_
          refine W_v (.agg #[.int .u8 ((rd a0 x94).What), .int .i64 ((rd a0 x94).Task), .int .i64 ((rd a0 x94).Call), .int .i64 ((rd a0 x94).Answer.Err), .bool ((rd a0 x94).Answer.Found), .string (bs ((rd a0 x94).Answer.Value)), .slice A154 ((rd a0 x94).Answer.Pairs).length c155]) (x_loadA (S.frz hb149) ty32 rfl (sub_el hc152 0 rfl) rfl rfl) rfl ?_
          refine W_alloc S #[.int .u8 0, .int .i64 0, .int .i64 0, .int .i64 0, .bool false, .string (bs ([] : Str)), .slice none 0 0] ty32 rfl rfl ?_
          intro b158 w159 E' S
          replace E := E.trans E'
          clear E'
          refine W_store S 0 rfl ty32 rfl rfl [.int .u8 ((rd a0 x94).What), .int .i64 ((rd a0 x94).Task), .int .i64 ((rd a0 x94).Call), .int .i64 ((rd a0 x94).Answer.Err), .bool ((rd a0 x94).Answer.Found), .string (bs ((rd a0 x94).Answer.Value)), .slice A154 ((rd a0 x94).Answer.Pairs).length c155] rfl rfl rfl #[.int .u8 ((rd a0 x94).What), .int .i64 ((rd a0 x94).Task), .int .i64 ((rd a0 x94).Call), .int .i64 ((rd a0 x94).Answer.Err), .bool ((rd a0 x94).Answer.Found), .string (bs ((rd a0 x94).Answer.Value)), .slice A154 ((rd a0 x94).Answer.Pairs).length c155] rfl rfl ?_
          intro w161 E' S
          replace E := E.trans E'
          clear E'
          refine Wl_nil ?_
          refine tn ?_
          refine Wp_region_lit ?_
          refine W_v (.slice A91 x90.length c92) (x_move rfl) rfl ?_
          refine W_v (.agg #[.int .u8 ((rd a0 x94).What), .int .i64 ((rd a0 x94).Task), .int .i64 ((rd a0 x94).Call), .int .i64 ((rd a0 x94).Answer.Err), .bool ((rd a0 x94).Answer.Found), .string (bs ((rd a0 x94).Answer.Value)), .slice A154 ((rd a0 x94).Answer.Pairs).length c155]) (x_loadA (S.blk 0 rfl) ty32 rfl (sub_of_extract rfl) rfl rfl) rfl ?_
          obtain ⟨t162, ht163, H⟩ := bindS H
          refine W_callF fn47 (event_own.con k M141 A154 c155 (rd a0 x94) t162 hs156 ht163) S rfl rfl (by rintro _ _ _ ⟨_, _, _, rfl⟩; exact (flat_cons (flat_row (fun _ _ _ _ h => h)) flat_nil)) ?_
          rintro _ w167 _ Γ' E' S ⟨A164, c165, rfl, rfl⟩
          replace E := E.trans E'
          clear E'
          obtain ⟨M168, hM169, hf170, S⟩ := S.row_freeze 0 rfl
          replace HM := Hp.le_trans HM hM169
          replace hM142 := Hp.le_trans hM142 hM169
          replace hr0 := SlR.mono hr0 hM169
          replace hb149 := hM169 _ _ hb149
          replace hs156 := SlR.mono hs156 hM169
          refine W_bslice S #[.int .u8 t162.What, .int .i64 t162.Task, .int .i64 t162.Call, .int .i64 t162.Answer.Err, .bool t162.Answer.Found, .string (bs t162.Answer.Value), .slice A164 t162.Answer.Pairs.length c165] Try.underlying22 ty32 rfl rfl #[.int .u8 0, .int .i64 0, .int .i64 0, .int .i64 0, .bool false, .string (bs ([] : Str)), .slice none 0 0] (by kernel_rfl) (by kernel_rfl) rfl ?_
          intro b171 w172 E' S
          replace E := E.trans E'
          clear E'
          replace S := S.blk_row (r := r_api_Event) (l := ([t162] : List api_Event)) 0 rfl 1 (Nat.le_refl 1) rfl (Cells.cons (vs := [.int .u8 t162.What, .int .i64 t162.Task, .int .i64 t162.Call, .int .i64 t162.Answer.Err, .bool t162.Answer.Found, .string (bs t162.Answer.Value), .slice A164 t162.Answer.Pairs.length c165]) (⟨_, hf170, rfl⟩) Cells.nil)
          obtain ⟨p174, H⟩ := chkS H
          obtain ⟨src175, hs176, hC177⟩ := src_of_read (P := Try.prog) (ρ := r_api_Event) (l := ([t162] : List api_Event)) (S.row_read 0 rfl) (by decide)
          refine W_append S 2 rfl rfl rfl Try.underlying22 (.inl Try.underlying22) ty32 rfl (by decide) (by decide) hs176 hC177 rfl (by omega) rfl ?_
          intro v178 w179 E' S
          replace E := E.trans E'
          clear E'
          obtain ⟨A180, c181, rfl, _⟩ := (S.row_read 2 rfl).form
          refine W_v (.slice A180 (x90 ++ ([t162] : List api_Event)).length c181) (x_assign rfl) rfl ?_
          refine Wl_nil ?_
          refine bn ?_
          refine tn ?_
          refine Wp_region_lit ?_
          refine W_v (.int .i64 (IntKind.i64.wrap (x94 + (1 : Int)))) (x_ibin rfl rfl rfl rfl) rfl ?_
          refine W_v (.int .i64 (IntKind.i64.wrap (x94 + (1 : Int)))) (x_move rfl) rfl ?_
          refine Wl_nil ?_
          refine tn ?_
          exact ⟨k, Nat.lt_succ_self k, ⟨(x90 ++ ([t162] : List api_Event)), (IntKind.i64.wrap (x94 + (1 : Int))), A180, c181, M168, H, ⟨rfl, rfl, rfl, rfl, trivial⟩, hM142, E, S.pick [2] (by decide)⟩⟩
        refine Wp_cond_false (congrArg Value.bool hb143) ?_
        refine Wp_exit ?_
        refine tx (tx (bsm (?_)))
        refine tn ?_
        exact ⟨x90, A91, c92, M141, Option.some.inj H, ⟨rfl, trivial⟩, hM142, E, S.pick [0] (by decide)⟩
  clear o138h
  rintro ρ w182 ⟨x134, A135, c136, M183, rfl, hρ, hM184, E, S⟩
  rw [agree_eta hρ]
  clear hρ
  replace HM := Hp.le_trans HM hM184
  replace hr0 := SlR.mono hr0 hM184
  have H := o138H
  clear o138H
  refine tn ?_
  refine Wp_seq ?_
  refine Wp_region_lit ?_
  refine W_v (.slice A135 x134.length c136) (x_move rfl) rfl ?_
  refine W_v (.slice A135 x134.length c136) (x_assign rfl) rfl ?_
  refine Wl_nil ?_
  refine tn ?_
  refine Wp_ret ?_
  obtain rfl := Option.some.inj H
  exact ⟨_, _, _, fun w1 e1 => run_resR (vs := [.slice A135 x134.length c136]) (FA.cons (rfl) (FA.nil)), HM, E, S.pick [0] (by decide), ⟨A135, c136, rfl, rfl⟩⟩
/-! ### ferryman/event.Bare$1: function 39 -/
def event_Bare_1 (k : Nat) (a0 : api_Event) : Option (Bool) :=
  some (a0.What == (2 : Int))
set_option maxHeartbeats 2000000 in
theorem event_Bare_1.mono {k : Nat} {a0 : api_Event} : OLe (event_Bare_1 k a0) (event_Bare_1 (k + 1) a0) := by
  unfold event_Bare_1
  repeat' (first | with_reducible exact OLe.none | with_reducible exact OLe.some | with_reducible refine OLe.ite ?_ ?_ | with_reducible refine OLe.bind ?_ (fun _ => ?_) | refine OLe.bind ?_ (fun _ => ?_) | refine OLe.ite ?_ ?_ | refine OLe.elim (fun _ => ?_) (fun _ => ?_) | split)
set_option maxHeartbeats 1000000 in
set_option maxRecDepth 100000 in
theorem event_Bare_1.con (k : Nat) (M : Hp) (A0_0 : Option Addr) (c0_0 : Nat) (a0 : api_Event) (r : Bool) (hr0_0 : SlR r_api_Pair M (.slice A0_0 a0.Answer.Pairs.length c0_0) a0.Answer.Pairs) (h : event_Bare_1 k a0 = some r) : Con Try.prog 39 #[.agg #[.int .u8 a0.What, .int .i64 a0.Task, .int .i64 a0.Call, .int .i64 a0.Answer.Err, .bool a0.Answer.Found, .string (bs a0.Answer.Value), .slice A0_0 a0.Answer.Pairs.length c0_0]] M [] (fun v M' Γ' => v = .bool r ∧ Γ' = []) := by
  refine con_of_wp Try.func39 rfl Try.ntmps39 Try.results39 rfl ?_
  intro w F rn S hrn
  have E := Ext.refl w
  have HM := Hp.le_refl M
  have H := h
  unfold event_Bare_1 at H
  refine Wp_seq ?_
  refine Wp_region_lit ?_
  refine W_box S #[.int .u8 a0.What, .int .i64 a0.Task, .int .i64 a0.Call, .int .i64 a0.Answer.Err, .bool a0.Answer.Found, .string (bs a0.Answer.Value), .slice A0_0 a0.Answer.Pairs.length c0_0] rfl rfl rfl ?_
  intro b1 w2 E' S
  replace E := E.trans E'
  clear E'
  refine W_v (.bool false) (x_assign rfl) rfl ?_
  refine Wl_nil ?_
  refine tn ?_
  refine Wp_seq ?_
  refine Wp_region_lit ?_
  refine W_v (.pointer (some ⟨b1, 0, none⟩)) (x_fieldAddr (o := 0) (off := 0) Try.underlying32 rfl ty5 rfl rfl) rfl ?_
  refine W_v (.int .u8 a0.What) (x_load (S.blk 0 rfl) ty5 rfl rfl) rfl ?_
  refine W_v (.bool (a0.What == (2 : Int))) (x_ibin rfl rfl rfl rfl) rfl ?_
  refine W_v (.bool (a0.What == (2 : Int))) (x_assign rfl) rfl ?_
  refine Wl_nil ?_
  refine tn ?_
  refine Wp_ret ?_
  obtain rfl := Option.some.inj H
  exact ⟨_, _, _, fun w1 e1 => run_resR (vs := [.bool (a0.What == (2 : Int))]) (FA.cons (rfl) (FA.nil)), HM, E, S.pick [] (by decide), ⟨rfl, rfl⟩⟩
/-! ### ferryman/event.Bare$1: function 39 -/
def event_Bare_1_v (k : Nat) (a0 : api_Event) : Option (Bool) :=
  some (a0.What == (2 : Int))
set_option maxHeartbeats 2000000 in
theorem event_Bare_1_v.mono {k : Nat} {a0 : api_Event} : OLe (event_Bare_1_v k a0) (event_Bare_1_v (k + 1) a0) := by
  unfold event_Bare_1_v
  repeat' (first | with_reducible exact OLe.none | with_reducible exact OLe.some | with_reducible refine OLe.ite ?_ ?_ | with_reducible refine OLe.bind ?_ (fun _ => ?_) | refine OLe.bind ?_ (fun _ => ?_) | refine OLe.ite ?_ ?_ | refine OLe.elim (fun _ => ?_) (fun _ => ?_) | split)
set_option maxHeartbeats 1000000 in
set_option maxRecDepth 100000 in
theorem event_Bare_1_v.con (k : Nat) (M : Hp) (A0_0 : Option Addr) (c0_0 : Nat) (a0 : api_Event) (r : Bool) (hr0_0 : SlR r_api_Pair M (.slice A0_0 a0.Answer.Pairs.length c0_0) a0.Answer.Pairs) (h : event_Bare_1_v k a0 = some r) : Con Try.prog 39 #[.agg #[.int .u8 a0.What, .int .i64 a0.Task, .int .i64 a0.Call, .int .i64 a0.Answer.Err, .bool a0.Answer.Found, .string (bs a0.Answer.Value), .slice A0_0 a0.Answer.Pairs.length c0_0]] M [] (fun v M' Γ' => v = .bool r ∧ Γ' = []) := by
  refine con_of_wp Try.func39 rfl Try.ntmps39 Try.results39 rfl ?_
  intro w F rn S hrn
  have E := Ext.refl w
  have HM := Hp.le_refl M
  have H := h
  unfold event_Bare_1_v at H
  refine Wp_seq ?_
  refine Wp_region_lit ?_
  refine W_box S #[.int .u8 a0.What, .int .i64 a0.Task, .int .i64 a0.Call, .int .i64 a0.Answer.Err, .bool a0.Answer.Found, .string (bs a0.Answer.Value), .slice A0_0 a0.Answer.Pairs.length c0_0] rfl rfl rfl ?_
  intro b1 w2 E' S
  replace E := E.trans E'
  clear E'
  refine W_v (.bool false) (x_assign rfl) rfl ?_
  refine Wl_nil ?_
  refine tn ?_
  refine Wp_seq ?_
  refine Wp_region_lit ?_
  refine W_v (.pointer (some ⟨b1, 0, none⟩)) (x_fieldAddr (o := 0) (off := 0) Try.underlying32 rfl ty5 rfl rfl) rfl ?_
  refine W_v (.int .u8 a0.What) (x_load (S.blk 0 rfl) ty5 rfl rfl) rfl ?_
  refine W_v (.bool (a0.What == (2 : Int))) (x_ibin rfl rfl rfl rfl) rfl ?_
  refine W_v (.bool (a0.What == (2 : Int))) (x_assign rfl) rfl ?_
  refine Wl_nil ?_
  refine tn ?_
  refine Wp_ret ?_
  obtain rfl := Option.some.inj H
  exact ⟨_, _, _, fun w1 e1 => run_resR (vs := [.bool (a0.What == (2 : Int))]) (FA.cons (rfl) (FA.nil)), HM, E, S.pick [] (by decide), ⟨rfl, rfl⟩⟩
/-! ### slices.IndexFunc[[]ferryman/api.Event,ferryman/api.Event]: function 48 -/
def slices_IndexFunc_api_Event_api_Event_Bare_1_l0 (a0 : (List api_Event)) : Nat → Int → Option ((Int) ⊕ (Unit))
  | 0, _ => none
  | k + 1, x45 => (if (decide (x45 < (a0.length : Int))) = true then (if 0 ≤ x45 ∧ x45 < (a0.length : Int) then (Option.bind (event_Bare_1_v k (rd a0 x45)) (fun t84 => (if t84 = true then some (.inl x45) else slices_IndexFunc_api_Event_api_Event_Bare_1_l0 a0 k (IntKind.i64.wrap (x45 + (1 : Int)))))) else none) else some (.inr ()))
set_option maxHeartbeats 2000000 in
theorem slices_IndexFunc_api_Event_api_Event_Bare_1_l0.mono {a0 : (List api_Event)} : ∀ {k : Nat} {x0}, OLe (slices_IndexFunc_api_Event_api_Event_Bare_1_l0 a0 k x0) (slices_IndexFunc_api_Event_api_Event_Bare_1_l0 a0 (k + 1) x0) := by
  intro k
  induction k with
  | zero => intros; exact OLe.none
  | succ k ih =>
    intros
    rw [slices_IndexFunc_api_Event_api_Event_Bare_1_l0.eq_2, slices_IndexFunc_api_Event_api_Event_Bare_1_l0.eq_2]
    repeat' (first | with_reducible exact OLe.none | with_reducible exact OLe.some | with_reducible refine OLe.ite ?_ ?_ | with_reducible refine OLe.bind ?_ (fun _ => ?_) | with_reducible exact event_Bare_1_v.mono | exact ih | refine OLe.bind ?_ (fun _ => ?_) | refine OLe.ite ?_ ?_ | refine OLe.elim (fun _ => ?_) (fun _ => ?_) | split)
def slices_IndexFunc_api_Event_api_Event_Bare_1 (k : Nat) (a0 : (List api_Event)) : Option (Int) :=
  (Option.bind (slices_IndexFunc_api_Event_api_Event_Bare_1_l0 a0 k (0 : Int)) (fun o67o => Sum.elim (fun r' => some r') (fun _ => some (-1 : Int)) o67o))
set_option maxHeartbeats 2000000 in
theorem slices_IndexFunc_api_Event_api_Event_Bare_1.mono {k : Nat} {a0 : (List api_Event)} : OLe (slices_IndexFunc_api_Event_api_Event_Bare_1 k a0) (slices_IndexFunc_api_Event_api_Event_Bare_1 (k + 1) a0) := by
  unfold slices_IndexFunc_api_Event_api_Event_Bare_1
  repeat' (first | with_reducible exact OLe.none | with_reducible exact OLe.some | with_reducible refine OLe.ite ?_ ?_ | with_reducible refine OLe.bind ?_ (fun _ => ?_) | with_reducible exact slices_IndexFunc_api_Event_api_Event_Bare_1_l0.mono | refine OLe.bind ?_ (fun _ => ?_) | refine OLe.ite ?_ ?_ | refine OLe.elim (fun _ => ?_) (fun _ => ?_) | split)
set_option maxHeartbeats 1000000 in
set_option maxRecDepth 100000 in
theorem slices_IndexFunc_api_Event_api_Event_Bare_1.con (k : Nat) (M : Hp) (A0 : Option Addr) (c0 : Nat) (a0 : (List api_Event)) (r : Int) (hr0 : SlR r_api_Event M (.slice A0 a0.length c0) a0) (h : slices_IndexFunc_api_Event_api_Event_Bare_1 k a0 = some r) : Con Try.prog 48 #[.slice A0 a0.length c0, .func (.func 39) #[] #[]] M [] (fun v M' Γ' => v = .int .i64 r ∧ Γ' = []) := by
  refine con_of_wp Try.func48 rfl Try.ntmps48 Try.results48 rfl ?_
  intro w F rn S hrn
  have E := Ext.refl w
  have HM := Hp.le_refl M
  have H := h
  unfold slices_IndexFunc_api_Event_api_Event_Bare_1 at H
  refine Wp_seq ?_
  refine Wp_region_lit ?_
  refine W_v (.int .i64 0) (x_assign rfl) rfl ?_
  refine Wl_nil ?_
  refine tn ?_
  refine Wp_seq ?_
  refine Wp_seq ?_
  refine Wp_region_lit ?_
  refine W_v (.slice A0 a0.length c0) (x_move rfl) rfl ?_
  refine W_v (.int .i64 (a0.length : Int)) (x_len_slice (n := a0.length) Try.underlying22 rfl) rfl ?_
  refine W_v (.int .i64 0) (x_move rfl) rfl ?_
  refine Wl_nil ?_
  refine tn ?_
  obtain ⟨o67, o67h, o67H⟩ := bindS H
  clear H
  refine Wp_blockJ (fun ρ w' => .inr () = o67 ∧ Agree ρ [] ∧ Ext w w' ∧ St w' M F []) ?_ ?_
  · skip
    refine Wp_loop (fun n ρ w' => ∃ (x45 : Int), slices_IndexFunc_api_Event_api_Event_Bare_1_l0 a0 n x45 = some o67 ∧ Agree ρ [(0, .slice A0 a0.length c0), (1, .func (.func 39) #[] #[]), (7, .int .i64 (a0.length : Int)), (8, .int .i64 x45)] ∧ Ext w w' ∧ St w' M F []) k ?_ ?_
    · skip
      exact ⟨(0 : Int), o67h, ⟨rfl, rfl, rfl, rfl, trivial⟩, E, S.pick [] (by decide)⟩
    · intro n
      rintro ρ w68 ⟨x45, H, hρ, E, S⟩
      rw [agree_eta hρ]
      clear hρ
      cases n with
      | zero => cases H
      | succ k =>
        rw [slices_IndexFunc_api_Event_api_Event_Bare_1_l0.eq_2] at H
        refine Wp_seq ?_
        refine Wp_region_lit ?_
        refine W_v (.bool (decide (x45 < (a0.length : Int)))) (x_ibin rfl rfl rfl rfl) rfl ?_
        refine Wl_nil ?_
        refine tn ?_
        refine Wp_seq ?_
        rcases iteS H with ⟨hb69, H⟩ | ⟨hb69, H⟩
        · refine Wp_cond_true (congrArg Value.bool hb69) ?_
          refine Wp_skip ?_
          refine tn ?_
          refine Wp_seq ?_
          refine Wp_block ?_
          refine Wp_seq ?_
          refine Wp_region_lit ?_
          refine W_v (.int .i64 x45) (x_move rfl) rfl ?_
          refine W_v (.int .i64 x45) (x_assign rfl) rfl ?_
          refine Wl_nil ?_
          refine tn ?_
          refine Wp_seq ?_
          refine Wp_region_lit ?_
          refine W_v (.func (.func 39) #[] #[]) (x_move rfl) rfl ?_
          refine W_v (.slice A0 a0.length c0) (x_move rfl) rfl ?_
          refine W_v (.int .i64 x45) (x_move rfl) rfl ?_
          obtain ⟨⟨p70, p71⟩, H⟩ := chkS H
          obtain ⟨b72, o73, cs74, _, _, ee79, hb75, vs76, hR77, hc78⟩ := SlW.at' hr0 p70 p71
          obtain ⟨v83, hs82, rfl⟩ := hR77
          obtain ⟨A80, c81, rfl, _⟩ := hs82.form
          refine W_v (.pointer (some ⟨b72, o73 + x45.toNat * 7, none⟩)) (x_indexAddr Try.underlying22 ty32 (slA ee79) rfl p70 p71) rfl ?_
          refine W_v (.agg #[.int .u8 ((rd a0 x45).What), .int .i64 ((rd a0 x45).Task), .int .i64 ((rd a0 x45).Call), .int .i64 ((rd a0 x45).Answer.Err), .bool ((rd a0 x45).Answer.Found), .string (bs ((rd a0 x45).Answer.Value)), .slice A80 ((rd a0 x45).Answer.Pairs).length c81]) (x_loadA (S.frz hb75) ty32 rfl (sub_el hc78 0 rfl) rfl rfl) rfl ?_
          obtain ⟨t84, ht85, H⟩ := bindS H
          refine W_callvF2 (fs := []) (cap := []) fn39 rfl (event_Bare_1_v.con k M A80 c81 (rd a0 x45) t84 hs82 ht85) (Γ1 := []) (Γ2 := []) S rfl rfl (by rintro _ _ _ ⟨rfl, rfl⟩; exact flat_nil) ?_
          rintro _ w86 _ Γ' E' S ⟨rfl, rfl⟩
          replace E := E.trans E'
          clear E'
          replace S : St w86 M F [] := S
          refine Wl_nil ?_
          refine tn ?_
          rcases iteS H with ⟨hb89, H⟩ | ⟨hb89, H⟩
          · refine Wp_cond_true (congrArg Value.bool hb89) ?_
            refine Wp_seq ?_
            refine Wp_region_lit ?_
            refine W_v (.int .i64 x45) (x_move rfl) rfl ?_
            refine W_v (.int .i64 x45) (x_assign rfl) rfl ?_
            refine Wl_nil ?_
            refine tn ?_
            refine Wp_ret ?_
            refine br (tr (tr (br (tr (tr (?_))))))
            obtain rfl := Option.some.inj H
            have H := o67H
            replace H := elimL H
            obtain rfl := Option.some.inj H
            exact ⟨_, _, _, fun w1 e1 => run_resR (vs := [.int .i64 x45]) (FA.cons (rfl) (FA.nil)), HM, E, S.pick [] (by decide), ⟨rfl, rfl⟩⟩
          refine Wp_cond_false (congrArg Value.bool hb89) ?_
          refine Wp_skip ?_
          refine bn ?_
          refine tn ?_
          refine Wp_region_lit ?_
          refine W_v (.int .i64 (IntKind.i64.wrap (x45 + (1 : Int)))) (x_ibin rfl rfl rfl rfl) rfl ?_
          refine W_v (.int .i64 (IntKind.i64.wrap (x45 + (1 : Int)))) (x_move rfl) rfl ?_
          refine Wl_nil ?_
          refine tn ?_
          exact ⟨k, Nat.lt_succ_self k, ⟨(IntKind.i64.wrap (x45 + (1 : Int))), H, ⟨rfl, rfl, rfl, rfl, trivial⟩, E, S.pick [] (by decide)⟩⟩
        refine Wp_cond_false (congrArg Value.bool hb69) ?_
        refine Wp_exit ?_
        refine tx (tx (bsm (?_)))
        refine tn ?_
        exact ⟨Option.some.inj H, trivial, E, S.pick [] (by decide)⟩
  clear o67h
  rintro ρ w90 ⟨rfl, hρ, E, S⟩
  rw [agree_eta hρ]
  clear hρ
  have H := o67H
  clear o67H
  replace H := elimR H
  refine tn ?_
  refine Wp_seq ?_
  refine Wp_region_lit ?_
  refine W_v (.int .i64 (-1)) (x_assign rfl) rfl ?_
  refine Wl_nil ?_
  refine tn ?_
  refine Wp_ret ?_
  obtain rfl := Option.some.inj H
  exact ⟨_, _, _, fun w1 e1 => run_resR (vs := [.int .i64 (-1)]) (FA.cons (rfl) (FA.nil)), HM, E, S.pick [] (by decide), ⟨rfl, rfl⟩⟩
/-! ### slices.DeleteFunc[[]ferryman/api.Event,ferryman/api.Event]: function 38 -/
def slices_DeleteFunc_api_Event_api_Event_S_Bare_1_l0 : Nat → List api_Event → Int → Int → Option ((List api_Event × Int))
  | 0, _, _, _ => none
  | k + 1, x383, x387, x388 => (if (decide (x388 < (x383.length : Int))) = true then (Option.bind (α := List api_Event × Int) (if 0 ≤ x388 ∧ x388 < (x383.length : Int) then (Option.bind (event_Bare_1_v k (rd x383 x388)) (fun t690 => (Option.bind (α := List api_Event × Int) (if (!t690) = true then (if 0 ≤ x387 ∧ x387 < (x383.length : Int) then (Option.bind (α := List api_Event) (some (List.set x383 x387.toNat (rd x383 x388))) (fun x755 => some (x755, (IntKind.i64.wrap (x387 + (1 : Int)))))) else none) else some (x383, x387)) (fun ⟨x733, x737⟩ => some (x733, x737))))) else none) (fun ⟨x666, x670⟩ => slices_DeleteFunc_api_Event_api_Event_S_Bare_1_l0 k x666 x670 (IntKind.i64.wrap (x388 + (1 : Int))))) else some (x383, x387))
set_option maxHeartbeats 2000000 in
theorem slices_DeleteFunc_api_Event_api_Event_S_Bare_1_l0.mono  : ∀ {k : Nat} {x0 x1 x2}, OLe (slices_DeleteFunc_api_Event_api_Event_S_Bare_1_l0  k x0 x1 x2) (slices_DeleteFunc_api_Event_api_Event_S_Bare_1_l0  (k + 1) x0 x1 x2) := by
  intro k
  induction k with
  | zero => intros; exact OLe.none
  | succ k ih =>
    intros
    rw [slices_DeleteFunc_api_Event_api_Event_S_Bare_1_l0.eq_2, slices_DeleteFunc_api_Event_api_Event_S_Bare_1_l0.eq_2]
    repeat' (first | with_reducible exact OLe.none | with_reducible exact OLe.some | with_reducible refine OLe.ite ?_ ?_ | with_reducible refine OLe.bind ?_ (fun _ => ?_) | with_reducible exact event_Bare_1_v.mono | exact ih | refine OLe.bind ?_ (fun _ => ?_) | refine OLe.ite ?_ ?_ | refine OLe.elim (fun _ => ?_) (fun _ => ?_) | split)
def slices_DeleteFunc_api_Event_api_Event_S_Bare_1 (k : Nat) (a0 : (List api_Event)) : Option ((List api_Event)) :=
  (Option.bind (slices_IndexFunc_api_Event_api_Event_Bare_1 k a0) (fun t1 => (if (t1 == (-1 : Int)) = true then some a0 else (Option.bind (slices_DeleteFunc_api_Event_api_Event_S_Bare_1_l0 k a0 t1 (IntKind.i64.wrap (t1 + (1 : Int)))) (fun ⟨x571, x575⟩ => (if 0 ≤ x575 ∧ x575 ≤ (x571.length : Int) then (Option.bind (α := List api_Event) (some (List.take x575.toNat x571 ++ List.replicate (x571.length - x575.toNat) (⟨0, 0, 0, ⟨0, false, [], []⟩⟩ : api_Event))) (fun x764 => (if 0 ≤ x575 ∧ x575 ≤ (x764.length : Int) then some (List.take x575.toNat x764) else none))) else none))))))
set_option maxHeartbeats 2000000 in
theorem slices_DeleteFunc_api_Event_api_Event_S_Bare_1.mono {k : Nat} {a0 : (List api_Event)} : OLe (slices_DeleteFunc_api_Event_api_Event_S_Bare_1 k a0) (slices_DeleteFunc_api_Event_api_Event_S_Bare_1 (k + 1) a0) := by
  unfold slices_DeleteFunc_api_Event_api_Event_S_Bare_1
  repeat' (first | with_reducible exact OLe.none | with_reducible exact OLe.some | with_reducible refine OLe.ite ?_ ?_ | with_reducible refine OLe.bind ?_ (fun _ => ?_) | with_reducible exact slices_DeleteFunc_api_Event_api_Event_S_Bare_1_l0.mono | with_reducible exact slices_IndexFunc_api_Event_api_Event_Bare_1.mono | refine OLe.bind ?_ (fun _ => ?_) | refine OLe.ite ?_ ?_ | refine OLe.elim (fun _ => ?_) (fun _ => ?_) | split)
set_option maxHeartbeats 1000000 in
set_option maxRecDepth 100000 in
theorem slices_DeleteFunc_api_Event_api_Event_S_Bare_1.con (k : Nat) (M : Hp) (A0 : Option Addr) (c0 : Nat) (a0 : (List api_Event)) (r : (List api_Event))  (h : slices_DeleteFunc_api_Event_api_Event_S_Bare_1 k a0 = some r) : Con Try.prog 38 #[.slice A0 a0.length c0, .func (.func 39) #[] #[]] M [Row r_api_Event 32 (.slice A0 a0.length c0) a0] (fun v M' Γ' => ∃ (Aq1 : Option Addr) (cq2 : Nat), v = .slice Aq1 r.length cq2 ∧ Γ' = [Row r_api_Event 32 (.slice Aq1 r.length cq2) r]) := by
  refine con_of_wp Try.func38 rfl Try.ntmps38 Try.results38 rfl ?_
  intro w F rn S hrn
  have E := Ext.refl w
  have HM := Hp.le_refl M
  have H := h
  unfold slices_DeleteFunc_api_Event_api_Event_S_Bare_1 at H
  refine Wp_seq ?_
  refine Wp_region_lit ?_
  refine W_v (.slice none 0 0) (x_assign rfl) rfl ?_
  refine Wl_nil ?_
  refine tn ?_
  refine Wp_seq ?_
  refine Wp_region_lit ?_
  refine W_v (.slice A0 a0.length c0) (x_move rfl) rfl ?_
  refine W_v (.func (.func 39) #[] #[]) (x_move rfl) rfl ?_
  obtain ⟨t1, ht2, H⟩ := bindS H
  refine W_callLF fn48 (fun h9 hs9 hd9 => slices_IndexFunc_api_Event_api_Event_Bare_1.con k _ A0 c0 a0 t1 (Sats.row hs9 hd9 0 rfl) ht2) (Δ := [Row r_api_Event 32 (.slice A0 a0.length c0) a0]) (Γ1 := []) (Γ2 := []) S rfl rfl (by rintro _ _ _ ⟨rfl, rfl⟩; exact flat_nil) ?_
  rintro _ w3 _ Γ' E' S ⟨rfl, rfl⟩
  replace E := E.trans E'
  clear E'
  replace S : St w3 M F [Row r_api_Event 32 (.slice A0 a0.length c0) a0] := S
  refine W_v (.int .i64 t1) (x_assign rfl) rfl ?_
  refine Wl_nil ?_
  refine tn ?_
  refine Wp_seq ?_
  refine Wp_seq ?_
  refine Wp_region_lit ?_
  refine W_v (.int .i64 t1) (x_move rfl) rfl ?_
  refine W_v (.bool (t1 == (-1 : Int))) (x_ibin rfl rfl rfl rfl) rfl ?_
  refine Wl_nil ?_
  refine tn ?_
  rcases iteS H with ⟨hb6, H⟩ | ⟨hb6, H⟩
  · refine Wp_cond_true (congrArg Value.bool hb6) ?_
    refine Wp_seq ?_
    refine Wp_region_lit ?_
    refine W_v (.slice A0 a0.length c0) (x_move rfl) rfl ?_
    refine W_v (.slice A0 a0.length c0) (x_assign rfl) rfl ?_
    refine Wl_nil ?_
    refine tn ?_
    refine Wp_ret ?_
    refine tr (?_)
    obtain rfl := Option.some.inj H
    exact ⟨_, _, _, fun w1 e1 => run_resR (vs := [.slice A0 a0.length c0]) (FA.cons (rfl) (FA.nil)), HM, E, S.pick [0] (by decide), ⟨A0, c0, rfl, rfl⟩⟩
  refine Wp_cond_false (congrArg Value.bool hb6) ?_
  refine Wp_skip ?_
  refine tn ?_
  refine Wp_seq ?_
  refine Wp_seq ?_
  refine Wp_region_lit ?_
  refine W_v (.int .i64 t1) (x_move rfl) rfl ?_
  refine W_v (.int .i64 (IntKind.i64.wrap (t1 + (1 : Int)))) (x_ibin rfl rfl rfl rfl) rfl ?_
  refine W_v (.int .i64 (IntKind.i64.wrap (t1 + (1 : Int)))) (x_assign rfl) rfl ?_
  refine Wl_nil ?_
  refine tn ?_
  obtain ⟨o576, o576h, o576H⟩ := bindS H
  clear H
  refine Wp_blockJ (fun ρ w' => ∃ (x571 : List api_Event) (x575 : Int) (A572 : Option Addr) (c573 : Nat), (x571, x575) = o576 ∧ Agree ρ [(0, .slice A572 x571.length c573), (5, .int .i64 x575)] ∧ Ext w w' ∧ St w' M F [Row r_api_Event 32 (.slice A572 x571.length c573) x571]) ?_ ?_
  · skip
    refine Wp_loop (fun n ρ w' => ∃ (x383 : List api_Event) (x387 : Int) (x388 : Int) (A384 : Option Addr) (c385 : Nat), slices_DeleteFunc_api_Event_api_Event_S_Bare_1_l0 n x383 x387 x388 = some o576 ∧ Agree ρ [(0, .slice A384 x383.length c385), (1, .func (.func 39) #[] #[]), (5, .int .i64 x387), (6, .int .i64 x388)] ∧ Ext w w' ∧ St w' M F [Row r_api_Event 32 (.slice A384 x383.length c385) x383]) k ?_ ?_
    · skip
      exact ⟨a0, t1, (IntKind.i64.wrap (t1 + (1 : Int))), A0, c0, o576h, ⟨rfl, rfl, rfl, rfl, trivial⟩, E, S.pick [0] (by decide)⟩
    · intro n
      rintro ρ w577 ⟨x383, x387, x388, A384, c385, H, hρ, E, S⟩
      rw [agree_eta hρ]
      clear hρ
      cases n with
      | zero => cases H
      | succ k =>
        rw [slices_DeleteFunc_api_Event_api_Event_S_Bare_1_l0.eq_2] at H
        refine Wp_seq ?_
        refine Wp_seq ?_
        refine Wp_region_lit ?_
        refine W_v (.int .i64 x388) (x_move rfl) rfl ?_
        refine W_v (.slice A384 x383.length c385) (x_move rfl) rfl ?_
        refine W_v (.int .i64 (x383.length : Int)) (x_len_slice (n := x383.length) Try.underlying22 rfl) rfl ?_
        refine W_v (.bool (decide (x388 < (x383.length : Int)))) (x_ibin rfl rfl rfl rfl) rfl ?_
        refine Wl_nil ?_
        refine tn ?_
        rcases iteS H with ⟨hb578, H⟩ | ⟨hb578, H⟩
        · refine Wp_cond_true (congrArg Value.bool hb578) ?_
          refine Wp_skip ?_
          refine tn ?_
          refine Wp_seq ?_
          obtain ⟨o671, o671h, o671H⟩ := bindS H
          refine Wp_cut (fun ρ w' => ∃ (x666 : List api_Event) (x670 : Int) (A667 : Option Addr) (c668 : Nat), (x666, x670) = o671 ∧ Agree ρ [(0, .slice A667 x666.length c668), (1, .func (.func 39) #[] #[]), (5, .int .i64 x670), (6, .int .i64 x388)] ∧ Ext w w' ∧ St w' M F [Row r_api_Event 32 (.slice A667 x666.length c668) x666]) ?_ ?_
          · clear o671H
            have H := o671h
            clear o671h
            refine Wp_block ?_
            refine Wp_seq ?_
            refine Wp_region_lit ?_
            refine W_v (.slice A384 x383.length c385) (x_move rfl) rfl ?_
            refine W_v (.int .i64 x388) (x_move rfl) rfl ?_
            obtain ⟨⟨p672, p673⟩, H⟩ := chkS H
            obtain ⟨b674, o675, cs676, _, _, ee681, hb677, vs678, hR679, hc680⟩ := SlW.at' (S.row_read 0 rfl) p672 p673
            obtain ⟨v685, hs684, rfl⟩ := hR679
            obtain ⟨A682, c683, rfl, _⟩ := hs684.form
            refine W_v (.pointer (some ⟨b674, o675 + x388.toNat * 7, none⟩)) (x_indexAddr Try.underlying22 ty32 (slA ee681) rfl p672 p673) rfl ?_
            refine W_v (.agg #[.int .u8 ((rd x383 x388).What), .int .i64 ((rd x383 x388).Task), .int .i64 ((rd x383 x388).Call), .int .i64 ((rd x383 x388).Answer.Err), .bool ((rd x383 x388).Answer.Found), .string (bs ((rd x383 x388).Answer.Value)), .slice A682 ((rd x383 x388).Answer.Pairs).length c683]) (x_loadA (Hp.of_get hb677) ty32 rfl (sub_el hc680 0 rfl) rfl rfl) rfl ?_
            refine W_alloc S #[.int .u8 0, .int .i64 0, .int .i64 0, .int .i64 0, .bool false, .string (bs ([] : Str)), .slice none 0 0] ty32 rfl rfl ?_
            intro b686 w687 E' S
            replace E := E.trans E'
            clear E'
            refine W_store S 0 rfl ty32 rfl rfl [.int .u8 ((rd x383 x388).What), .int .i64 ((rd x383 x388).Task), .int .i64 ((rd x383 x388).Call), .int .i64 ((rd x383 x388).Answer.Err), .bool ((rd x383 x388).Answer.Found), .string (bs ((rd x383 x388).Answer.Value)), .slice A682 ((rd x383 x388).Answer.Pairs).length c683] rfl rfl rfl #[.int .u8 ((rd x383 x388).What), .int .i64 ((rd x383 x388).Task), .int .i64 ((rd x383 x388).Call), .int .i64 ((rd x383 x388).Answer.Err), .bool ((rd x383 x388).Answer.Found), .string (bs ((rd x383 x388).Answer.Value)), .slice A682 ((rd x383 x388).Answer.Pairs).length c683] rfl rfl ?_
            intro w689 E' S
            replace E := E.trans E'
            clear E'
            refine Wl_nil ?_
            refine tn ?_
            refine Wp_seq ?_
            refine Wp_region_lit ?_
            refine W_v (.func (.func 39) #[] #[]) (x_move rfl) rfl ?_
            refine W_v (.agg #[.int .u8 ((rd x383 x388).What), .int .i64 ((rd x383 x388).Task), .int .i64 ((rd x383 x388).Call), .int .i64 ((rd x383 x388).Answer.Err), .bool ((rd x383 x388).Answer.Found), .string (bs ((rd x383 x388).Answer.Value)), .slice A682 ((rd x383 x388).Answer.Pairs).length c683]) (x_loadA (S.blk 0 rfl) ty32 rfl (sub_of_extract rfl) rfl rfl) rfl ?_
            obtain ⟨t690, ht691, H⟩ := bindS H
            refine W_callvF2 (fs := []) (cap := []) fn39 rfl (event_Bare_1_v.con k M A682 c683 (rd x383 x388) t690 hs684 ht691) (Γ1 := []) (Γ2 := [Blk b686 (.cells #[.int .u8 ((rd x383 x388).What), .int .i64 ((rd x383 x388).Task), .int .i64 ((rd x383 x388).Call), .int .i64 ((rd x383 x388).Answer.Err), .bool ((rd x383 x388).Answer.Found), .string (bs ((rd x383 x388).Answer.Value)), .slice A682 ((rd x383 x388).Answer.Pairs).length c683] 32 (0, 0)), Row r_api_Event 32 (.slice A384 x383.length c385) x383]) S rfl rfl (by rintro _ _ _ ⟨rfl, rfl⟩; exact flat_nil) ?_
            rintro _ w692 _ Γ' E' S ⟨rfl, rfl⟩
            replace E := E.trans E'
            clear E'
            replace S : St w692 M F [Blk b686 (.cells #[.int .u8 ((rd x383 x388).What), .int .i64 ((rd x383 x388).Task), .int .i64 ((rd x383 x388).Call), .int .i64 ((rd x383 x388).Answer.Err), .bool ((rd x383 x388).Answer.Found), .string (bs ((rd x383 x388).Answer.Value)), .slice A682 ((rd x383 x388).Answer.Pairs).length c683] 32 (0, 0)), Row r_api_Event 32 (.slice A384 x383.length c385) x383] := S
            refine W_v (.bool (!t690)) (x_not rfl) rfl ?_
            refine Wl_nil ?_
            refine tn ?_
            obtain ⟨o738, o738h, o738H⟩ := bindS H
            refine Wp_cut (fun ρ w' => ∃ (x733 : List api_Event) (x737 : Int) (A734 : Option Addr) (c735 : Nat), (x733, x737) = o738 ∧ Agree ρ [(0, .slice A734 x733.length c735), (1, .func (.func 39) #[] #[]), (5, .int .i64 x737), (6, .int .i64 x388)] ∧ Ext w w' ∧ St w' M F [Row r_api_Event 32 (.slice A734 x733.length c735) x733]) ?_ ?_
            · clear o738H
              have H := o738h
              clear o738h
              rcases iteS H with ⟨hb739, H⟩ | ⟨hb739, H⟩
              · refine Wp_cond_true (congrArg Value.bool hb739) ?_
                refine Wp_seq ?_
                refine Wp_region_lit ?_
                refine W_v (.slice A384 x383.length c385) (x_move rfl) rfl ?_
                refine W_v (.int .i64 x387) (x_move rfl) rfl ?_
                refine W_v (.agg #[.int .u8 ((rd x383 x388).What), .int .i64 ((rd x383 x388).Task), .int .i64 ((rd x383 x388).Call), .int .i64 ((rd x383 x388).Answer.Err), .bool ((rd x383 x388).Answer.Found), .string (bs ((rd x383 x388).Answer.Value)), .slice A682 ((rd x383 x388).Answer.Pairs).length c683]) (x_loadA (S.blk 0 rfl) ty32 rfl (sub_of_extract rfl) rfl rfl) rfl ?_
                obtain ⟨⟨p740, p741⟩, H⟩ := chkS H
                obtain ⟨b742, o743, cs744, _, _, ee749, hb745, vs746, hR747, hc748⟩ := SlW.at' (S.row_read 1 rfl) p740 p741
                obtain ⟨v753, hs752, rfl⟩ := hR747
                obtain ⟨A750, c751, rfl, _⟩ := hs752.form
                refine W_v (.pointer (some ⟨b742, o743 + x387.toNat * 7, none⟩)) (x_indexAddr Try.underlying22 ty32 (slA ee749) rfl p740 p741) rfl ?_
                obtain ⟨x755, he756, H⟩ := bindS H
                replace he756 := Option.some.inj he756
                refine W_rowstore S 1 rfl rfl ee749 (by first | exact p740 | simpa using p740) (by first | exact p741 | simpa using p741) 0 ty32 rfl rfl [.int .u8 ((rd x383 x388).What), .int .i64 ((rd x383 x388).Task), .int .i64 ((rd x383 x388).Call), .int .i64 ((rd x383 x388).Answer.Err), .bool ((rd x383 x388).Answer.Found), .string (bs ((rd x383 x388).Answer.Value)), .slice A682 ((rd x383 x388).Answer.Pairs).length c683] rfl rfl rfl rfl (rd x383 x388) (by rintro _ ⟨_, h6, rfl⟩; exact ⟨_, hs684, rfl⟩) he756 ?_
                intro w754 E' S
                replace E := E.trans E'
                clear E'
                have hs757 : Value.slice A384 x383.length c385 = Value.slice A384 x755.length c385 := by rw [← he756, List.length_set]
                try rw [hs757] at S
                try rw [hs757]
                clear hs757
                refine Wl_nil ?_
                refine tn ?_
                refine Wp_region_lit ?_
                refine W_v (.int .i64 x387) (x_move rfl) rfl ?_
                refine W_v (.int .i64 (IntKind.i64.wrap (x387 + (1 : Int)))) (x_ibin rfl rfl rfl rfl) rfl ?_
                refine W_v (.int .i64 (IntKind.i64.wrap (x387 + (1 : Int)))) (x_assign rfl) rfl ?_
                refine Wl_nil ?_
                refine tn ?_
                exact ⟨x755, (IntKind.i64.wrap (x387 + (1 : Int))), A384, c385, Option.some.inj H, ⟨rfl, rfl, rfl, rfl, trivial⟩, E, S.pick [1] (by decide)⟩
              refine Wp_cond_false (congrArg Value.bool hb739) ?_
              refine Wp_skip ?_
              refine tn ?_
              exact ⟨x383, x387, A384, c385, Option.some.inj H, ⟨rfl, rfl, rfl, rfl, trivial⟩, E, S.pick [1] (by decide)⟩
            clear o738h
            rintro ρ w758 ⟨x733, x737, A734, c735, rfl, hρ, E, S⟩
            rw [agree_eta hρ]
            clear hρ
            have H := o738H
            clear o738H
            refine bn ?_
            refine tn ?_
            exact ⟨x733, x737, A734, c735, Option.some.inj H, ⟨rfl, rfl, rfl, rfl, trivial⟩, E, S.pick [0] (by decide)⟩
          clear o671h
          rintro ρ w759 ⟨x666, x670, A667, c668, rfl, hρ, E, S⟩
          rw [agree_eta hρ]
          clear hρ
          have H := o671H
          clear o671H
          refine tn ?_
          refine Wp_region_lit ?_
          refine W_v (.int .i64 x388) (x_move rfl) rfl ?_
          refine W_v (.int .i64 (IntKind.i64.wrap (x388 + (1 : Int)))) (x_ibin rfl rfl rfl rfl) rfl ?_
          refine W_v (.int .i64 (IntKind.i64.wrap (x388 + (1 : Int)))) (x_assign rfl) rfl ?_
          refine Wl_nil ?_
          refine tn ?_
          exact ⟨k, Nat.lt_succ_self k, ⟨x666, x670, (IntKind.i64.wrap (x388 + (1 : Int))), A667, c668, H, ⟨rfl, rfl, rfl, rfl, trivial⟩, E, S.pick [0] (by decide)⟩⟩
        refine Wp_cond_false (congrArg Value.bool hb578) ?_
        refine Wp_exit ?_
        refine tx (tx (bsm (?_)))
        refine tn ?_
        exact ⟨x383, x387, A384, c385, Option.some.inj H, ⟨rfl, rfl, trivial⟩, E, S.pick [0] (by decide)⟩
  clear o576h
  rintro ρ w760 ⟨x571, x575, A572, c573, rfl, hρ, E, S⟩
  rw [agree_eta hρ]
  clear hρ
  have H := o576H
  clear o576H
  refine tn ?_
  refine Wp_seq ?_
  refine Wp_region_lit ?_
  refine W_v (.slice A572 x571.length c573) (x_move rfl) rfl ?_
  refine W_v (.int .i64 x575) (x_move rfl) rfl ?_
  obtain ⟨⟨p761, p762⟩, H⟩ := chkS H
  refine W_v (.slice (if c573 = x575.toNat then A572 else Option.map (fun x => x.add (x575.toNat * 7)) A572) (x571.length - x575.toNat) (c573 - x575.toNat)) (x_slice_lo Try.underlying22 ty32 rfl rfl p761 (by omega)) rfl ?_
  obtain ⟨x764, he765, H⟩ := bindS H
  replace he765 := Option.some.inj he765
  refine W_rowclear (i := x575) (⟨0, 0, 0, ⟨0, false, [], []⟩⟩ : api_Event) S 0 rfl p761 p762 Try.underlying22 ty32 rfl (by decide) (fun _ => ⟨_, SlW.nil _ _, rfl⟩) he765 rfl ?_
  intro w763 E' S
  replace E := E.trans E'
  clear E'
  have hs766 : Value.slice A572 x571.length c573 = Value.slice A572 x764.length c573 := by rw [← he765]; congr 1; simp only [List.length_append, List.length_take, List.length_replicate]; omega
  try rw [hs766] at S
  try rw [hs766]
  clear hs766
  refine Wl_nil ?_
  refine tn ?_
  refine Wp_seq ?_
  refine Wp_region_lit ?_
  refine W_v (.slice A572 x764.length c573) (x_move rfl) rfl ?_
  refine W_v (.int .i64 x575) (x_move rfl) rfl ?_
  obtain ⟨⟨p767, p768⟩, H⟩ := chkS H
  have hx769 := @slW_hi _ _ _ _ _ _ _ _ _ (S.row_read 0 rfl) p767 p768
  replace S := S.row_take 0 rfl x575.toNat (by omega)
  replace S : St w763 M F [Row r_api_Event 32 (.slice A572 (List.take x575.toNat x764).length c573) (List.take x575.toNat x764)] := S
  refine W_v (.slice A572 (List.take x575.toNat x764).length c573) (hx769 Try.underlying22 ty32 rfl rfl) rfl ?_
  refine W_v (.slice A572 (List.take x575.toNat x764).length c573) (x_assign rfl) rfl ?_
  refine Wl_nil ?_
  refine tn ?_
  refine Wp_ret ?_
  obtain rfl := Option.some.inj H
  exact ⟨_, _, _, fun w1 e1 => run_resR (vs := [.slice A572 (List.take x575.toNat x764).length c573]) (FA.cons (rfl) (FA.nil)), HM, E, S.pick [0] (by decide), ⟨A572, c573, rfl, rfl⟩⟩
/-! ### ferryman/event.Bare: function 23 -/
def event_Bare (k : Nat) (a0 : (List api_Event)) : Option ((List api_Event)) :=
  (Option.bind (event_owned k a0) (fun t1 => (Option.bind (slices_DeleteFunc_api_Event_api_Event_S_Bare_1 k t1) (fun t9 => some t9))))
set_option maxHeartbeats 2000000 in
theorem event_Bare.mono {k : Nat} {a0 : (List api_Event)} : OLe (event_Bare k a0) (event_Bare (k + 1) a0) := by
  unfold event_Bare
  repeat' (first | with_reducible exact OLe.none | with_reducible exact OLe.some | with_reducible refine OLe.ite ?_ ?_ | with_reducible refine OLe.bind ?_ (fun _ => ?_) | with_reducible exact event_owned.mono | with_reducible exact slices_DeleteFunc_api_Event_api_Event_S_Bare_1.mono | refine OLe.bind ?_ (fun _ => ?_) | refine OLe.ite ?_ ?_ | refine OLe.elim (fun _ => ?_) (fun _ => ?_) | split)
set_option maxHeartbeats 1000000 in
set_option maxRecDepth 100000 in
theorem event_Bare.con (k : Nat) (M : Hp) (A0 : Option Addr) (c0 : Nat) (a0 : (List api_Event)) (r : (List api_Event)) (hr0 : SlR r_api_Event M (.slice A0 a0.length c0) a0) (h : event_Bare k a0 = some r) : Con Try.prog 23 #[.slice A0 a0.length c0] M [] (fun v M' Γ' => ∃ (A0 : Option Addr) (c0 : Nat), v = .slice A0 r.length c0 ∧ Γ' = [Row r_api_Event 32 (.slice A0 r.length c0) r]) := by
  refine con_of_wp Try.func23 rfl Try.ntmps23 Try.results23 rfl ?_
  intro w F rn S hrn
  have E := Ext.refl w
  have HM := Hp.le_refl M
  have H := h
  unfold event_Bare at H
  refine Wp_seq ?_
  refine Wp_region_lit ?_
  refine W_v (.slice none 0 0) (x_assign rfl) rfl ?_
  refine Wl_nil ?_
  refine tn ?_
  refine Wp_seq ?_
  refine Wp_region_lit ?_
  refine W_v (.slice A0 a0.length c0) (x_move rfl) rfl ?_
  obtain ⟨t1, ht2, H⟩ := bindS H
  refine W_call fn37 (event_owned.con k M A0 c0 a0 t1 hr0 ht2) (Γ1 := []) (Γ2 := []) S rfl rfl ?_
  rintro _ w6 M7 Γ' hM8 E' S ⟨A3, c4, rfl, rfl⟩
  replace HM := Hp.le_trans HM hM8
  replace hr0 := SlR.mono hr0 hM8
  replace E := E.trans E'
  clear E'
  obtain ⟨t9, ht10, H⟩ := bindS H
  refine W_call fn38 (slices_DeleteFunc_api_Event_api_Event_S_Bare_1.con k M7 A3 c4 t1 t9  ht10) (Γ1 := [Row r_api_Event 32 (.slice A3 t1.length c4) t1]) (Γ2 := []) S rfl rfl ?_
  rintro _ w14 M15 Γ' hM16 E' S ⟨A11, c12, rfl, rfl⟩
  replace HM := Hp.le_trans HM hM16
  replace hr0 := SlR.mono hr0 hM16
  replace E := E.trans E'
  clear E'
  replace S : St w14 M15 F [Row r_api_Event 32 (.slice A11 t9.length c12) t9] := S
  refine W_v (.slice A11 t9.length c12) (x_assign rfl) rfl ?_
  refine Wl_nil ?_
  refine tn ?_
  refine Wp_ret ?_
  obtain rfl := Option.some.inj H
  exact ⟨_, _, _, fun w1 e1 => run_resR (vs := [.slice A11 t9.length c12]) (FA.cons (rfl) (FA.nil)), HM, E, S.pick [0] (by decide), ⟨A11, c12, rfl, rfl⟩⟩
/-! ### ferryman/event.Without$1: function 40 -/
def event_Without_1_K (k : Nat) (a0 : api_Event) (ac_0 : (List (event_Place × Int))) : Option (Bool) :=
  some (decide (((mget ac_0 (⟨(a0.Task), (a0.Call)⟩ : event_Place)).getD (0 : Int)) > (0 : Int)))
set_option maxHeartbeats 2000000 in
theorem event_Without_1_K.mono {k : Nat} {a0 : api_Event} {ac_0 : (List (event_Place × Int))} : OLe (event_Without_1_K k a0 ac_0) (event_Without_1_K (k + 1) a0 ac_0) := by
  unfold event_Without_1_K
  repeat' (first | with_reducible exact OLe.none | with_reducible exact OLe.some | with_reducible refine OLe.ite ?_ ?_ | with_reducible refine OLe.bind ?_ (fun _ => ?_) | refine OLe.bind ?_ (fun _ => ?_) | refine OLe.ite ?_ ?_ | refine OLe.elim (fun _ => ?_) (fun _ => ?_) | split)
set_option maxHeartbeats 1000000 in
set_option maxRecDepth 100000 in
theorem event_Without_1_K.con (k : Nat) (M : Hp) (A0_0 : Option Addr) (c0_0 : Nat) (a0 : api_Event) (Ac_0 : Option Addr) (ac_0 : (List (event_Place × Int))) (bc_0 : Nat) (r : Bool) (hr0_0 : SlR r_api_Pair M (.slice A0_0 a0.Answer.Pairs.length c0_0) a0.Answer.Pairs) (h : event_Without_1_K k a0 ac_0 = some r) : Con Try.prog 40 #[.agg #[.int .u8 a0.What, .int .i64 a0.Task, .int .i64 a0.Call, .int .i64 a0.Answer.Err, .bool a0.Answer.Found, .string (bs a0.Answer.Value), .slice A0_0 a0.Answer.Pairs.length c0_0], .pointer (some ⟨bc_0, 0, none⟩)] M [Blk bc_0 (.cells #[.map (mb Ac_0)] 80 (0, 0)), MapC enc_event_Place (Value.int .i64) Ac_0 ac_0] (fun v M' Γ' => v = .bool r ∧ Γ' = [Blk bc_0 (.cells #[.map (mb Ac_0)] 80 (0, 0)), MapC enc_event_Place (Value.int .i64) Ac_0 ac_0]) := by
  refine con_of_wp Try.func40 rfl Try.ntmps40 Try.results40 rfl ?_
  intro w F rn S hrn
  have E := Ext.refl w
  have HM := Hp.le_refl M
  have H := h
  unfold event_Without_1_K at H
  refine Wp_seq ?_
  refine Wp_region_lit ?_
  refine W_box S #[.int .u8 a0.What, .int .i64 a0.Task, .int .i64 a0.Call, .int .i64 a0.Answer.Err, .bool a0.Answer.Found, .string (bs a0.Answer.Value), .slice A0_0 a0.Answer.Pairs.length c0_0] rfl rfl rfl ?_
  intro b1 w2 E' S
  replace E := E.trans E'
  clear E'
  refine W_v (.bool false) (x_assign rfl) rfl ?_
  refine Wl_nil ?_
  refine tn ?_
  refine Wp_seq ?_
  refine Wp_region_lit ?_
  refine W_v (.map (mb Ac_0)) (x_load (S.blk 1 rfl) ty80 rfl rfl) rfl ?_
  refine W_v (.pointer (some ⟨b1, 1, none⟩)) (x_fieldAddr (o := 0) (off := 1) Try.underlying32 rfl ty3 rfl rfl) rfl ?_
  refine W_v (.int .i64 a0.Task) (x_load (S.blk 0 rfl) ty3 rfl rfl) rfl ?_
  refine W_v (.pointer (some ⟨b1, 2, none⟩)) (x_fieldAddr (o := 0) (off := 2) Try.underlying32 rfl ty3 rfl rfl) rfl ?_
  refine W_v (.int .i64 a0.Call) (x_load (S.blk 0 rfl) ty3 rfl rfl) rfl ?_
  refine W_v (.agg #[.int .i64 (a0.Task), .int .i64 (a0.Call)]) (x_build2 (pl := [(0, 1), (1, 1)]) #[.int .i64 (a0.Task), .int .i64 (a0.Call)] Try.underlying62 ty62 (by kernel_rfl) rfl (by kernel_rfl)) rfl ?_
  refine W_v (.int .i64 ((mget ac_0 (⟨(a0.Task), (a0.Call)⟩ : event_Place)).getD (0 : Int))) (x_lookup S 2 rfl Try.underlying80 key62 (0 : Int) (fun _ => ty3.zero) (⟨(a0.Task), (a0.Call)⟩ : event_Place) rfl rfl) rfl ?_
  refine W_v (.bool (decide (((mget ac_0 (⟨(a0.Task), (a0.Call)⟩ : event_Place)).getD (0 : Int)) > (0 : Int)))) (x_ibin rfl rfl rfl rfl) rfl ?_
  refine W_v (.bool (decide (((mget ac_0 (⟨(a0.Task), (a0.Call)⟩ : event_Place)).getD (0 : Int)) > (0 : Int)))) (x_assign rfl) rfl ?_
  refine Wl_nil ?_
  refine tn ?_
  refine Wp_ret ?_
  obtain rfl := Option.some.inj H
  exact ⟨_, _, _, fun w1 e1 => run_resR (vs := [.bool (decide (((mget ac_0 (⟨(a0.Task), (a0.Call)⟩ : event_Place)).getD (0 : Int)) > (0 : Int)))]) (FA.cons (rfl) (FA.nil)), HM, E, S.pick [1, 2] (by decide), ⟨rfl, rfl⟩⟩
/-! ### slices.IndexFunc[[]ferryman/api.Event,ferryman/api.Event]: function 48 -/
def slices_IndexFunc_api_Event_api_Event_Without_1_K_l0 (a0 : (List api_Event)) (a1_0 : (List (event_Place × Int))) : Nat → Int → Option ((Int) ⊕ (Unit))
  | 0, _ => none
  | k + 1, x45 => (if (decide (x45 < (a0.length : Int))) = true then (if 0 ≤ x45 ∧ x45 < (a0.length : Int) then (Option.bind (event_Without_1_K k (rd a0 x45) a1_0) (fun t84 => (if t84 = true then some (.inl x45) else slices_IndexFunc_api_Event_api_Event_Without_1_K_l0 a0 a1_0 k (IntKind.i64.wrap (x45 + (1 : Int)))))) else none) else some (.inr ()))
set_option maxHeartbeats 2000000 in
theorem slices_IndexFunc_api_Event_api_Event_Without_1_K_l0.mono {a0 : (List api_Event)} {a1_0 : (List (event_Place × Int))} : ∀ {k : Nat} {x0}, OLe (slices_IndexFunc_api_Event_api_Event_Without_1_K_l0 a0 a1_0 k x0) (slices_IndexFunc_api_Event_api_Event_Without_1_K_l0 a0 a1_0 (k + 1) x0) := by
  intro k
  induction k with
  | zero => intros; exact OLe.none
  | succ k ih =>
    intros
    rw [slices_IndexFunc_api_Event_api_Event_Without_1_K_l0.eq_2, slices_IndexFunc_api_Event_api_Event_Without_1_K_l0.eq_2]
    repeat' (first | with_reducible exact OLe.none | with_reducible exact OLe.some | with_reducible refine OLe.ite ?_ ?_ | with_reducible refine OLe.bind ?_ (fun _ => ?_) | with_reducible exact event_Without_1_K.mono | exact ih | refine OLe.bind ?_ (fun _ => ?_) | refine OLe.ite ?_ ?_ | refine OLe.elim (fun _ => ?_) (fun _ => ?_) | split)
def slices_IndexFunc_api_Event_api_Event_Without_1_K (k : Nat) (a0 : (List api_Event)) (a1_0 : (List (event_Place × Int))) : Option (Int) :=
  (Option.bind (slices_IndexFunc_api_Event_api_Event_Without_1_K_l0 a0 a1_0 k (0 : Int)) (fun o67o => Sum.elim (fun r' => some r') (fun _ => some (-1 : Int)) o67o))
set_option maxHeartbeats 2000000 in
theorem slices_IndexFunc_api_Event_api_Event_Without_1_K.mono {k : Nat} {a0 : (List api_Event)} {a1_0 : (List (event_Place × Int))} : OLe (slices_IndexFunc_api_Event_api_Event_Without_1_K k a0 a1_0) (slices_IndexFunc_api_Event_api_Event_Without_1_K (k + 1) a0 a1_0) := by
  unfold slices_IndexFunc_api_Event_api_Event_Without_1_K
  repeat' (first | with_reducible exact OLe.none | with_reducible exact OLe.some | with_reducible refine OLe.ite ?_ ?_ | with_reducible refine OLe.bind ?_ (fun _ => ?_) | with_reducible exact slices_IndexFunc_api_Event_api_Event_Without_1_K_l0.mono | refine OLe.bind ?_ (fun _ => ?_) | refine OLe.ite ?_ ?_ | refine OLe.elim (fun _ => ?_) (fun _ => ?_) | split)
set_option maxHeartbeats 1000000 in
set_option maxRecDepth 100000 in
theorem slices_IndexFunc_api_Event_api_Event_Without_1_K.con (k : Nat) (M : Hp) (A0 : Option Addr) (c0 : Nat) (a0 : (List api_Event)) (A1_0 : Option Addr) (a1_0 : (List (event_Place × Int))) (b1_0 : Nat) (r : Int) (hr0 : SlR r_api_Event M (.slice A0 a0.length c0) a0) (h : slices_IndexFunc_api_Event_api_Event_Without_1_K k a0 a1_0 = some r) : Con Try.prog 48 #[.slice A0 a0.length c0, .func (.func 40) #[] #[.pointer (some ⟨b1_0, 0, none⟩)]] M [Blk b1_0 (.cells #[.map (mb A1_0)] 80 (0, 0)), MapC enc_event_Place (Value.int .i64) A1_0 a1_0] (fun v M' Γ' => v = .int .i64 r ∧ Γ' = [Blk b1_0 (.cells #[.map (mb A1_0)] 80 (0, 0)), MapC enc_event_Place (Value.int .i64) A1_0 a1_0]) := by
  refine con_of_wp Try.func48 rfl Try.ntmps48 Try.results48 rfl ?_
  intro w F rn S hrn
  have E := Ext.refl w
  have HM := Hp.le_refl M
  have H := h
  unfold slices_IndexFunc_api_Event_api_Event_Without_1_K at H
  refine Wp_seq ?_
  refine Wp_region_lit ?_
  refine W_v (.int .i64 0) (x_assign rfl) rfl ?_
  refine Wl_nil ?_
  refine tn ?_
  refine Wp_seq ?_
  refine Wp_seq ?_
  refine Wp_region_lit ?_
  refine W_v (.slice A0 a0.length c0) (x_move rfl) rfl ?_
  refine W_v (.int .i64 (a0.length : Int)) (x_len_slice (n := a0.length) Try.underlying22 rfl) rfl ?_
  refine W_v (.int .i64 0) (x_move rfl) rfl ?_
  refine Wl_nil ?_
  refine tn ?_
  obtain ⟨o67, o67h, o67H⟩ := bindS H
  clear H
  refine Wp_blockJ (fun ρ w' => .inr () = o67 ∧ Agree ρ [] ∧ Ext w w' ∧ St w' M F [Blk b1_0 (.cells #[.map (mb A1_0)] 80 (0, 0)), MapC enc_event_Place (Value.int .i64) A1_0 a1_0]) ?_ ?_
  · skip
    refine Wp_loop (fun n ρ w' => ∃ (x45 : Int), slices_IndexFunc_api_Event_api_Event_Without_1_K_l0 a0 a1_0 n x45 = some o67 ∧ Agree ρ [(0, .slice A0 a0.length c0), (1, .func (.func 40) #[] #[.pointer (some ⟨b1_0, 0, none⟩)]), (7, .int .i64 (a0.length : Int)), (8, .int .i64 x45)] ∧ Ext w w' ∧ St w' M F [Blk b1_0 (.cells #[.map (mb A1_0)] 80 (0, 0)), MapC enc_event_Place (Value.int .i64) A1_0 a1_0]) k ?_ ?_
    · skip
      exact ⟨(0 : Int), o67h, ⟨rfl, rfl, rfl, rfl, trivial⟩, E, S.pick [0, 1] (by decide)⟩
    · intro n
      rintro ρ w68 ⟨x45, H, hρ, E, S⟩
      rw [agree_eta hρ]
      clear hρ
      cases n with
      | zero => cases H
      | succ k =>
        rw [slices_IndexFunc_api_Event_api_Event_Without_1_K_l0.eq_2] at H
        refine Wp_seq ?_
        refine Wp_region_lit ?_
        refine W_v (.bool (decide (x45 < (a0.length : Int)))) (x_ibin rfl rfl rfl rfl) rfl ?_
        refine Wl_nil ?_
        refine tn ?_
        refine Wp_seq ?_
        rcases iteS H with ⟨hb69, H⟩ | ⟨hb69, H⟩
        · refine Wp_cond_true (congrArg Value.bool hb69) ?_
          refine Wp_skip ?_
          refine tn ?_
          refine Wp_seq ?_
          refine Wp_block ?_
          refine Wp_seq ?_
          refine Wp_region_lit ?_
          refine W_v (.int .i64 x45) (x_move rfl) rfl ?_
          refine W_v (.int .i64 x45) (x_assign rfl) rfl ?_
          refine Wl_nil ?_
          refine tn ?_
          refine Wp_seq ?_
          refine Wp_region_lit ?_
          refine W_v (.func (.func 40) #[] #[.pointer (some ⟨b1_0, 0, none⟩)]) (x_move rfl) rfl ?_
          refine W_v (.slice A0 a0.length c0) (x_move rfl) rfl ?_
          refine W_v (.int .i64 x45) (x_move rfl) rfl ?_
          obtain ⟨⟨p70, p71⟩, H⟩ := chkS H
          obtain ⟨b72, o73, cs74, _, _, ee79, hb75, vs76, hR77, hc78⟩ := SlW.at' hr0 p70 p71
          obtain ⟨v83, hs82, rfl⟩ := hR77
          obtain ⟨A80, c81, rfl, _⟩ := hs82.form
          refine W_v (.pointer (some ⟨b72, o73 + x45.toNat * 7, none⟩)) (x_indexAddr Try.underlying22 ty32 (slA ee79) rfl p70 p71) rfl ?_
          refine W_v (.agg #[.int .u8 ((rd a0 x45).What), .int .i64 ((rd a0 x45).Task), .int .i64 ((rd a0 x45).Call), .int .i64 ((rd a0 x45).Answer.Err), .bool ((rd a0 x45).Answer.Found), .string (bs ((rd a0 x45).Answer.Value)), .slice A80 ((rd a0 x45).Answer.Pairs).length c81]) (x_loadA (S.frz hb75) ty32 rfl (sub_el hc78 0 rfl) rfl rfl) rfl ?_
          obtain ⟨t84, ht85, H⟩ := bindS H
          refine W_callvF2 (fs := []) (cap := [.pointer (some ⟨b1_0, 0, none⟩)]) fn40 rfl (event_Without_1_K.con k M A80 c81 (rd a0 x45) A1_0 a1_0 b1_0 t84 hs82 ht85) (Γ1 := [Blk b1_0 (.cells #[.map (mb A1_0)] 80 (0, 0)), MapC enc_event_Place (Value.int .i64) A1_0 a1_0]) (Γ2 := []) S rfl rfl (by rintro _ _ _ ⟨rfl, rfl⟩; exact (flat_cons flat_blk (flat_cons flat_map flat_nil))) ?_
          rintro _ w86 _ Γ' E' S ⟨rfl, rfl⟩
          replace E := E.trans E'
          clear E'
          replace S : St w86 M F [Blk b1_0 (.cells #[.map (mb A1_0)] 80 (0, 0)), MapC enc_event_Place (Value.int .i64) A1_0 a1_0] := S
          refine Wl_nil ?_
          refine tn ?_
          rcases iteS H with ⟨hb89, H⟩ | ⟨hb89, H⟩
          · refine Wp_cond_true (congrArg Value.bool hb89) ?_
            refine Wp_seq ?_
            refine Wp_region_lit ?_
            refine W_v (.int .i64 x45) (x_move rfl) rfl ?_
            refine W_v (.int .i64 x45) (x_assign rfl) rfl ?_
            refine Wl_nil ?_
            refine tn ?_
            refine Wp_ret ?_
            refine br (tr (tr (br (tr (tr (?_))))))
            obtain rfl := Option.some.inj H
            have H := o67H
            replace H := elimL H
            obtain rfl := Option.some.inj H
            exact ⟨_, _, _, fun w1 e1 => run_resR (vs := [.int .i64 x45]) (FA.cons (rfl) (FA.nil)), HM, E, S.pick [0, 1] (by decide), ⟨rfl, rfl⟩⟩
          refine Wp_cond_false (congrArg Value.bool hb89) ?_
          refine Wp_skip ?_
          refine bn ?_
          refine tn ?_
          refine Wp_region_lit ?_
          refine W_v (.int .i64 (IntKind.i64.wrap (x45 + (1 : Int)))) (x_ibin rfl rfl rfl rfl) rfl ?_
          refine W_v (.int .i64 (IntKind.i64.wrap (x45 + (1 : Int)))) (x_move rfl) rfl ?_
          refine Wl_nil ?_
          refine tn ?_
          exact ⟨k, Nat.lt_succ_self k, ⟨(IntKind.i64.wrap (x45 + (1 : Int))), H, ⟨rfl, rfl, rfl, rfl, trivial⟩, E, S.pick [0, 1] (by decide)⟩⟩
        refine Wp_cond_false (congrArg Value.bool hb69) ?_
        refine Wp_exit ?_
        refine tx (tx (bsm (?_)))
        refine tn ?_
        exact ⟨Option.some.inj H, trivial, E, S.pick [0, 1] (by decide)⟩
  clear o67h
  rintro ρ w90 ⟨rfl, hρ, E, S⟩
  rw [agree_eta hρ]
  clear hρ
  have H := o67H
  clear o67H
  replace H := elimR H
  refine tn ?_
  refine Wp_seq ?_
  refine Wp_region_lit ?_
  refine W_v (.int .i64 (-1)) (x_assign rfl) rfl ?_
  refine Wl_nil ?_
  refine tn ?_
  refine Wp_ret ?_
  obtain rfl := Option.some.inj H
  exact ⟨_, _, _, fun w1 e1 => run_resR (vs := [.int .i64 (-1)]) (FA.cons (rfl) (FA.nil)), HM, E, S.pick [0, 1] (by decide), ⟨rfl, rfl⟩⟩
/-! ### slices.DeleteFunc[[]ferryman/api.Event,ferryman/api.Event]: function 38 -/
def slices_DeleteFunc_api_Event_api_Event_S_Without_1_K_l0 (a1_0 : (List (event_Place × Int))) : Nat → List api_Event → Int → Int → Option ((List api_Event × Int))
  | 0, _, _, _ => none
  | k + 1, x383, x387, x388 => (if (decide (x388 < (x383.length : Int))) = true then (Option.bind (α := List api_Event × Int) (if 0 ≤ x388 ∧ x388 < (x383.length : Int) then (Option.bind (event_Without_1_K k (rd x383 x388) a1_0) (fun t690 => (Option.bind (α := List api_Event × Int) (if (!t690) = true then (if 0 ≤ x387 ∧ x387 < (x383.length : Int) then (Option.bind (α := List api_Event) (some (List.set x383 x387.toNat (rd x383 x388))) (fun x755 => some (x755, (IntKind.i64.wrap (x387 + (1 : Int)))))) else none) else some (x383, x387)) (fun ⟨x733, x737⟩ => some (x733, x737))))) else none) (fun ⟨x666, x670⟩ => slices_DeleteFunc_api_Event_api_Event_S_Without_1_K_l0 a1_0 k x666 x670 (IntKind.i64.wrap (x388 + (1 : Int))))) else some (x383, x387))
set_option maxHeartbeats 2000000 in
theorem slices_DeleteFunc_api_Event_api_Event_S_Without_1_K_l0.mono {a1_0 : (List (event_Place × Int))} : ∀ {k : Nat} {x0 x1 x2}, OLe (slices_DeleteFunc_api_Event_api_Event_S_Without_1_K_l0 a1_0 k x0 x1 x2) (slices_DeleteFunc_api_Event_api_Event_S_Without_1_K_l0 a1_0 (k + 1) x0 x1 x2) := by
  intro k
  induction k with
  | zero => intros; exact OLe.none
  | succ k ih =>
    intros
    rw [slices_DeleteFunc_api_Event_api_Event_S_Without_1_K_l0.eq_2, slices_DeleteFunc_api_Event_api_Event_S_Without_1_K_l0.eq_2]
    repeat' (first | with_reducible exact OLe.none | with_reducible exact OLe.some | with_reducible refine OLe.ite ?_ ?_ | with_reducible refine OLe.bind ?_ (fun _ => ?_) | with_reducible exact event_Without_1_K.mono | exact ih | refine OLe.bind ?_ (fun _ => ?_) | refine OLe.ite ?_ ?_ | refine OLe.elim (fun _ => ?_) (fun _ => ?_) | split)
def slices_DeleteFunc_api_Event_api_Event_S_Without_1_K (k : Nat) (a0 : (List api_Event)) (a1_0 : (List (event_Place × Int))) : Option ((List api_Event)) :=
  (Option.bind (slices_IndexFunc_api_Event_api_Event_Without_1_K k a0 a1_0) (fun t1 => (if (t1 == (-1 : Int)) = true then some a0 else (Option.bind (slices_DeleteFunc_api_Event_api_Event_S_Without_1_K_l0 a1_0 k a0 t1 (IntKind.i64.wrap (t1 + (1 : Int)))) (fun ⟨x571, x575⟩ => (if 0 ≤ x575 ∧ x575 ≤ (x571.length : Int) then (Option.bind (α := List api_Event) (some (List.take x575.toNat x571 ++ List.replicate (x571.length - x575.toNat) (⟨0, 0, 0, ⟨0, false, [], []⟩⟩ : api_Event))) (fun x764 => (if 0 ≤ x575 ∧ x575 ≤ (x764.length : Int) then some (List.take x575.toNat x764) else none))) else none))))))
set_option maxHeartbeats 2000000 in
theorem slices_DeleteFunc_api_Event_api_Event_S_Without_1_K.mono {k : Nat} {a0 : (List api_Event)} {a1_0 : (List (event_Place × Int))} : OLe (slices_DeleteFunc_api_Event_api_Event_S_Without_1_K k a0 a1_0) (slices_DeleteFunc_api_Event_api_Event_S_Without_1_K (k + 1) a0 a1_0) := by
  unfold slices_DeleteFunc_api_Event_api_Event_S_Without_1_K
  repeat' (first | with_reducible exact OLe.none | with_reducible exact OLe.some | with_reducible refine OLe.ite ?_ ?_ | with_reducible refine OLe.bind ?_ (fun _ => ?_) | with_reducible exact slices_DeleteFunc_api_Event_api_Event_S_Without_1_K_l0.mono | with_reducible exact slices_IndexFunc_api_Event_api_Event_Without_1_K.mono | refine OLe.bind ?_ (fun _ => ?_) | refine OLe.ite ?_ ?_ | refine OLe.elim (fun _ => ?_) (fun _ => ?_) | split)
set_option maxHeartbeats 1000000 in
set_option maxRecDepth 100000 in
theorem slices_DeleteFunc_api_Event_api_Event_S_Without_1_K.con (k : Nat) (M : Hp) (A0 : Option Addr) (c0 : Nat) (a0 : (List api_Event)) (A1_0 : Option Addr) (a1_0 : (List (event_Place × Int))) (b1_0 : Nat) (r : (List api_Event))  (h : slices_DeleteFunc_api_Event_api_Event_S_Without_1_K k a0 a1_0 = some r) : Con Try.prog 38 #[.slice A0 a0.length c0, .func (.func 40) #[] #[.pointer (some ⟨b1_0, 0, none⟩)]] M [Row r_api_Event 32 (.slice A0 a0.length c0) a0, Blk b1_0 (.cells #[.map (mb A1_0)] 80 (0, 0)), MapC enc_event_Place (Value.int .i64) A1_0 a1_0] (fun v M' Γ' => ∃ (Aq1 : Option Addr) (cq2 : Nat), v = .slice Aq1 r.length cq2 ∧ Γ' = [Row r_api_Event 32 (.slice Aq1 r.length cq2) r, Blk b1_0 (.cells #[.map (mb A1_0)] 80 (0, 0)), MapC enc_event_Place (Value.int .i64) A1_0 a1_0]) := by
  refine con_of_wp Try.func38 rfl Try.ntmps38 Try.results38 rfl ?_
  intro w F rn S hrn
  have E := Ext.refl w
  have HM := Hp.le_refl M
  have H := h
  unfold slices_DeleteFunc_api_Event_api_Event_S_Without_1_K at H
  refine Wp_seq ?_
  refine Wp_region_lit ?_
  refine W_v (.slice none 0 0) (x_assign rfl) rfl ?_
  refine Wl_nil ?_
  refine tn ?_
  refine Wp_seq ?_
  refine Wp_region_lit ?_
  refine W_v (.slice A0 a0.length c0) (x_move rfl) rfl ?_
  refine W_v (.func (.func 40) #[] #[.pointer (some ⟨b1_0, 0, none⟩)]) (x_move rfl) rfl ?_
  obtain ⟨t1, ht2, H⟩ := bindS H
  refine W_callLF fn48 (fun h9 hs9 hd9 => slices_IndexFunc_api_Event_api_Event_Without_1_K.con k _ A0 c0 a0 A1_0 a1_0 b1_0 t1 (Sats.row hs9 hd9 0 rfl) ht2) (Δ := [Row r_api_Event 32 (.slice A0 a0.length c0) a0]) (Γ1 := [Blk b1_0 (.cells #[.map (mb A1_0)] 80 (0, 0)), MapC enc_event_Place (Value.int .i64) A1_0 a1_0]) (Γ2 := []) S rfl rfl (by rintro _ _ _ ⟨rfl, rfl⟩; exact (flat_cons flat_blk (flat_cons flat_map flat_nil))) ?_
  rintro _ w3 _ Γ' E' S ⟨rfl, rfl⟩
  replace E := E.trans E'
  clear E'
  replace S : St w3 M F [Blk b1_0 (.cells #[.map (mb A1_0)] 80 (0, 0)), MapC enc_event_Place (Value.int .i64) A1_0 a1_0, Row r_api_Event 32 (.slice A0 a0.length c0) a0] := S
  refine W_v (.int .i64 t1) (x_assign rfl) rfl ?_
  refine Wl_nil ?_
  refine tn ?_
  refine Wp_seq ?_
  refine Wp_seq ?_
  refine Wp_region_lit ?_
  refine W_v (.int .i64 t1) (x_move rfl) rfl ?_
  refine W_v (.bool (t1 == (-1 : Int))) (x_ibin rfl rfl rfl rfl) rfl ?_
  refine Wl_nil ?_
  refine tn ?_
  rcases iteS H with ⟨hb6, H⟩ | ⟨hb6, H⟩
  · refine Wp_cond_true (congrArg Value.bool hb6) ?_
    refine Wp_seq ?_
    refine Wp_region_lit ?_
    refine W_v (.slice A0 a0.length c0) (x_move rfl) rfl ?_
    refine W_v (.slice A0 a0.length c0) (x_assign rfl) rfl ?_
    refine Wl_nil ?_
    refine tn ?_
    refine Wp_ret ?_
    refine tr (?_)
    obtain rfl := Option.some.inj H
    exact ⟨_, _, _, fun w1 e1 => run_resR (vs := [.slice A0 a0.length c0]) (FA.cons (rfl) (FA.nil)), HM, E, S.pick [2, 0, 1] (by decide), ⟨A0, c0, rfl, rfl⟩⟩
  refine Wp_cond_false (congrArg Value.bool hb6) ?_
  refine Wp_skip ?_
  refine tn ?_
  refine Wp_seq ?_
  refine Wp_seq ?_
  refine Wp_region_lit ?_
  refine W_v (.int .i64 t1) (x_move rfl) rfl ?_
  refine W_v (.int .i64 (IntKind.i64.wrap (t1 + (1 : Int)))) (x_ibin rfl rfl rfl rfl) rfl ?_
  refine W_v (.int .i64 (IntKind.i64.wrap (t1 + (1 : Int)))) (x_assign rfl) rfl ?_
  refine Wl_nil ?_
  refine tn ?_
  obtain ⟨o576, o576h, o576H⟩ := bindS H
  clear H
  refine Wp_blockJ (fun ρ w' => ∃ (x571 : List api_Event) (x575 : Int) (A572 : Option Addr) (c573 : Nat), (x571, x575) = o576 ∧ Agree ρ [(0, .slice A572 x571.length c573), (5, .int .i64 x575)] ∧ Ext w w' ∧ St w' M F [Row r_api_Event 32 (.slice A572 x571.length c573) x571, Blk b1_0 (.cells #[.map (mb A1_0)] 80 (0, 0)), MapC enc_event_Place (Value.int .i64) A1_0 a1_0]) ?_ ?_
  · skip
    refine Wp_loop (fun n ρ w' => ∃ (x383 : List api_Event) (x387 : Int) (x388 : Int) (A384 : Option Addr) (c385 : Nat), slices_DeleteFunc_api_Event_api_Event_S_Without_1_K_l0 a1_0 n x383 x387 x388 = some o576 ∧ Agree ρ [(0, .slice A384 x383.length c385), (1, .func (.func 40) #[] #[.pointer (some ⟨b1_0, 0, none⟩)]), (5, .int .i64 x387), (6, .int .i64 x388)] ∧ Ext w w' ∧ St w' M F [Row r_api_Event 32 (.slice A384 x383.length c385) x383, Blk b1_0 (.cells #[.map (mb A1_0)] 80 (0, 0)), MapC enc_event_Place (Value.int .i64) A1_0 a1_0]) k ?_ ?_
    · skip
      exact ⟨a0, t1, (IntKind.i64.wrap (t1 + (1 : Int))), A0, c0, o576h, ⟨rfl, rfl, rfl, rfl, trivial⟩, E, S.pick [2, 0, 1] (by decide)⟩
    · intro n
      rintro ρ w577 ⟨x383, x387, x388, A384, c385, H, hρ, E, S⟩
      rw [agree_eta hρ]
      clear hρ
      cases n with
      | zero => cases H
      | succ k =>
        rw [slices_DeleteFunc_api_Event_api_Event_S_Without_1_K_l0.eq_2] at H
        refine Wp_seq ?_
        refine Wp_seq ?_
        refine Wp_region_lit ?_
        refine W_v (.int .i64 x388) (x_move rfl) rfl ?_
        refine W_v (.slice A384 x383.length c385) (x_move rfl) rfl ?_
        refine W_v (.int .i64 (x383.length : Int)) (x_len_slice (n := x383.length) Try.underlying22 rfl) rfl ?_
        refine W_v (.bool (decide (x388 < (x383.length : Int)))) (x_ibin rfl rfl rfl rfl) rfl ?_
        refine Wl_nil ?_
        refine tn ?_
        rcases iteS H with ⟨hb578, H⟩ | ⟨hb578, H⟩
        · refine Wp_cond_true (congrArg Value.bool hb578) ?_
          refine Wp_skip ?_
          refine tn ?_
          refine Wp_seq ?_
          obtain ⟨o671, o671h, o671H⟩ := bindS H
          refine Wp_cut (fun ρ w' => ∃ (x666 : List api_Event) (x670 : Int) (A667 : Option Addr) (c668 : Nat), (x666, x670) = o671 ∧ Agree ρ [(0, .slice A667 x666.length c668), (1, .func (.func 40) #[] #[.pointer (some ⟨b1_0, 0, none⟩)]), (5, .int .i64 x670), (6, .int .i64 x388)] ∧ Ext w w' ∧ St w' M F [Row r_api_Event 32 (.slice A667 x666.length c668) x666, Blk b1_0 (.cells #[.map (mb A1_0)] 80 (0, 0)), MapC enc_event_Place (Value.int .i64) A1_0 a1_0]) ?_ ?_
          · clear o671H
            have H := o671h
            clear o671h
            refine Wp_block ?_
            refine Wp_seq ?_
            refine Wp_region_lit ?_
            refine W_v (.slice A384 x383.length c385) (x_move rfl) rfl ?_
            refine W_v (.int .i64 x388) (x_move rfl) rfl ?_
            obtain ⟨⟨p672, p673⟩, H⟩ := chkS H
            obtain ⟨b674, o675, cs676, _, _, ee681, hb677, vs678, hR679, hc680⟩ := SlW.at' (S.row_read 0 rfl) p672 p673
            obtain ⟨v685, hs684, rfl⟩ := hR679
            obtain ⟨A682, c683, rfl, _⟩ := hs684.form
            refine W_v (.pointer (some ⟨b674, o675 + x388.toNat * 7, none⟩)) (x_indexAddr Try.underlying22 ty32 (slA ee681) rfl p672 p673) rfl ?_
            refine W_v (.agg #[.int .u8 ((rd x383 x388).What), .int .i64 ((rd x383 x388).Task), .int .i64 ((rd x383 x388).Call), .int .i64 ((rd x383 x388).Answer.Err), .bool ((rd x383 x388).Answer.Found), .string (bs ((rd x383 x388).Answer.Value)), .slice A682 ((rd x383 x388).Answer.Pairs).length c683]) (x_loadA (Hp.of_get hb677) ty32 rfl (sub_el hc680 0 rfl) rfl rfl) rfl ?_
            refine W_alloc S #[.int .u8 0, .int .i64 0, .int .i64 0, .int .i64 0, .bool false, .string (bs ([] : Str)), .slice none 0 0] ty32 rfl rfl ?_
            intro b686 w687 E' S
            replace E := E.trans E'
            clear E'
            refine W_store S 0 rfl ty32 rfl rfl [.int .u8 ((rd x383 x388).What), .int .i64 ((rd x383 x388).Task), .int .i64 ((rd x383 x388).Call), .int .i64 ((rd x383 x388).Answer.Err), .bool ((rd x383 x388).Answer.Found), .string (bs ((rd x383 x388).Answer.Value)), .slice A682 ((rd x383 x388).Answer.Pairs).length c683] rfl rfl rfl #[.int .u8 ((rd x383 x388).What), .int .i64 ((rd x383 x388).Task), .int .i64 ((rd x383 x388).Call), .int .i64 ((rd x383 x388).Answer.Err), .bool ((rd x383 x388).Answer.Found), .string (bs ((rd x383 x388).Answer.Value)), .slice A682 ((rd x383 x388).Answer.Pairs).length c683] rfl rfl ?_
            intro w689 E' S
            replace E := E.trans E'
            clear E'
            refine Wl_nil ?_
            refine tn ?_
            refine Wp_seq ?_
            refine Wp_region_lit ?_
            refine W_v (.func (.func 40) #[] #[.pointer (some ⟨b1_0, 0, none⟩)]) (x_move rfl) rfl ?_
            refine W_v (.agg #[.int .u8 ((rd x383 x388).What), .int .i64 ((rd x383 x388).Task), .int .i64 ((rd x383 x388).Call), .int .i64 ((rd x383 x388).Answer.Err), .bool ((rd x383 x388).Answer.Found), .string (bs ((rd x383 x388).Answer.Value)), .slice A682 ((rd x383 x388).Answer.Pairs).length c683]) (x_loadA (S.blk 0 rfl) ty32 rfl (sub_of_extract rfl) rfl rfl) rfl ?_
            obtain ⟨t690, ht691, H⟩ := bindS H
            replace S : St w689 M F [Blk b1_0 (.cells #[.map (mb A1_0)] 80 (0, 0)), MapC enc_event_Place (Value.int .i64) A1_0 a1_0, Blk b686 (.cells #[.int .u8 ((rd x383 x388).What), .int .i64 ((rd x383 x388).Task), .int .i64 ((rd x383 x388).Call), .int .i64 ((rd x383 x388).Answer.Err), .bool ((rd x383 x388).Answer.Found), .string (bs ((rd x383 x388).Answer.Value)), .slice A682 ((rd x383 x388).Answer.Pairs).length c683] 32 (0, 0)), Row r_api_Event 32 (.slice A384 x383.length c385) x383] := S.pick [2, 3, 0, 1] (by decide)
            refine W_callvF2 (fs := []) (cap := [.pointer (some ⟨b1_0, 0, none⟩)]) fn40 rfl (event_Without_1_K.con k M A682 c683 (rd x383 x388) A1_0 a1_0 b1_0 t690 hs684 ht691) (Γ1 := [Blk b1_0 (.cells #[.map (mb A1_0)] 80 (0, 0)), MapC enc_event_Place (Value.int .i64) A1_0 a1_0]) (Γ2 := [Blk b686 (.cells #[.int .u8 ((rd x383 x388).What), .int .i64 ((rd x383 x388).Task), .int .i64 ((rd x383 x388).Call), .int .i64 ((rd x383 x388).Answer.Err), .bool ((rd x383 x388).Answer.Found), .string (bs ((rd x383 x388).Answer.Value)), .slice A682 ((rd x383 x388).Answer.Pairs).length c683] 32 (0, 0)), Row r_api_Event 32 (.slice A384 x383.length c385) x383]) S rfl rfl (by rintro _ _ _ ⟨rfl, rfl⟩; exact (flat_cons flat_blk (flat_cons flat_map flat_nil))) ?_
            rintro _ w692 _ Γ' E' S ⟨rfl, rfl⟩
            replace E := E.trans E'
            clear E'
            replace S : St w692 M F [Blk b1_0 (.cells #[.map (mb A1_0)] 80 (0, 0)), MapC enc_event_Place (Value.int .i64) A1_0 a1_0, Blk b686 (.cells #[.int .u8 ((rd x383 x388).What), .int .i64 ((rd x383 x388).Task), .int .i64 ((rd x383 x388).Call), .int .i64 ((rd x383 x388).Answer.Err), .bool ((rd x383 x388).Answer.Found), .string (bs ((rd x383 x388).Answer.Value)), .slice A682 ((rd x383 x388).Answer.Pairs).length c683] 32 (0, 0)), Row r_api_Event 32 (.slice A384 x383.length c385) x383] := S
            refine W_v (.bool (!t690)) (x_not rfl) rfl ?_
            refine Wl_nil ?_
            refine tn ?_
            obtain ⟨o738, o738h, o738H⟩ := bindS H
            refine Wp_cut (fun ρ w' => ∃ (x733 : List api_Event) (x737 : Int) (A734 : Option Addr) (c735 : Nat), (x733, x737) = o738 ∧ Agree ρ [(0, .slice A734 x733.length c735), (1, .func (.func 40) #[] #[.pointer (some ⟨b1_0, 0, none⟩)]), (5, .int .i64 x737), (6, .int .i64 x388)] ∧ Ext w w' ∧ St w' M F [Row r_api_Event 32 (.slice A734 x733.length c735) x733, Blk b1_0 (.cells #[.map (mb A1_0)] 80 (0, 0)), MapC enc_event_Place (Value.int .i64) A1_0 a1_0]) ?_ ?_
            · clear o738H
              have H := o738h
              clear o738h
              rcases iteS H with ⟨hb739, H⟩ | ⟨hb739, H⟩
              · refine Wp_cond_true (congrArg Value.bool hb739) ?_
                refine Wp_seq ?_
                refine Wp_region_lit ?_
                refine W_v (.slice A384 x383.length c385) (x_move rfl) rfl ?_
                refine W_v (.int .i64 x387) (x_move rfl) rfl ?_
                refine W_v (.agg #[.int .u8 ((rd x383 x388).What), .int .i64 ((rd x383 x388).Task), .int .i64 ((rd x383 x388).Call), .int .i64 ((rd x383 x388).Answer.Err), .bool ((rd x383 x388).Answer.Found), .string (bs ((rd x383 x388).Answer.Value)), .slice A682 ((rd x383 x388).Answer.Pairs).length c683]) (x_loadA (S.blk 2 rfl) ty32 rfl (sub_of_extract rfl) rfl rfl) rfl ?_
                obtain ⟨⟨p740, p741⟩, H⟩ := chkS H
                obtain ⟨b742, o743, cs744, _, _, ee749, hb745, vs746, hR747, hc748⟩ := SlW.at' (S.row_read 3 rfl) p740 p741
                obtain ⟨v753, hs752, rfl⟩ := hR747
                obtain ⟨A750, c751, rfl, _⟩ := hs752.form
                refine W_v (.pointer (some ⟨b742, o743 + x387.toNat * 7, none⟩)) (x_indexAddr Try.underlying22 ty32 (slA ee749) rfl p740 p741) rfl ?_
                obtain ⟨x755, he756, H⟩ := bindS H
                replace he756 := Option.some.inj he756
                refine W_rowstore S 3 rfl rfl ee749 (by first | exact p740 | simpa using p740) (by first | exact p741 | simpa using p741) 0 ty32 rfl rfl [.int .u8 ((rd x383 x388).What), .int .i64 ((rd x383 x388).Task), .int .i64 ((rd x383 x388).Call), .int .i64 ((rd x383 x388).Answer.Err), .bool ((rd x383 x388).Answer.Found), .string (bs ((rd x383 x388).Answer.Value)), .slice A682 ((rd x383 x388).Answer.Pairs).length c683] rfl rfl rfl rfl (rd x383 x388) (by rintro _ ⟨_, h6, rfl⟩; exact ⟨_, hs684, rfl⟩) he756 ?_
                intro w754 E' S
                replace E := E.trans E'
                clear E'
                have hs757 : Value.slice A384 x383.length c385 = Value.slice A384 x755.length c385 := by rw [← he756, List.length_set]
                try rw [hs757] at S
                try rw [hs757]
                clear hs757
                refine Wl_nil ?_
                refine tn ?_
                refine Wp_region_lit ?_
                refine W_v (.int .i64 x387) (x_move rfl) rfl ?_
                refine W_v (.int .i64 (IntKind.i64.wrap (x387 + (1 : Int)))) (x_ibin rfl rfl rfl rfl) rfl ?_
                refine W_v (.int .i64 (IntKind.i64.wrap (x387 + (1 : Int)))) (x_assign rfl) rfl ?_
                refine Wl_nil ?_
                refine tn ?_
                exact ⟨x755, (IntKind.i64.wrap (x387 + (1 : Int))), A384, c385, Option.some.inj H, ⟨rfl, rfl, rfl, rfl, trivial⟩, E, S.pick [3, 0, 1] (by decide)⟩
              refine Wp_cond_false (congrArg Value.bool hb739) ?_
              refine Wp_skip ?_
              refine tn ?_
              exact ⟨x383, x387, A384, c385, Option.some.inj H, ⟨rfl, rfl, rfl, rfl, trivial⟩, E, S.pick [3, 0, 1] (by decide)⟩
            clear o738h
            rintro ρ w758 ⟨x733, x737, A734, c735, rfl, hρ, E, S⟩
            rw [agree_eta hρ]
            clear hρ
            have H := o738H
            clear o738H
            refine bn ?_
            refine tn ?_
            exact ⟨x733, x737, A734, c735, Option.some.inj H, ⟨rfl, rfl, rfl, rfl, trivial⟩, E, S.pick [0, 1, 2] (by decide)⟩
          clear o671h
          rintro ρ w759 ⟨x666, x670, A667, c668, rfl, hρ, E, S⟩
          rw [agree_eta hρ]
          clear hρ
          have H := o671H
          clear o671H
          refine tn ?_
          refine Wp_region_lit ?_
          refine W_v (.int .i64 x388) (x_move rfl) rfl ?_
          refine W_v (.int .i64 (IntKind.i64.wrap (x388 + (1 : Int)))) (x_ibin rfl rfl rfl rfl) rfl ?_
          refine W_v (.int .i64 (IntKind.i64.wrap (x388 + (1 : Int)))) (x_assign rfl) rfl ?_
          refine Wl_nil ?_
          refine tn ?_
          exact ⟨k, Nat.lt_succ_self k, ⟨x666, x670, (IntKind.i64.wrap (x388 + (1 : Int))), A667, c668, H, ⟨rfl, rfl, rfl, rfl, trivial⟩, E, S.pick [0, 1, 2] (by decide)⟩⟩
        refine Wp_cond_false (congrArg Value.bool hb578) ?_
        refine Wp_exit ?_
        refine tx (tx (bsm (?_)))
        refine tn ?_
        exact ⟨x383, x387, A384, c385, Option.some.inj H, ⟨rfl, rfl, trivial⟩, E, S.pick [0, 1, 2] (by decide)⟩
  clear o576h
  rintro ρ w760 ⟨x571, x575, A572, c573, rfl, hρ, E, S⟩
  rw [agree_eta hρ]
  clear hρ
  have H := o576H
  clear o576H
  refine tn ?_
  refine Wp_seq ?_
  refine Wp_region_lit ?_
  refine W_v (.slice A572 x571.length c573) (x_move rfl) rfl ?_
  refine W_v (.int .i64 x575) (x_move rfl) rfl ?_
  obtain ⟨⟨p761, p762⟩, H⟩ := chkS H
  refine W_v (.slice (if c573 = x575.toNat then A572 else Option.map (fun x => x.add (x575.toNat * 7)) A572) (x571.length - x575.toNat) (c573 - x575.toNat)) (x_slice_lo Try.underlying22 ty32 rfl rfl p761 (by omega)) rfl ?_
  obtain ⟨x764, he765, H⟩ := bindS H
  replace he765 := Option.some.inj he765
  refine W_rowclear (i := x575) (⟨0, 0, 0, ⟨0, false, [], []⟩⟩ : api_Event) S 0 rfl p761 p762 Try.underlying22 ty32 rfl (by decide) (fun _ => ⟨_, SlW.nil _ _, rfl⟩) he765 rfl ?_
  intro w763 E' S
  replace E := E.trans E'
  clear E'
  have hs766 : Value.slice A572 x571.length c573 = Value.slice A572 x764.length c573 := by rw [← he765]; congr 1; simp only [List.length_append, List.length_take, List.length_replicate]; omega
  try rw [hs766] at S
  try rw [hs766]
  clear hs766
  refine Wl_nil ?_
  refine tn ?_
  refine Wp_seq ?_
  refine Wp_region_lit ?_
  refine W_v (.slice A572 x764.length c573) (x_move rfl) rfl ?_
  refine W_v (.int .i64 x575) (x_move rfl) rfl ?_
  obtain ⟨⟨p767, p768⟩, H⟩ := chkS H
  have hx769 := @slW_hi _ _ _ _ _ _ _ _ _ (S.row_read 0 rfl) p767 p768
  replace S := S.row_take 0 rfl x575.toNat (by omega)
  replace S : St w763 M F [Row r_api_Event 32 (.slice A572 (List.take x575.toNat x764).length c573) (List.take x575.toNat x764), Blk b1_0 (.cells #[.map (mb A1_0)] 80 (0, 0)), MapC enc_event_Place (Value.int .i64) A1_0 a1_0] := S
  refine W_v (.slice A572 (List.take x575.toNat x764).length c573) (hx769 Try.underlying22 ty32 rfl rfl) rfl ?_
  refine W_v (.slice A572 (List.take x575.toNat x764).length c573) (x_assign rfl) rfl ?_
  refine Wl_nil ?_
  refine tn ?_
  refine Wp_ret ?_
  obtain rfl := Option.some.inj H
  exact ⟨_, _, _, fun w1 e1 => run_resR (vs := [.slice A572 (List.take x575.toNat x764).length c573]) (FA.cons (rfl) (FA.nil)), HM, E, S.pick [0, 1, 2] (by decide), ⟨A572, c573, rfl, rfl⟩⟩
/-! ### ferryman/event.Without: function 24 -/
def event_Without_l5 (x2148 : List api_Event) (x2152 : Int) : Nat → List api_Event → List event_Place → Option ((List api_Event))
  | 0, _, _ => none
  | k + 1, x3657, x3661 => (onList x3661 (some (x3657)) (fun y3906 todo3913 => (Option.bind (α := List api_Event) (Option.bind (α := List api_Event) (if (((y3906.Task == (rd x2148 x2152).Task) && (decide (y3906.Call ≥ (0 : Int)))) && (decide (y3906.Call < (rd x2148 x2152).Call))) = true then (if 0 ≤ x2152 ∧ x2152 < (x3657.length : Int) then (if 0 ≤ x2152 ∧ x2152 < (x3657.length : Int) then (Option.bind (α := List api_Event) (some (List.set x3657 x2152.toNat (⟨(rd x3657 x2152).What, (rd x3657 x2152).Task, (IntKind.i64.wrap ((rd x3657 x2152).Call - (1 : Int))), ⟨(rd x3657 x2152).Answer.Err, (rd x3657 x2152).Answer.Found, (rd x3657 x2152).Answer.Value, (rd x3657 x2152).Answer.Pairs⟩⟩ : api_Event))) (fun x4137 => some (x4137))) else none) else none) else some (x3657)) (fun x4102 => some (x4102))) (fun x4025 => event_Without_l5 x2148 x2152 k x4025 todo3913))))
set_option maxHeartbeats 2000000 in
theorem event_Without_l5.mono {x2148 : List api_Event} {x2152 : Int} : ∀ {k : Nat} {x0 x1}, OLe (event_Without_l5 x2148 x2152 k x0 x1) (event_Without_l5 x2148 x2152 (k + 1) x0 x1) := by
  intro k
  induction k with
  | zero => intros; exact OLe.none
  | succ k ih =>
    intros
    rw [event_Without_l5.eq_2, event_Without_l5.eq_2]
    repeat' (first | with_reducible exact OLe.none | with_reducible exact OLe.some | with_reducible refine OLe.ite ?_ ?_ | with_reducible refine OLe.bind ?_ (fun _ => ?_) | exact ih | refine OLe.bind ?_ (fun _ => ?_) | refine OLe.ite ?_ ?_ | refine OLe.elim (fun _ => ?_) (fun _ => ?_) | refine OLe.onList ?_ (fun _ _ => ?_) | split)
theorem event_Without_l5.perm {x2148 : List api_Event} {x2152 : Int} {k : Nat} {x3657 : List api_Event} {x3661 : List event_Place} {x3661' : List event_Place} {lq : List (event_Place × Int)} (hp : x3661.Perm x3661') (hn : x3661.Nodup) (hl : (lq.map (·.1)).Nodup) (hs : ∀ y ∈ x3661, y ∈ lq.map (·.1)) : event_Without_l5 x2148 x2152 k x3657 x3661 = event_Without_l5 x2148 x2152 k x3657 x3661' := by
  refine perm_fold (fun k s t => event_Without_l5 x2148 x2152 k s t) _ _ (fun _ _ => rfl) (fun _ _ _ => rfl) (fun y z s => ?_) hp k _
  simp only [Option.bind_some]
  (repeat' split) <;> simp_all
def event_Without_l3 (x104 : List (event_Place × Int)) (t146 : (List api_Event)) : Nat → List api_Event → Int → Option ((List api_Event))
  | 0, _, _ => none
  | k + 1, x2148, x2152 => (if (decide (x2152 < (t146.length : Int))) = true then (if 0 ≤ x2152 ∧ x2152 < (x2148.length : Int) then (if (x104.map fun p : event_Place × Int => p.1).Nodup then (Option.bind (event_Without_l5 x2148 x2152 k x2148 (x104.map fun p : event_Place × Int => p.1)) (fun x3899 => event_Without_l3 x104 t146 k x3899 (IntKind.i64.wrap (x2152 + (1 : Int))))) else none) else none) else some (x2148))
set_option maxHeartbeats 2000000 in
theorem event_Without_l3.mono {x104 : List (event_Place × Int)} {t146 : (List api_Event)} : ∀ {k : Nat} {x0 x1}, OLe (event_Without_l3 x104 t146 k x0 x1) (event_Without_l3 x104 t146 (k + 1) x0 x1) := by
  intro k
  induction k with
  | zero => intros; exact OLe.none
  | succ k ih =>
    intros
    rw [event_Without_l3.eq_2, event_Without_l3.eq_2]
    repeat' (first | with_reducible exact OLe.none | with_reducible exact OLe.some | with_reducible refine OLe.ite ?_ ?_ | with_reducible refine OLe.bind ?_ (fun _ => ?_) | with_reducible exact event_Without_l5.mono | exact ih | refine OLe.bind ?_ (fun _ => ?_) | refine OLe.ite ?_ ?_ | refine OLe.elim (fun _ => ?_) (fun _ => ?_) | split)
def event_Without_l0 (a1 : (List event_Place)) : Nat → Int → List (event_Place × Int) → Option (((List (event_Place × Int))))
  | 0, _, _ => none
  | k + 1, x72, x73 => (if (decide (x72 < (a1.length : Int))) = true then (if 0 ≤ x72 ∧ x72 < (a1.length : Int) then (Option.bind (α := List (event_Place × Int)) (some (mput x73 (rd a1 x72) (IntKind.i64.wrap (((mget x73 (rd a1 x72)).getD (0 : Int)) + (1 : Int))))) (fun x135 => event_Without_l0 a1 k (IntKind.i64.wrap (x72 + (1 : Int))) x135)) else none) else some (x73))
set_option maxHeartbeats 2000000 in
theorem event_Without_l0.mono {a1 : (List event_Place)} : ∀ {k : Nat} {x0 x1}, OLe (event_Without_l0 a1 k x0 x1) (event_Without_l0 a1 (k + 1) x0 x1) := by
  intro k
  induction k with
  | zero => intros; exact OLe.none
  | succ k ih =>
    intros
    rw [event_Without_l0.eq_2, event_Without_l0.eq_2]
    repeat' (first | with_reducible exact OLe.none | with_reducible exact OLe.some | with_reducible refine OLe.ite ?_ ?_ | with_reducible refine OLe.bind ?_ (fun _ => ?_) | exact ih | refine OLe.bind ?_ (fun _ => ?_) | refine OLe.ite ?_ ?_ | refine OLe.elim (fun _ => ?_) (fun _ => ?_) | split)
def event_Without (k : Nat) (a0 : (List api_Event)) (a1 : (List event_Place)) : Option ((List api_Event)) :=
  (Option.bind (event_Without_l0 a1 k (0 : Int) ([] : List (event_Place × Int))) (fun x104 => (Option.bind (event_owned k a0) (fun t138 => (Option.bind (slices_DeleteFunc_api_Event_api_Event_S_Without_1_K k t138 x104) (fun t146 => (Option.bind (event_Without_l3 x104 t146 k t146 (0 : Int)) (fun x3145 => some x3145))))))))
set_option maxHeartbeats 2000000 in
theorem event_Without.mono {k : Nat} {a0 : (List api_Event)} {a1 : (List event_Place)} : OLe (event_Without k a0 a1) (event_Without (k + 1) a0 a1) := by
  unfold event_Without
  repeat' (first | with_reducible exact OLe.none | with_reducible exact OLe.some | with_reducible refine OLe.ite ?_ ?_ | with_reducible refine OLe.bind ?_ (fun _ => ?_) | with_reducible exact event_Without_l0.mono | with_reducible exact event_Without_l3.mono | with_reducible exact event_owned.mono | with_reducible exact slices_DeleteFunc_api_Event_api_Event_S_Without_1_K.mono | refine OLe.bind ?_ (fun _ => ?_) | refine OLe.ite ?_ ?_ | refine OLe.elim (fun _ => ?_) (fun _ => ?_) | split)
set_option maxHeartbeats 1000000 in
set_option maxRecDepth 100000 in
theorem event_Without.con (k : Nat) (M : Hp) (A0 : Option Addr) (c0 : Nat) (a0 : (List api_Event)) (A1 : Option Addr) (c1 : Nat) (a1 : (List event_Place)) (r : (List api_Event)) (hr0 : SlR r_api_Event M (.slice A0 a0.length c0) a0) (hr1 : SlR r_event_Place M (.slice A1 a1.length c1) a1) (h : event_Without k a0 a1 = some r) : Con Try.prog 24 #[.slice A0 a0.length c0, .slice A1 a1.length c1] M [] (fun v M' Γ' => ∃ (A0 : Option Addr) (c0 : Nat), v = .slice A0 r.length c0 ∧ Γ' = [Row r_api_Event 32 (.slice A0 r.length c0) r]) := by
  refine con_of_wp Try.func24 rfl Try.ntmps24 Try.results24 rfl ?_
  intro w F rn S hrn
  have E := Ext.refl w
  have HM := Hp.le_refl M
  have H := h
  unfold event_Without at H
  refine Wp_seq ?_
  refine Wp_region_lit ?_
  refine W_v (.slice none 0 0) (x_assign rfl) rfl ?_
  refine Wl_nil ?_
  refine tn ?_
  refine Wp_seq ?_
  refine Wp_region_lit ?_
  refine W_makeMap (κ := event_Place) (ν := Int) enc_event_Place (Value.int .i64) S rfl ?_
  intro b1 w2 E' S
  replace E := E.trans E'
  clear E'
  replace S : St w2 M F [MapC enc_event_Place (Value.int .i64) (some ⟨b1, 0, none⟩) ([] : List (event_Place × Int))] := S
  refine W_alloc S #[.map none] ty80 rfl rfl ?_
  intro b4 w5 E' S
  replace E := E.trans E'
  clear E'
  refine W_store S 0 rfl ty80 rfl rfl [.map (mb (some ⟨b1, 0, none⟩))] rfl rfl rfl #[.map (mb (some ⟨b1, 0, none⟩))] rfl rfl ?_
  intro w7 E' S
  replace E := E.trans E'
  clear E'
  refine Wl_nil ?_
  refine tn ?_
  refine Wp_seq ?_
  refine Wp_seq ?_
  refine Wp_region_lit ?_
  refine W_v (.slice A1 a1.length c1) (x_move rfl) rfl ?_
  refine W_v (.int .i64 (a1.length : Int)) (x_len_slice (n := a1.length) Try.underlying55 rfl) rfl ?_
  refine W_v (.int .i64 0) (x_move rfl) rfl ?_
  refine Wl_nil ?_
  refine tn ?_
  obtain ⟨o108, o108h, o108H⟩ := bindS H
  clear H
  refine Wp_blockJ (fun ρ w' => ∃ (x104 : List (event_Place × Int)) (A105 : Option Addr) (c106 : Nat), (x104) = o108 ∧ Agree ρ [(0, .slice A0 a0.length c0), (5, .pointer (some ⟨b4, 0, none⟩))] ∧ Ext w w' ∧ St w' M F [MapC enc_event_Place (Value.int .i64) A105 x104, Blk b4 (.cells #[.map (mb A105)] 80 (0, 0))]) ?_ ?_
  · skip
    refine Wp_loop (fun n ρ w' => ∃ (x72 : Int) (x73 : List (event_Place × Int)) (A74 : Option Addr) (c75 : Nat), event_Without_l0 a1 n x72 x73 = some o108 ∧ Agree ρ [(0, .slice A0 a0.length c0), (5, .pointer (some ⟨b4, 0, none⟩)), (13, .slice A1 a1.length c1), (14, .int .i64 (a1.length : Int)), (15, .int .i64 x72)] ∧ Ext w w' ∧ St w' M F [MapC enc_event_Place (Value.int .i64) A74 x73, Blk b4 (.cells #[.map (mb A74)] 80 (0, 0))]) k ?_ ?_
    · skip
      exact ⟨(0 : Int), ([] : List (event_Place × Int)), (some ⟨b1, 0, none⟩), 0, o108h, ⟨rfl, rfl, rfl, rfl, rfl, trivial⟩, E, S.pick [1, 0] (by decide)⟩
    · intro n
      rintro ρ w109 ⟨x72, x73, A74, c75, H, hρ, E, S⟩
      rw [agree_eta hρ]
      clear hρ
      cases n with
      | zero => cases H
      | succ k =>
        rw [event_Without_l0.eq_2] at H
        refine Wp_seq ?_
        refine Wp_region_lit ?_
        refine W_v (.bool (decide (x72 < (a1.length : Int)))) (x_ibin rfl rfl rfl rfl) rfl ?_
        refine Wl_nil ?_
        refine tn ?_
        refine Wp_seq ?_
        rcases iteS H with ⟨hb110, H⟩ | ⟨hb110, H⟩
        · refine Wp_cond_true (congrArg Value.bool hb110) ?_
          refine Wp_skip ?_
          refine tn ?_
          refine Wp_seq ?_
          refine Wp_block ?_
          refine Wp_seq ?_
          refine Wp_region_lit ?_
          obtain ⟨⟨p111, p112⟩, H⟩ := chkS H
          obtain ⟨b113, o114, cs115, _, _, ee120, hb116, vs117, hR118, hc119⟩ := SlW.at' hr1 p111 p112
          obtain rfl : vs117 = _ := hR118
          refine W_v (.pointer (some ⟨b113, o114 + x72.toNat * 2, none⟩)) (x_indexAddr Try.underlying55 ty62 (slA ee120) rfl p111 p112) rfl ?_
          refine W_v (.agg #[.int .i64 ((rd a1 x72).Task), .int .i64 ((rd a1 x72).Call)]) (x_loadA (S.frz hb116) ty62 rfl (sub_el hc119 0 rfl) rfl rfl) rfl ?_
          refine W_alloc S #[.int .i64 0, .int .i64 0] ty62 rfl rfl ?_
          intro b121 w122 E' S
          replace E := E.trans E'
          clear E'
          refine W_store S 0 rfl ty62 rfl rfl [.int .i64 ((rd a1 x72).Task), .int .i64 ((rd a1 x72).Call)] rfl rfl rfl #[.int .i64 ((rd a1 x72).Task), .int .i64 ((rd a1 x72).Call)] rfl rfl ?_
          intro w124 E' S
          replace E := E.trans E'
          clear E'
          refine Wl_nil ?_
          refine tn ?_
          refine Wp_region_any (S := fun w' => ∃ Mx, M.le Mx ∧ St w' Mx F [Blk b121 (.cells #[.int .i64 ((rd a1 x72).Task), .int .i64 ((rd a1 x72).Call)] 62 (0, 0)), MapU enc_event_Place (Value.int .i64) A74 x73 (rd a1 x72) (0 : Int), Blk b4 (.cells #[.map (mb A74)] 80 (0, 0))]) (L := 6) mixed ?_
          intro w130 hw131 E'
          replace S := S.heap hw131
          replace E := E.trans E'
          clear E'
          refine Wa_take (i := 0) rfl (by kernel_rfl) rfl rfl (.map (mb A74)) rfl (fun w' h' => x_load (cls_blk h' 2 rfl) ty80 rfl rfl) (⟨M, Hp.le_refl M, (St.mapUc (S.pick [0, 1, 2] (by decide)) 1 rfl (rd a1 x72) (0 : Int))⟩) ?_
          refine Wa_take (i := 1) rfl (by kernel_rfl) rfl rfl (.agg #[.int .i64 ((rd a1 x72).Task), .int .i64 ((rd a1 x72).Call)]) rfl (fun w' h' => x_loadA (cls_blk h' 0 rfl) ty62 rfl (sub_of_extract rfl) rfl rfl) (⟨M, Hp.le_refl M, (St.mapUc (S.pick [0, 1, 2] (by decide)) 1 rfl (rd a1 x72) (0 : Int))⟩) ?_
          refine Wa_take (i := 2) rfl (by kernel_rfl) rfl rfl (.int .i64 ((mget x73 (rd a1 x72)).getD (0 : Int))) rfl (fun w' h' => Exists.elim h' fun Mx h9 => x_lookupU h9.2 1 rfl Try.underlying80 key62 (fun _ => ty3.zero) rfl rfl) (⟨M, Hp.le_refl M, (St.mapUc (S.pick [0, 1, 2] (by decide)) 1 rfl (rd a1 x72) (0 : Int))⟩) ?_
          refine Wa_take (i := 3) rfl (by kernel_rfl) rfl rfl (.int .i64 (IntKind.i64.wrap (((mget x73 (rd a1 x72)).getD (0 : Int)) + (1 : Int)))) rfl (fun w' h' => x_ibin rfl rfl rfl rfl) (⟨M, Hp.le_refl M, (St.mapUc (S.pick [0, 1, 2] (by decide)) 1 rfl (rd a1 x72) (0 : Int))⟩) ?_
          refine Wa_solo (i := 4) rfl (by kernel_rfl) ?_
          refine W_mapEntry S 1 rfl Try.underlying80 key62 (0 : Int) (fun _ => ty3.zero) (rd a1 x72) rfl rfl rfl ?_
          intro n132 w133 E' S
          replace E := E.trans E'
          clear E'
          replace S : St w133 M F [Blk b121 (.cells #[.int .i64 ((rd a1 x72).Task), .int .i64 ((rd a1 x72).Call)] 62 (0, 0)), MapE enc_event_Place (Value.int .i64) A74 (ment x73 (rd a1 x72) (0 : Int)) (rd a1 x72) n132, Blk b4 (.cells #[.map (mb A74)] 80 (0, 0))] := S
          refine Wl_nil (on_n ⟨.inr ⟨M, Hp.le_refl M, (St.mapUe (S.pick [0, 1, 2] (by decide)) 1 rfl)⟩, ?_⟩)
          refine Wa_take (i := 5) rfl (by kernel_rfl) rfl rfl (.int .i64 (n132 : Int)) rfl (fun w' h' => x_extract rfl rfl) (⟨M, Hp.le_refl M, (St.mapUe (S.pick [0, 1, 2] (by decide)) 1 rfl)⟩) ?_
          refine Wa_solo (i := 6) rfl (by kernel_rfl) ?_
          obtain ⟨x135, he136, H⟩ := bindS H
          replace he136 := Option.some.inj he136
          refine W_entryStore S 1 rfl (IntKind.i64.wrap (((mget x73 (rd a1 x72)).getD (0 : Int)) + (1 : Int))) he136 rfl rfl rfl ?_
          intro w134 E' S
          replace E := E.trans E'
          clear E'
          replace S : St w134 M F [Blk b121 (.cells #[.int .i64 ((rd a1 x72).Task), .int .i64 ((rd a1 x72).Call)] 62 (0, 0)), MapC enc_event_Place (Value.int .i64) A74 x135, Blk b4 (.cells #[.map (mb A74)] 80 (0, 0))] := S
          refine Wl_nil (on_n ⟨.inl (by decide), ?_⟩)
          refine Wa_done (by kernel_rfl) ?_
          refine bn ?_
          refine tn ?_
          refine Wp_region_lit ?_
          refine W_v (.int .i64 (IntKind.i64.wrap (x72 + (1 : Int)))) (x_ibin rfl rfl rfl rfl) rfl ?_
          refine W_v (.int .i64 (IntKind.i64.wrap (x72 + (1 : Int)))) (x_move rfl) rfl ?_
          refine Wl_nil ?_
          refine tn ?_
          exact ⟨k, Nat.lt_succ_self k, ⟨(IntKind.i64.wrap (x72 + (1 : Int))), x135, A74, c75, H, ⟨rfl, rfl, rfl, rfl, rfl, trivial⟩, E, S.pick [1, 2] (by decide)⟩⟩
        refine Wp_cond_false (congrArg Value.bool hb110) ?_
        refine Wp_exit ?_
        refine tx (tx (bsm (?_)))
        refine tn ?_
        exact ⟨x73, A74, c75, Option.some.inj H, ⟨rfl, rfl, trivial⟩, E, S.pick [0, 1] (by decide)⟩
  clear o108h
  rintro ρ w137 ⟨x104, A105, c106, rfl, hρ, E, S⟩
  rw [agree_eta hρ]
  clear hρ
  have H := o108H
  clear o108H
  refine tn ?_
  refine Wp_seq ?_
  refine Wp_region_lit ?_
  refine W_v (.slice A0 a0.length c0) (x_move rfl) rfl ?_
  obtain ⟨t138, ht139, H⟩ := bindS H
  refine W_call fn37 (event_owned.con k M A0 c0 a0 t138 hr0 ht139) (Γ1 := []) (Γ2 := [MapC enc_event_Place (Value.int .i64) A105 x104, Blk b4 (.cells #[.map (mb A105)] 80 (0, 0))]) S rfl rfl ?_
  rintro _ w143 M144 Γ' hM145 E' S ⟨A140, c141, rfl, rfl⟩
  replace HM := Hp.le_trans HM hM145
  replace hr0 := SlR.mono hr0 hM145
  replace hr1 := SlR.mono hr1 hM145
  replace E := E.trans E'
  clear E'
  refine W_v (.func (.func 40) #[] #[.pointer (some ⟨b4, 0, none⟩)]) (x_makeFunc rfl) rfl ?_
  obtain ⟨t146, ht147, H⟩ := bindS H
  replace S : St w143 M144 F [Row r_api_Event 32 (.slice A140 t138.length c141) t138, Blk b4 (.cells #[.map (mb A105)] 80 (0, 0)), MapC enc_event_Place (Value.int .i64) A105 x104] := S.pick [0, 2, 1] (by decide)
  refine W_call fn38 (slices_DeleteFunc_api_Event_api_Event_S_Without_1_K.con k M144 A140 c141 t138 A105 x104 b4 t146  ht147) (Γ1 := [Row r_api_Event 32 (.slice A140 t138.length c141) t138, Blk b4 (.cells #[.map (mb A105)] 80 (0, 0)), MapC enc_event_Place (Value.int .i64) A105 x104]) (Γ2 := []) S rfl rfl ?_
  rintro _ w151 M152 Γ' hM153 E' S ⟨A148, c149, rfl, rfl⟩
  replace HM := Hp.le_trans HM hM153
  replace hr0 := SlR.mono hr0 hM153
  replace hr1 := SlR.mono hr1 hM153
  replace E := E.trans E'
  clear E'
  replace S : St w151 M152 F [Row r_api_Event 32 (.slice A148 t146.length c149) t146, Blk b4 (.cells #[.map (mb A105)] 80 (0, 0)), MapC enc_event_Place (Value.int .i64) A105 x104] := S
  refine W_v (.slice A148 t146.length c149) (x_assign rfl) rfl ?_
  refine Wl_nil ?_
  refine tn ?_
  refine Wp_seq ?_
  refine Wp_seq ?_
  refine Wp_region_lit ?_
  refine W_v (.slice A148 t146.length c149) (x_move rfl) rfl ?_
  refine W_v (.int .i64 (t146.length : Int)) (x_len_slice (n := t146.length) Try.underlying22 rfl) rfl ?_
  refine W_v (.int .i64 0) (x_move rfl) rfl ?_
  refine Wl_nil ?_
  refine tn ?_
  obtain ⟨o3149, o3149h, o3149H⟩ := bindS H
  clear H
  refine Wp_blockJ (fun ρ w' => ∃ (x3145 : List api_Event) (A3146 : Option Addr) (c3147 : Nat), (x3145) = o3149 ∧ Agree ρ [(8, .slice A3146 x3145.length c3147)] ∧ Ext w w' ∧ St w' M152 F [Row r_api_Event 32 (.slice A3146 x3145.length c3147) x3145]) ?_ ?_
  · skip
    refine Wp_loop (fun n ρ w' => ∃ (x2148 : List api_Event) (x2152 : Int) (A2149 : Option Addr) (c2150 : Nat), event_Without_l3 x104 t146 n x2148 x2152 = some o3149 ∧ Agree ρ [(5, .pointer (some ⟨b4, 0, none⟩)), (8, .slice A2149 x2148.length c2150), (30, .slice A2149 x2148.length c2150), (31, .int .i64 (t146.length : Int)), (32, .int .i64 x2152)] ∧ Ext w w' ∧ St w' M152 F [Row r_api_Event 32 (.slice A2149 x2148.length c2150) x2148, Blk b4 (.cells #[.map (mb A105)] 80 (0, 0)), MapC enc_event_Place (Value.int .i64) A105 x104]) k ?_ ?_
    · skip
      exact ⟨t146, (0 : Int), A148, c149, o3149h, ⟨rfl, rfl, rfl, rfl, rfl, trivial⟩, E, S.pick [0, 1, 2] (by decide)⟩
    · intro n
      rintro ρ w3150 ⟨x2148, x2152, A2149, c2150, H, hρ, E, S⟩
      rw [agree_eta hρ]
      clear hρ
      cases n with
      | zero => cases H
      | succ k =>
        rw [event_Without_l3.eq_2] at H
        refine Wp_seq ?_
        refine Wp_region_lit ?_
        refine W_v (.bool (decide (x2152 < (t146.length : Int)))) (x_ibin rfl rfl rfl rfl) rfl ?_
        refine Wl_nil ?_
        refine tn ?_
        refine Wp_seq ?_
        rcases iteS H with ⟨hb3151, H⟩ | ⟨hb3151, H⟩
        · refine Wp_cond_true (congrArg Value.bool hb3151) ?_
          refine Wp_skip ?_
          refine tn ?_
          refine Wp_seq ?_
          refine Wp_block ?_
          refine Wp_seq ?_
          refine Wp_region_lit ?_
          refine W_v (.int .i64 x2152) (x_move rfl) rfl ?_
          obtain ⟨⟨p3152, p3153⟩, H⟩ := chkS H
          obtain ⟨b3154, o3155, cs3156, _, _, ee3161, hb3157, vs3158, hR3159, hc3160⟩ := SlW.at' (S.row_read 0 rfl) p3152 p3153
          obtain ⟨v3165, hs3164, rfl⟩ := hR3159
          obtain ⟨A3162, c3163, rfl, _⟩ := hs3164.form
          refine W_v (.pointer (some ⟨b3154, o3155 + x2152.toNat * 7, none⟩)) (x_indexAddr Try.underlying22 ty32 (slA ee3161) rfl p3152 p3153) rfl ?_
          refine W_v (.agg #[.int .u8 ((rd x2148 x2152).What), .int .i64 ((rd x2148 x2152).Task), .int .i64 ((rd x2148 x2152).Call), .int .i64 ((rd x2148 x2152).Answer.Err), .bool ((rd x2148 x2152).Answer.Found), .string (bs ((rd x2148 x2152).Answer.Value)), .slice A3162 ((rd x2148 x2152).Answer.Pairs).length c3163]) (x_loadA (Hp.of_get hb3157) ty32 rfl (sub_el hc3160 0 rfl) rfl rfl) rfl ?_
          refine W_alloc S #[.int .u8 0, .int .i64 0, .int .i64 0, .int .i64 0, .bool false, .string (bs ([] : Str)), .slice none 0 0] ty32 rfl rfl ?_
          intro b3166 w3167 E' S
          replace E := E.trans E'
          clear E'
          refine W_v (.int .i64 x2152) (x_assign rfl) rfl ?_
          refine W_store S 0 rfl ty32 rfl rfl [.int .u8 ((rd x2148 x2152).What), .int .i64 ((rd x2148 x2152).Task), .int .i64 ((rd x2148 x2152).Call), .int .i64 ((rd x2148 x2152).Answer.Err), .bool ((rd x2148 x2152).Answer.Found), .string (bs ((rd x2148 x2152).Answer.Value)), .slice A3162 ((rd x2148 x2152).Answer.Pairs).length c3163] rfl rfl rfl #[.int .u8 ((rd x2148 x2152).What), .int .i64 ((rd x2148 x2152).Task), .int .i64 ((rd x2148 x2152).Call), .int .i64 ((rd x2148 x2152).Answer.Err), .bool ((rd x2148 x2152).Answer.Found), .string (bs ((rd x2148 x2152).Answer.Value)), .slice A3162 ((rd x2148 x2152).Answer.Pairs).length c3163] rfl rfl ?_
          intro w3169 E' S
          replace E := E.trans E'
          clear E'
          refine Wl_nil ?_
          refine tn ?_
          refine Wp_seq ?_
          refine Wp_region_lit ?_
          refine W_v (.map (mb A105)) (x_load (S.blk 2 rfl) ty80 rfl rfl) rfl ?_
          obtain ⟨hn3170, H⟩ := chkS H
          refine W_rangeM S 3 rfl Try.underlying80 hn3170 rfl rfl ?_
          intro b3171 w3172 E' S
          replace E := E.trans E'
          clear E'
          replace S : St w3172 M152 F [Blk b3166 (.cells #[.int .u8 ((rd x2148 x2152).What), .int .i64 ((rd x2148 x2152).Task), .int .i64 ((rd x2148 x2152).Call), .int .i64 ((rd x2148 x2152).Answer.Err), .bool ((rd x2148 x2152).Answer.Found), .string (bs ((rd x2148 x2152).Answer.Value)), .slice A3162 ((rd x2148 x2152).Answer.Pairs).length c3163] 32 (0, 0)), Row r_api_Event 32 (.slice A2149 x2148.length c2150) x2148, Blk b4 (.cells #[.map (mb A105)] 80 (0, 0)), RangeM enc_event_Place (Value.int .i64) A105 b3171 x104 (x104.map fun p : event_Place × Int => p.1) none] := S
          refine Wl_nil ?_
          refine tn ?_
          obtain ⟨o3903, o3903h, o3903H⟩ := bindS H
          clear H
          refine Wp_blockJ (fun ρ w' => ∃ (x3899 : List api_Event) (A3900 : Option Addr) (c3901 : Nat), (x3899) = o3903 ∧ Agree ρ [(5, .pointer (some ⟨b4, 0, none⟩)), (8, .slice A3900 x3899.length c3901), (30, .slice A3900 x3899.length c3901), (31, .int .i64 (t146.length : Int)), (32, .int .i64 x2152)] ∧ Ext w w' ∧ St w' M152 F [Row r_api_Event 32 (.slice A3900 x3899.length c3901) x3899, Blk b4 (.cells #[.map (mb A105)] 80 (0, 0)), MapC enc_event_Place (Value.int .i64) A105 x104]) ?_ ?_
          · skip
            refine Wp_loop (fun n ρ w' => ∃ (x3657 : List api_Event) (x3661 : List event_Place) (A3658 : Option Addr) (c3659 : Nat), event_Without_l5 x2148 x2152 n x3657 x3661 = some o3903 ∧ Agree ρ [(5, .pointer (some ⟨b4, 0, none⟩)), (8, .slice A3658 x3657.length c3659), (9, .int .i64 x2152), (10, .pointer (some ⟨b3166, 0, none⟩)), (30, .slice A3658 x3657.length c3659), (31, .int .i64 (t146.length : Int)), (32, .int .i64 x2152), (38, .pointer (some ⟨b3171, 0, none⟩))] ∧ Ext w w' ∧ St w' M152 F [Row r_api_Event 32 (.slice A3658 x3657.length c3659) x3657, Blk b3166 (.cells #[.int .u8 ((rd x2148 x2152).What), .int .i64 ((rd x2148 x2152).Task), .int .i64 ((rd x2148 x2152).Call), .int .i64 ((rd x2148 x2152).Answer.Err), .bool ((rd x2148 x2152).Answer.Found), .string (bs ((rd x2148 x2152).Answer.Value)), .slice A3162 ((rd x2148 x2152).Answer.Pairs).length c3163] 32 (0, 0)), Blk b4 (.cells #[.map (mb A105)] 80 (0, 0)), RangeM enc_event_Place (Value.int .i64) A105 b3171 x104 x3661 none]) k ?_ ?_
            · skip
              exact ⟨x2148, (x104.map fun p : event_Place × Int => p.1), A2149, c2150, o3903h, ⟨rfl, rfl, rfl, rfl, rfl, rfl, rfl, rfl, trivial⟩, E, S.pick [1, 0, 2, 3] (by decide)⟩
            · intro n
              rintro ρ w3904 ⟨x3657, x3661, A3658, c3659, H, hρ, E, S⟩
              rw [agree_eta hρ]
              clear hρ
              cases n with
              | zero => cases H
              | succ k =>
                refine Wp_seq ?_
                refine Wp_region_lit ?_
                obtain ⟨hn3905a, hn3905b, hn3905c⟩ := S.rangeM_facts 3 rfl
                refine W_nextM S 3 rfl rfl rfl ?_ ?_
                · intro y3906 v3907 w3908 hy3910 hv3911 E' S
                  replace E := E.trans E'
                  clear E'
                  rw [event_Without_l5.perm (List.perm_cons_erase hy3910) hn3905a hn3905b hn3905c, event_Without_l5.eq_2, onList_cons] at H
                  obtain rfl : v3907 = ((mget x104 y3906).getD (0 : Int)) := by rw [hv3911]; rfl
                  replace S : St w3908 M152 F [Row r_api_Event 32 (.slice A3658 x3657.length c3659) x3657, Blk b3166 (.cells #[.int .u8 ((rd x2148 x2152).What), .int .i64 ((rd x2148 x2152).Task), .int .i64 ((rd x2148 x2152).Call), .int .i64 ((rd x2148 x2152).Answer.Err), .bool ((rd x2148 x2152).Answer.Found), .string (bs ((rd x2148 x2152).Answer.Value)), .slice A3162 ((rd x2148 x2152).Answer.Pairs).length c3163] 32 (0, 0)), Blk b4 (.cells #[.map (mb A105)] 80 (0, 0)), RangeM enc_event_Place (Value.int .i64) A105 b3171 x104 (x3661.erase y3906) (some y3906)] := S
                  refine W_v (.bool true) (x_extract rfl rfl) rfl ?_
                  refine Wl_nil ?_
                  refine tn ?_
                  refine Wp_seq ?_
                  refine Wp_cond_true rfl ?_
                  refine Wp_skip ?_
                  refine tn ?_
                  obtain ⟨o4029, o4029h, o4029H⟩ := bindS H
                  refine Wp_cut (fun ρ w' => ∃ (x4025 : List api_Event) (A4026 : Option Addr) (c4027 : Nat), (x4025) = o4029 ∧ Agree ρ [(5, .pointer (some ⟨b4, 0, none⟩)), (8, .slice A4026 x4025.length c4027), (9, .int .i64 x2152), (10, .pointer (some ⟨b3166, 0, none⟩)), (30, .slice A4026 x4025.length c4027), (31, .int .i64 (t146.length : Int)), (32, .int .i64 x2152), (38, .pointer (some ⟨b3171, 0, none⟩))] ∧ Ext w w' ∧ St w' M152 F [Row r_api_Event 32 (.slice A4026 x4025.length c4027) x4025, Blk b3166 (.cells #[.int .u8 ((rd x2148 x2152).What), .int .i64 ((rd x2148 x2152).Task), .int .i64 ((rd x2148 x2152).Call), .int .i64 ((rd x2148 x2152).Answer.Err), .bool ((rd x2148 x2152).Answer.Found), .string (bs ((rd x2148 x2152).Answer.Value)), .slice A3162 ((rd x2148 x2152).Answer.Pairs).length c3163] 32 (0, 0)), Blk b4 (.cells #[.map (mb A105)] 80 (0, 0)), RangeM enc_event_Place (Value.int .i64) A105 b3171 x104 (x3661.erase y3906) none]) ?_ ?_
                  · clear o4029H
                    have H := o4029h
                    clear o4029h
                    refine Wp_block ?_
                    refine Wp_seq ?_
                    refine Wp_region_lit ?_
                    refine W_v (.tuple #[enc_event_Place y3906, (Value.int .i64) ((mget x104 y3906).getD (0 : Int))]) (x_entryM S 3 rfl hv3911 rfl) rfl ?_
                    replace S := S.rangeM_seen 3 rfl
                    replace S : St w3908 M152 F [Row r_api_Event 32 (.slice A3658 x3657.length c3659) x3657, Blk b3166 (.cells #[.int .u8 ((rd x2148 x2152).What), .int .i64 ((rd x2148 x2152).Task), .int .i64 ((rd x2148 x2152).Call), .int .i64 ((rd x2148 x2152).Answer.Err), .bool ((rd x2148 x2152).Answer.Found), .string (bs ((rd x2148 x2152).Answer.Value)), .slice A3162 ((rd x2148 x2152).Answer.Pairs).length c3163] 32 (0, 0)), Blk b4 (.cells #[.map (mb A105)] 80 (0, 0)), RangeM enc_event_Place (Value.int .i64) A105 b3171 x104 (x3661.erase y3906) none] := S
                    refine W_v (.agg #[.int .i64 y3906.Task, .int .i64 y3906.Call]) (x_extract rfl rfl) rfl ?_
                    refine W_alloc S #[.int .i64 0, .int .i64 0] ty62 rfl rfl ?_
                    intro b4030 w4031 E' S
                    replace E := E.trans E'
                    clear E'
                    refine W_store S 0 rfl ty62 rfl rfl [.int .i64 y3906.Task, .int .i64 y3906.Call] rfl rfl rfl #[.int .i64 y3906.Task, .int .i64 y3906.Call] rfl rfl ?_
                    intro w4033 E' S
                    replace E := E.trans E'
                    clear E'
                    refine Wl_nil ?_
                    refine tn ?_
                    refine Wp_seq ?_
                    refine Wp_region_lit ?_
                    refine W_v (.pointer (some ⟨b4030, 0, none⟩)) (x_fieldAddr (o := 0) (off := 0) Try.underlying62 rfl ty3 rfl rfl) rfl ?_
                    refine W_v (.int .i64 y3906.Task) (x_load (S.blk 0 rfl) ty3 rfl rfl) rfl ?_
                    refine W_v (.pointer (some ⟨b3166, 1, none⟩)) (x_fieldAddr (o := 0) (off := 1) Try.underlying32 rfl ty3 rfl rfl) rfl ?_
                    refine W_v (.int .i64 ((rd x2148 x2152).Task)) (x_load (S.blk 2 rfl) ty3 rfl rfl) rfl ?_
                    refine W_v (.bool (y3906.Task == (rd x2148 x2152).Task)) (x_ibin rfl rfl rfl rfl) rfl ?_
                    refine W_v (.bool (y3906.Task == (rd x2148 x2152).Task)) (x_move rfl) rfl ?_
                    refine Wl_cutN 4 (fun ρ w' => Agree ρ [(5, .pointer (some ⟨b4, 0, none⟩)), (8, .slice A3658 x3657.length c3659), (9, .int .i64 x2152), (10, .pointer (some ⟨b3166, 0, none⟩)), (11, .pointer (some ⟨b4030, 0, none⟩)), (30, .slice A3658 x3657.length c3659), (31, .int .i64 (t146.length : Int)), (32, .int .i64 x2152), (38, .pointer (some ⟨b3171, 0, none⟩)), (52, .bool ((y3906.Task == (rd x2148 x2152).Task) && (decide (y3906.Call ≥ (0 : Int)))))] ∧ w4033 = w') ?_ ?_
                    · rcases boolCases (y3906.Task == (rd x2148 x2152).Task) with hb4034 | hb4034
                      · skip
                        refine W_no (skT hb4034) rfl ?_
                        refine W_no (skT hb4034) rfl ?_
                        refine W_no (skT hb4034) rfl ?_
                        refine W_v (.bool false) (x_pick (k := false) (congrArg Value.bool hb4034) rfl) rfl ?_
                        refine Wl_nil ?_
                        exact ⟨⟨rfl, rfl, rfl, rfl, rfl, rfl, rfl, rfl, rfl, (by first | rfl | (rw [hb4034]; rfl) | (simp only [hb4034]; rfl)), trivial⟩, rfl⟩
                      · skip
                        refine W_yes (congrArg some hb4034) ?_
                        refine W_v (.pointer (some ⟨b4030, 1, none⟩)) (x_fieldAddr (o := 0) (off := 1) Try.underlying62 rfl ty3 rfl rfl) rfl ?_
                        refine W_yes (congrArg some hb4034) ?_
                        refine W_v (.int .i64 y3906.Call) (x_load (S.blk 0 rfl) ty3 rfl rfl) rfl ?_
                        refine W_yes (congrArg some hb4034) ?_
                        refine W_v (.bool (decide (y3906.Call ≥ (0 : Int)))) (x_ibin rfl rfl rfl rfl) rfl ?_
                        refine W_v (.bool (decide (y3906.Call ≥ (0 : Int)))) (x_pick (k := true) (congrArg Value.bool hb4034) rfl) rfl ?_
                        refine Wl_nil ?_
                        exact ⟨⟨rfl, rfl, rfl, rfl, rfl, rfl, rfl, rfl, rfl, (by first | rfl | (rw [hb4034]; rfl) | (simp only [hb4034]; rfl)), trivial⟩, rfl⟩
                    rintro ρ _ ⟨hρ, rfl⟩
                    rw [agree_eta hρ]
                    clear hρ
                    refine W_v (.bool ((y3906.Task == (rd x2148 x2152).Task) && (decide (y3906.Call ≥ (0 : Int))))) (x_move rfl) rfl ?_
                    refine Wl_cutN 6 (fun ρ w' => Agree ρ [(5, .pointer (some ⟨b4, 0, none⟩)), (8, .slice A3658 x3657.length c3659), (9, .int .i64 x2152), (10, .pointer (some ⟨b3166, 0, none⟩)), (30, .slice A3658 x3657.length c3659), (31, .int .i64 (t146.length : Int)), (32, .int .i64 x2152), (38, .pointer (some ⟨b3171, 0, none⟩)), (59, .bool (((y3906.Task == (rd x2148 x2152).Task) && (decide (y3906.Call ≥ (0 : Int)))) && (decide (y3906.Call < (rd x2148 x2152).Call))))] ∧ w4033 = w') ?_ ?_
                    · rcases boolCases ((y3906.Task == (rd x2148 x2152).Task) && (decide (y3906.Call ≥ (0 : Int)))) with hb4035 | hb4035
                      · skip
                        refine W_no (skT hb4035) rfl ?_
                        refine W_no (skT hb4035) rfl ?_
                        refine W_no (skT hb4035) rfl ?_
                        refine W_no (skT hb4035) rfl ?_
                        refine W_no (skT hb4035) rfl ?_
                        refine W_v (.bool false) (x_pick (k := false) (congrArg Value.bool hb4035) rfl) rfl ?_
                        refine Wl_nil ?_
                        exact ⟨⟨rfl, rfl, rfl, rfl, rfl, rfl, rfl, rfl, (by first | rfl | (rw [hb4035]; rfl) | (simp only [hb4035]; rfl)), trivial⟩, rfl⟩
                      · skip
                        refine W_yes (congrArg some hb4035) ?_
                        refine W_v (.pointer (some ⟨b4030, 1, none⟩)) (x_fieldAddr (o := 0) (off := 1) Try.underlying62 rfl ty3 rfl rfl) rfl ?_
                        refine W_yes (congrArg some hb4035) ?_
                        refine W_v (.int .i64 y3906.Call) (x_load (S.blk 0 rfl) ty3 rfl rfl) rfl ?_
                        refine W_yes (congrArg some hb4035) ?_
                        refine W_v (.pointer (some ⟨b3166, 2, none⟩)) (x_fieldAddr (o := 0) (off := 2) Try.underlying32 rfl ty3 rfl rfl) rfl ?_
                        refine W_yes (congrArg some hb4035) ?_
                        refine W_v (.int .i64 ((rd x2148 x2152).Call)) (x_load (S.blk 2 rfl) ty3 rfl rfl) rfl ?_
                        refine W_yes (congrArg some hb4035) ?_
                        refine W_v (.bool (decide (y3906.Call < (rd x2148 x2152).Call))) (x_ibin rfl rfl rfl rfl) rfl ?_
                        refine W_v (.bool (decide (y3906.Call < (rd x2148 x2152).Call))) (x_pick (k := true) (congrArg Value.bool hb4035) rfl) rfl ?_
                        refine Wl_nil ?_
                        exact ⟨⟨rfl, rfl, rfl, rfl, rfl, rfl, rfl, rfl, (by first | rfl | (rw [hb4035]; rfl) | (simp only [hb4035]; rfl)), trivial⟩, rfl⟩
                    rintro ρ _ ⟨hρ, rfl⟩
                    rw [agree_eta hρ]
                    clear hρ
                    refine Wl_nil ?_
                    refine tn ?_
                    obtain ⟨o4106, o4106h, o4106H⟩ := bindS H
                    refine Wp_cut (fun ρ w' => ∃ (x4102 : List api_Event) (A4103 : Option Addr) (c4104 : Nat), (x4102) = o4106 ∧ Agree ρ [(5, .pointer (some ⟨b4, 0, none⟩)), (8, .slice A4103 x4102.length c4104), (9, .int .i64 x2152), (10, .pointer (some ⟨b3166, 0, none⟩)), (30, .slice A4103 x4102.length c4104), (31, .int .i64 (t146.length : Int)), (32, .int .i64 x2152), (38, .pointer (some ⟨b3171, 0, none⟩))] ∧ Ext w w' ∧ St w' M152 F [Row r_api_Event 32 (.slice A4103 x4102.length c4104) x4102, Blk b3166 (.cells #[.int .u8 ((rd x2148 x2152).What), .int .i64 ((rd x2148 x2152).Task), .int .i64 ((rd x2148 x2152).Call), .int .i64 ((rd x2148 x2152).Answer.Err), .bool ((rd x2148 x2152).Answer.Found), .string (bs ((rd x2148 x2152).Answer.Value)), .slice A3162 ((rd x2148 x2152).Answer.Pairs).length c3163] 32 (0, 0)), Blk b4 (.cells #[.map (mb A105)] 80 (0, 0)), RangeM enc_event_Place (Value.int .i64) A105 b3171 x104 (x3661.erase y3906) none]) ?_ ?_
                    · clear o4106H
                      have H := o4106h
                      clear o4106h
                      rcases iteS H with ⟨hb4107, H⟩ | ⟨hb4107, H⟩
                      · refine Wp_cond_true (congrArg Value.bool hb4107) ?_
                        refine Wp_region_lit ?_
                        refine W_v (.slice A3658 x3657.length c3659) (x_move rfl) rfl ?_
                        refine W_v (.int .i64 x2152) (x_move rfl) rfl ?_
                        obtain ⟨⟨p4108, p4109⟩, H⟩ := chkS H
                        obtain ⟨b4110, o4111, cs4112, _, _, ee4117, hb4113, vs4114, hR4115, hc4116⟩ := SlW.at' (S.row_read 1 rfl) p4108 p4109
                        obtain ⟨v4121, hs4120, rfl⟩ := hR4115
                        obtain ⟨A4118, c4119, rfl, _⟩ := hs4120.form
                        refine W_v (.pointer (some ⟨b4110, o4111 + x2152.toNat * 7, none⟩)) (x_indexAddr Try.underlying22 ty32 (slA ee4117) rfl p4108 p4109) rfl ?_
                        refine W_v (.pointer (some ⟨b4110, o4111 + x2152.toNat * 7 + 2, none⟩)) (x_fieldAddr (o := o4111 + x2152.toNat * 7) (off := 2) Try.underlying32 rfl ty3 rfl rfl) rfl ?_
                        refine W_v (.int .i64 ((rd x3657 x2152).Call)) (x_load (Hp.of_get hb4113) ty3 rfl (hc4116 2 _ rfl)) rfl ?_
                        refine W_v (.int .i64 (IntKind.i64.wrap ((rd x3657 x2152).Call - (1 : Int)))) (x_ibin rfl rfl rfl rfl) rfl ?_
                        obtain ⟨⟨p4122, p4123⟩, H⟩ := chkS H
                        obtain ⟨b4124, o4125, cs4126, _, _, ee4131, hb4127, vs4128, hR4129, hc4130⟩ := SlW.at' (S.row_read 1 rfl) p4122 p4123
                        obtain ⟨v4135, hs4134, rfl⟩ := hR4129
                        obtain ⟨A4132, c4133, rfl, _⟩ := hs4134.form
                        refine W_v (.pointer (some ⟨b4124, o4125 + x2152.toNat * 7, none⟩)) (x_indexAddr Try.underlying22 ty32 (slA ee4131) rfl p4122 p4123) rfl ?_
                        refine W_v (.pointer (some ⟨b4124, o4125 + x2152.toNat * 7 + 2, none⟩)) (x_fieldAddr (o := o4125 + x2152.toNat * 7) (off := 2) Try.underlying32 rfl ty3 rfl rfl) rfl ?_
                        obtain ⟨x4137, he4138, H⟩ := bindS H
                        replace he4138 := Option.some.inj he4138
                        refine W_rowstore S 1 rfl rfl ee4131 (by first | exact p4122 | simpa using p4122) (by first | exact p4123 | simpa using p4123) 2 ty3 rfl rfl [.int .i64 (IntKind.i64.wrap ((rd x3657 x2152).Call - (1 : Int)))] rfl rfl rfl rfl (⟨(rd x3657 x2152).What, (rd x3657 x2152).Task, (IntKind.i64.wrap ((rd x3657 x2152).Call - (1 : Int))), ⟨(rd x3657 x2152).Answer.Err, (rd x3657 x2152).Answer.Found, (rd x3657 x2152).Answer.Value, (rd x3657 x2152).Answer.Pairs⟩⟩ : api_Event) (by rintro _ ⟨_, h6, rfl⟩; exact ⟨_, h6, rfl⟩) he4138 ?_
                        intro w4136 E' S
                        replace E := E.trans E'
                        clear E'
                        have hs4139 : Value.slice A3658 x3657.length c3659 = Value.slice A3658 x4137.length c3659 := by rw [← he4138, List.length_set]
                        try rw [hs4139] at S
                        try rw [hs4139]
                        clear hs4139
                        refine Wl_nil ?_
                        refine tn ?_
                        exact ⟨x4137, A3658, c3659, Option.some.inj H, ⟨rfl, rfl, rfl, rfl, rfl, rfl, rfl, rfl, trivial⟩, E, S.pick [1, 2, 3, 4] (by decide)⟩
                      refine Wp_cond_false (congrArg Value.bool hb4107) ?_
                      refine Wp_skip ?_
                      refine tn ?_
                      exact ⟨x3657, A3658, c3659, Option.some.inj H, ⟨rfl, rfl, rfl, rfl, rfl, rfl, rfl, rfl, trivial⟩, E, S.pick [1, 2, 3, 4] (by decide)⟩
                    clear o4106h
                    rintro ρ w4140 ⟨x4102, A4103, c4104, rfl, hρ, E, S⟩
                    rw [agree_eta hρ]
                    clear hρ
                    have H := o4106H
                    clear o4106H
                    refine bn ?_
                    refine tn ?_
                    exact ⟨x4102, A4103, c4104, Option.some.inj H, ⟨rfl, rfl, rfl, rfl, rfl, rfl, rfl, rfl, trivial⟩, E, S.pick [0, 1, 2, 3] (by decide)⟩
                  clear o4029h
                  rintro ρ w4141 ⟨x4025, A4026, c4027, rfl, hρ, E, S⟩
                  rw [agree_eta hρ]
                  clear hρ
                  have H := o4029H
                  clear o4029H
                  refine tn ?_
                  exact ⟨k, Nat.lt_succ_self k, ⟨x4025, (x3661.erase y3906), A4026, c4027, H, ⟨rfl, rfl, rfl, rfl, rfl, rfl, rfl, rfl, trivial⟩, E, S.pick [0, 1, 2, 3] (by decide)⟩⟩
                · intro w3909 ht3912 E' S
                  replace E := E.trans E'
                  clear E'
                  rw [ht3912, event_Without_l5.eq_2, onList_nil] at H
                  replace S := S.rangeM_end 3 rfl
                  replace S : St w3909 M152 F [Row r_api_Event 32 (.slice A3658 x3657.length c3659) x3657, Blk b3166 (.cells #[.int .u8 ((rd x2148 x2152).What), .int .i64 ((rd x2148 x2152).Task), .int .i64 ((rd x2148 x2152).Call), .int .i64 ((rd x2148 x2152).Answer.Err), .bool ((rd x2148 x2152).Answer.Found), .string (bs ((rd x2148 x2152).Answer.Value)), .slice A3162 ((rd x2148 x2152).Answer.Pairs).length c3163] 32 (0, 0)), Blk b4 (.cells #[.map (mb A105)] 80 (0, 0)), MapC enc_event_Place (Value.int .i64) A105 x104] := S
                  refine W_v (.bool false) (x_extract rfl rfl) rfl ?_
                  refine Wl_nil ?_
                  refine tn ?_
                  refine Wp_seq ?_
                  refine Wp_cond_false rfl ?_
                  refine Wp_exit ?_
                  refine tx (tx (bsm (?_)))
                  refine tn ?_
                  exact ⟨x3657, A3658, c3659, Option.some.inj H, ⟨rfl, rfl, rfl, rfl, rfl, trivial⟩, E, S.pick [0, 2, 3] (by decide)⟩
          clear o3903h
          rintro ρ w4142 ⟨x3899, A3900, c3901, rfl, hρ, E, S⟩
          rw [agree_eta hρ]
          clear hρ
          have H := o3903H
          clear o3903H
          refine bn ?_
          refine tn ?_
          refine Wp_region_lit ?_
          refine W_v (.int .i64 (IntKind.i64.wrap (x2152 + (1 : Int)))) (x_ibin rfl rfl rfl rfl) rfl ?_
          refine W_v (.int .i64 (IntKind.i64.wrap (x2152 + (1 : Int)))) (x_move rfl) rfl ?_
          refine Wl_nil ?_
          refine tn ?_
          exact ⟨k, Nat.lt_succ_self k, ⟨x3899, (IntKind.i64.wrap (x2152 + (1 : Int))), A3900, c3901, H, ⟨rfl, rfl, rfl, rfl, rfl, trivial⟩, E, S.pick [0, 1, 2] (by decide)⟩⟩
        refine Wp_cond_false (congrArg Value.bool hb3151) ?_
        refine Wp_exit ?_
        refine tx (tx (bsm (?_)))
        refine tn ?_
        exact ⟨x2148, A2149, c2150, Option.some.inj H, ⟨rfl, trivial⟩, E, S.pick [0] (by decide)⟩
  clear o3149h
  rintro ρ w4143 ⟨x3145, A3146, c3147, rfl, hρ, E, S⟩
  rw [agree_eta hρ]
  clear hρ
  have H := o3149H
  clear o3149H
  refine tn ?_
  refine Wp_seq ?_
  refine Wp_region_lit ?_
  refine W_v (.slice A3146 x3145.length c3147) (x_move rfl) rfl ?_
  refine W_v (.slice A3146 x3145.length c3147) (x_assign rfl) rfl ?_
  refine Wl_nil ?_
  refine tn ?_
  refine Wp_ret ?_
  obtain rfl := Option.some.inj H
  exact ⟨_, _, _, fun w1 e1 => run_resR (vs := [.slice A3146 x3145.length c3147]) (FA.cons (rfl) (FA.nil)), HM, E, S.pick [0] (by decide), ⟨A3146, c3147, rfl, rfl⟩⟩
/-! ### (*ferryman/event.Recorder).Invoke: function 30 -/
def event_Recorder_Invoke_POO (k : Nat) (a0 : event_Recorder) (a1 : Int) : Option (Int × event_Recorder) :=
  (Option.bind (event_Recorder_put_POO k a0 a1 (0 : Int) (⟨(1 : Int), (0 : Int), (0 : Int), ⟨(0 : Int), false, ([] : Str), ([] : (List api_Pair))⟩⟩ : api_Event)) (fun t1 => some (t1.1, t1.2)))
set_option maxHeartbeats 2000000 in
theorem event_Recorder_Invoke_POO.mono {k : Nat} {a0 : event_Recorder} {a1 : Int} : OLe (event_Recorder_Invoke_POO k a0 a1) (event_Recorder_Invoke_POO (k + 1) a0 a1) := by
  unfold event_Recorder_Invoke_POO
  repeat' (first | with_reducible exact OLe.none | with_reducible exact OLe.some | with_reducible refine OLe.ite ?_ ?_ | with_reducible refine OLe.bind ?_ (fun _ => ?_) | with_reducible exact event_Recorder_put_POO.mono | refine OLe.bind ?_ (fun _ => ?_) | refine OLe.ite ?_ ?_ | refine OLe.elim (fun _ => ?_) (fun _ => ?_) | split)
set_option maxHeartbeats 1000000 in
set_option maxRecDepth 100000 in
theorem event_Recorder_Invoke_POO.con (k : Nat) (M : Hp) (A0_0 : Option Addr) (c0_0 : Nat) (A0_1 : Option Addr) (c0_1 : Nat) (a0 : event_Recorder) (a1 : Int) (bo0 : Nat) (r : Int × event_Recorder)  (h : event_Recorder_Invoke_POO k a0 a1 = some r) : Con Try.prog 30 #[.pointer (some ⟨bo0, 0, none⟩), .int .i64 a1] M [Blk bo0 (.cells #[.slice A0_0 a0.tasks.length c0_0, .slice A0_1 a0.l.length c0_1] 73 (0, 0)), Row r_event_task 70 (.slice A0_0 a0.tasks.length c0_0) a0.tasks, Row r_api_Event 32 (.slice A0_1 a0.l.length c0_1) a0.l] (fun v M' Γ' => ∃ (Aq1 : Option Addr) (cq2 : Nat) (Aq4 : Option Addr) (cq5 : Nat), v = .int .i64 r.1 ∧ Γ' = [Blk bo0 (.cells #[.slice Aq1 r.2.tasks.length cq2, .slice Aq4 r.2.l.length cq5] 73 (0, 0)), Row r_event_task 70 (.slice Aq1 r.2.tasks.length cq2) r.2.tasks, Row r_api_Event 32 (.slice Aq4 r.2.l.length cq5) r.2.l]) := by
  refine con_of_wp Try.func30 rfl Try.ntmps30 Try.results30 rfl ?_
  intro w F rn S hrn
  have E := Ext.refl w
  have HM := Hp.le_refl M
  have H := h
  unfold event_Recorder_Invoke_POO at H
  refine Wp_seq ?_
  refine Wp_region_lit ?_
  refine W_v (.int .i64 0) (x_assign rfl) rfl ?_
  refine Wl_nil ?_
  refine tn ?_
  refine Wp_seq ?_
  refine Wp_region_lit ?_
  refine W_v (.pointer (some ⟨bo0, 0, none⟩)) (x_move rfl) rfl ?_
  refine W_v (.int .i64 a1) (x_move rfl) rfl ?_
  refine W_v (.agg #[.int .u8 1, .int .i64 0, .int .i64 0, .int .i64 0, .bool false, .string (bs ([] : Str)), .slice none 0 0]) (x_build2 (pl := [(0, 1), (1, 1), (2, 1), (3, 4)]) #[.int .u8 1, .int .i64 0, .int .i64 0, .int .i64 0, .bool false, .string (bs ([] : Str)), .slice none 0 0] Try.underlying32 ty32 (by kernel_rfl) rfl (by kernel_rfl)) rfl ?_
  obtain ⟨t1, ht2, H⟩ := bindS H
  refine W_call fn34 (event_Recorder_put_POO.con k M A0_0 c0_0 A0_1 c0_1 a0 a1 (0 : Int) none 0 (⟨(1 : Int), (0 : Int), (0 : Int), ⟨(0 : Int), false, ([] : Str), ([] : (List api_Pair))⟩⟩ : api_Event) bo0 t1 (SlW.nil _ _) ht2) (Γ1 := [Blk bo0 (.cells #[.slice A0_0 a0.tasks.length c0_0, .slice A0_1 a0.l.length c0_1] 73 (0, 0)), Row r_event_task 70 (.slice A0_0 a0.tasks.length c0_0) a0.tasks, Row r_api_Event 32 (.slice A0_1 a0.l.length c0_1) a0.l]) (Γ2 := []) S rfl rfl ?_
  rintro _ w9 M10 Γ' hM11 E' S ⟨A3, c4, A6, c7, rfl, rfl⟩
  replace HM := Hp.le_trans HM hM11
  replace E := E.trans E'
  clear E'
  replace S : St w9 M10 F [Blk bo0 (.cells #[.slice A3 t1.2.tasks.length c4, .slice A6 t1.2.l.length c7] 73 (0, 0)), Row r_event_task 70 (.slice A3 t1.2.tasks.length c4) t1.2.tasks, Row r_api_Event 32 (.slice A6 t1.2.l.length c7) t1.2.l] := S
  refine W_v (.int .i64 t1.1) (x_assign rfl) rfl ?_
  refine Wl_nil ?_
  refine tn ?_
  refine Wp_ret ?_
  obtain rfl := Option.some.inj H
  exact ⟨_, _, _, fun w1 e1 => run_resR (vs := [.int .i64 t1.1]) (FA.cons (rfl) (FA.nil)), HM, E, S.pick [0, 1, 2] (by decide), ⟨A3, c4, A6, c7, rfl, rfl⟩⟩
/-! ### (*ferryman/event.Recorder).Return: function 32 -/
def event_Recorder_Return_POO (k : Nat) (a0 : event_Recorder) (a1 : Int) (a2 : api_Answer) : Option (Int × event_Recorder) :=
  (Option.bind (event_Recorder_put_POO k a0 a1 (2 : Int) (⟨(3 : Int), (0 : Int), (0 : Int), ⟨a2.Err, a2.Found, a2.Value, a2.Pairs⟩⟩ : api_Event)) (fun t4 => some (t4.1, t4.2)))
set_option maxHeartbeats 2000000 in
theorem event_Recorder_Return_POO.mono {k : Nat} {a0 : event_Recorder} {a1 : Int} {a2 : api_Answer} : OLe (event_Recorder_Return_POO k a0 a1 a2) (event_Recorder_Return_POO (k + 1) a0 a1 a2) := by
  unfold event_Recorder_Return_POO
  repeat' (first | with_reducible exact OLe.none | with_reducible exact OLe.some | with_reducible refine OLe.ite ?_ ?_ | with_reducible refine OLe.bind ?_ (fun _ => ?_) | with_reducible exact event_Recorder_put_POO.mono | refine OLe.bind ?_ (fun _ => ?_) | refine OLe.ite ?_ ?_ | refine OLe.elim (fun _ => ?_) (fun _ => ?_) | split)
set_option maxHeartbeats 1000000 in
set_option maxRecDepth 100000 in
theorem event_Recorder_Return_POO.con (k : Nat) (M : Hp) (A0_0 : Option Addr) (c0_0 : Nat) (A0_1 : Option Addr) (c0_1 : Nat) (a0 : event_Recorder) (a1 : Int) (A2_0 : Option Addr) (c2_0 : Nat) (a2 : api_Answer) (bo0 : Nat) (r : Int × event_Recorder) (hr2_0 : SlR r_api_Pair M (.slice A2_0 a2.Pairs.length c2_0) a2.Pairs) (h : event_Recorder_Return_POO k a0 a1 a2 = some r) : Con Try.prog 32 #[.pointer (some ⟨bo0, 0, none⟩), .int .i64 a1, .agg #[.int .i64 a2.Err, .bool a2.Found, .string (bs a2.Value), .slice A2_0 a2.Pairs.length c2_0]] M [Blk bo0 (.cells #[.slice A0_0 a0.tasks.length c0_0, .slice A0_1 a0.l.length c0_1] 73 (0, 0)), Row r_event_task 70 (.slice A0_0 a0.tasks.length c0_0) a0.tasks, Row r_api_Event 32 (.slice A0_1 a0.l.length c0_1) a0.l] (fun v M' Γ' => ∃ (Aq1 : Option Addr) (cq2 : Nat) (Aq4 : Option Addr) (cq5 : Nat), v = .int .i64 r.1 ∧ Γ' = [Blk bo0 (.cells #[.slice Aq1 r.2.tasks.length cq2, .slice Aq4 r.2.l.length cq5] 73 (0, 0)), Row r_event_task 70 (.slice Aq1 r.2.tasks.length cq2) r.2.tasks, Row r_api_Event 32 (.slice Aq4 r.2.l.length cq5) r.2.l]) := by
  refine con_of_wp Try.func32 rfl Try.ntmps32 Try.results32 rfl ?_
  intro w F rn S hrn
  have E := Ext.refl w
  have HM := Hp.le_refl M
  have H := h
  unfold event_Recorder_Return_POO at H
  refine Wp_seq ?_
  refine Wp_region_lit ?_
  refine W_box S #[.int .i64 a2.Err, .bool a2.Found, .string (bs a2.Value), .slice A2_0 a2.Pairs.length c2_0] rfl rfl rfl ?_
  intro b1 w2 E' S
  replace E := E.trans E'
  clear E'
  refine W_v (.int .i64 0) (x_assign rfl) rfl ?_
  refine Wl_nil ?_
  refine tn ?_
  refine Wp_seq ?_
  refine Wp_region_lit ?_
  refine W_v (.pointer (some ⟨bo0, 0, none⟩)) (x_move rfl) rfl ?_
  refine W_v (.int .i64 a1) (x_move rfl) rfl ?_
  refine W_v (.agg #[.int .i64 a2.Err, .bool a2.Found, .string (bs a2.Value), .slice A2_0 a2.Pairs.length c2_0]) (x_loadA (S.blk 0 rfl) ty30 rfl (sub_of_extract rfl) rfl rfl) rfl ?_
  refine W_v (.agg #[.int .u8 3, .int .i64 0, .int .i64 0, .int .i64 a2.Err, .bool a2.Found, .string (bs a2.Value), .slice A2_0 a2.Pairs.length c2_0]) (x_build2 (pl := [(0, 1), (1, 1), (2, 1), (3, 4)]) #[.int .u8 3, .int .i64 0, .int .i64 0, .int .i64 a2.Err, .bool a2.Found, .string (bs a2.Value), .slice A2_0 a2.Pairs.length c2_0] Try.underlying32 ty32 (by kernel_rfl) rfl (by kernel_rfl)) rfl ?_
  obtain ⟨t4, ht5, H⟩ := bindS H
  replace S : St w2 M F [Blk bo0 (.cells #[.slice A0_0 a0.tasks.length c0_0, .slice A0_1 a0.l.length c0_1] 73 (0, 0)), Row r_event_task 70 (.slice A0_0 a0.tasks.length c0_0) a0.tasks, Row r_api_Event 32 (.slice A0_1 a0.l.length c0_1) a0.l, Blk b1 (.cells #[.int .i64 a2.Err, .bool a2.Found, .string (bs a2.Value), .slice A2_0 a2.Pairs.length c2_0] 30 (0, 0))] := S.pick [1, 2, 3, 0] (by decide)
  refine W_call fn34 (event_Recorder_put_POO.con k M A0_0 c0_0 A0_1 c0_1 a0 a1 (2 : Int) A2_0 c2_0 (⟨(3 : Int), (0 : Int), (0 : Int), ⟨a2.Err, a2.Found, a2.Value, a2.Pairs⟩⟩ : api_Event) bo0 t4 hr2_0 ht5) (Γ1 := [Blk bo0 (.cells #[.slice A0_0 a0.tasks.length c0_0, .slice A0_1 a0.l.length c0_1] 73 (0, 0)), Row r_event_task 70 (.slice A0_0 a0.tasks.length c0_0) a0.tasks, Row r_api_Event 32 (.slice A0_1 a0.l.length c0_1) a0.l]) (Γ2 := [Blk b1 (.cells #[.int .i64 a2.Err, .bool a2.Found, .string (bs a2.Value), .slice A2_0 a2.Pairs.length c2_0] 30 (0, 0))]) S rfl rfl ?_
  rintro _ w12 M13 Γ' hM14 E' S ⟨A6, c7, A9, c10, rfl, rfl⟩
  replace HM := Hp.le_trans HM hM14
  replace hr2_0 := SlR.mono hr2_0 hM14
  replace E := E.trans E'
  clear E'
  replace S : St w12 M13 F [Blk bo0 (.cells #[.slice A6 t4.2.tasks.length c7, .slice A9 t4.2.l.length c10] 73 (0, 0)), Row r_event_task 70 (.slice A6 t4.2.tasks.length c7) t4.2.tasks, Row r_api_Event 32 (.slice A9 t4.2.l.length c10) t4.2.l, Blk b1 (.cells #[.int .i64 a2.Err, .bool a2.Found, .string (bs a2.Value), .slice A2_0 a2.Pairs.length c2_0] 30 (0, 0))] := S
  refine W_v (.int .i64 t4.1) (x_assign rfl) rfl ?_
  refine Wl_nil ?_
  refine tn ?_
  refine Wp_ret ?_
  obtain rfl := Option.some.inj H
  exact ⟨_, _, _, fun w1 e1 => run_resR (vs := [.int .i64 t4.1]) (FA.cons (rfl) (FA.nil)), HM, E, S.pick [0, 1, 2] (by decide), ⟨A6, c7, A9, c10, rfl, rfl⟩⟩
/-! ### (*ferryman/event.Recorder).Mark: function 31 -/
def event_Recorder_Mark_POO (k : Nat) (a0 : event_Recorder) (a1 : Int) : Option (Int × event_Recorder) :=
  (Option.bind (event_Recorder_put_POO k a0 a1 (1 : Int) (⟨(2 : Int), (0 : Int), (0 : Int), ⟨(0 : Int), false, ([] : Str), ([] : (List api_Pair))⟩⟩ : api_Event)) (fun t1 => some (t1.1, t1.2)))
set_option maxHeartbeats 2000000 in
theorem event_Recorder_Mark_POO.mono {k : Nat} {a0 : event_Recorder} {a1 : Int} : OLe (event_Recorder_Mark_POO k a0 a1) (event_Recorder_Mark_POO (k + 1) a0 a1) := by
  unfold event_Recorder_Mark_POO
  repeat' (first | with_reducible exact OLe.none | with_reducible exact OLe.some | with_reducible refine OLe.ite ?_ ?_ | with_reducible refine OLe.bind ?_ (fun _ => ?_) | with_reducible exact event_Recorder_put_POO.mono | refine OLe.bind ?_ (fun _ => ?_) | refine OLe.ite ?_ ?_ | refine OLe.elim (fun _ => ?_) (fun _ => ?_) | split)
set_option maxHeartbeats 1000000 in
set_option maxRecDepth 100000 in
theorem event_Recorder_Mark_POO.con (k : Nat) (M : Hp) (A0_0 : Option Addr) (c0_0 : Nat) (A0_1 : Option Addr) (c0_1 : Nat) (a0 : event_Recorder) (a1 : Int) (bo0 : Nat) (r : Int × event_Recorder)  (h : event_Recorder_Mark_POO k a0 a1 = some r) : Con Try.prog 31 #[.pointer (some ⟨bo0, 0, none⟩), .int .i64 a1] M [Blk bo0 (.cells #[.slice A0_0 a0.tasks.length c0_0, .slice A0_1 a0.l.length c0_1] 73 (0, 0)), Row r_event_task 70 (.slice A0_0 a0.tasks.length c0_0) a0.tasks, Row r_api_Event 32 (.slice A0_1 a0.l.length c0_1) a0.l] (fun v M' Γ' => ∃ (Aq1 : Option Addr) (cq2 : Nat) (Aq4 : Option Addr) (cq5 : Nat), v = .int .i64 r.1 ∧ Γ' = [Blk bo0 (.cells #[.slice Aq1 r.2.tasks.length cq2, .slice Aq4 r.2.l.length cq5] 73 (0, 0)), Row r_event_task 70 (.slice Aq1 r.2.tasks.length cq2) r.2.tasks, Row r_api_Event 32 (.slice Aq4 r.2.l.length cq5) r.2.l]) := by
  refine con_of_wp Try.func31 rfl Try.ntmps31 Try.results31 rfl ?_
  intro w F rn S hrn
  have E := Ext.refl w
  have HM := Hp.le_refl M
  have H := h
  unfold event_Recorder_Mark_POO at H
  refine Wp_seq ?_
  refine Wp_region_lit ?_
  refine W_v (.int .i64 0) (x_assign rfl) rfl ?_
  refine Wl_nil ?_
  refine tn ?_
  refine Wp_seq ?_
  refine Wp_region_lit ?_
  refine W_v (.pointer (some ⟨bo0, 0, none⟩)) (x_move rfl) rfl ?_
  refine W_v (.int .i64 a1) (x_move rfl) rfl ?_
  refine W_v (.agg #[.int .u8 2, .int .i64 0, .int .i64 0, .int .i64 0, .bool false, .string (bs ([] : Str)), .slice none 0 0]) (x_build2 (pl := [(0, 1), (1, 1), (2, 1), (3, 4)]) #[.int .u8 2, .int .i64 0, .int .i64 0, .int .i64 0, .bool false, .string (bs ([] : Str)), .slice none 0 0] Try.underlying32 ty32 (by kernel_rfl) rfl (by kernel_rfl)) rfl ?_
  obtain ⟨t1, ht2, H⟩ := bindS H
  refine W_call fn34 (event_Recorder_put_POO.con k M A0_0 c0_0 A0_1 c0_1 a0 a1 (1 : Int) none 0 (⟨(2 : Int), (0 : Int), (0 : Int), ⟨(0 : Int), false, ([] : Str), ([] : (List api_Pair))⟩⟩ : api_Event) bo0 t1 (SlW.nil _ _) ht2) (Γ1 := [Blk bo0 (.cells #[.slice A0_0 a0.tasks.length c0_0, .slice A0_1 a0.l.length c0_1] 73 (0, 0)), Row r_event_task 70 (.slice A0_0 a0.tasks.length c0_0) a0.tasks, Row r_api_Event 32 (.slice A0_1 a0.l.length c0_1) a0.l]) (Γ2 := []) S rfl rfl ?_
  rintro _ w9 M10 Γ' hM11 E' S ⟨A3, c4, A6, c7, rfl, rfl⟩
  replace HM := Hp.le_trans HM hM11
  replace E := E.trans E'
  clear E'
  replace S : St w9 M10 F [Blk bo0 (.cells #[.slice A3 t1.2.tasks.length c4, .slice A6 t1.2.l.length c7] 73 (0, 0)), Row r_event_task 70 (.slice A3 t1.2.tasks.length c4) t1.2.tasks, Row r_api_Event 32 (.slice A6 t1.2.l.length c7) t1.2.l] := S
  refine W_v (.int .i64 t1.1) (x_assign rfl) rfl ?_
  refine Wl_nil ?_
  refine tn ?_
  refine Wp_ret ?_
  obtain rfl := Option.some.inj H
  exact ⟨_, _, _, fun w1 e1 => run_resR (vs := [.int .i64 t1.1]) (FA.cons (rfl) (FA.nil)), HM, E, S.pick [0, 1, 2] (by decide), ⟨A3, c4, A6, c7, rfl, rfl⟩⟩
/-! ### ferryman/event.owned: function 37 -/
def event_owned_v_l0 (a0 : (List api_Event)) : Nat → List api_Event → Int → Option ((List api_Event))
  | 0, _, _ => none
  | k + 1, x90, x94 => (if (decide (x94 < (a0.length : Int))) = true then (if 0 ≤ x94 ∧ x94 < (a0.length : Int) then (Option.bind (event_own k (rd a0 x94)) (fun t162 => (if x90.length + ([t162] : List api_Event).length ≤ 1759218604441 then event_owned_v_l0 a0 k (x90 ++ ([t162] : List api_Event)) (IntKind.i64.wrap (x94 + (1 : Int))) else none))) else none) else some (x90))
set_option maxHeartbeats 2000000 in
theorem event_owned_v_l0.mono {a0 : (List api_Event)} : ∀ {k : Nat} {x0 x1}, OLe (event_owned_v_l0 a0 k x0 x1) (event_owned_v_l0 a0 (k + 1) x0 x1) := by
  intro k
  induction k with
  | zero => intros; exact OLe.none
  | succ k ih =>
    intros
    rw [event_owned_v_l0.eq_2, event_owned_v_l0.eq_2]
    repeat' (first | with_reducible exact OLe.none | with_reducible exact OLe.some | with_reducible refine OLe.ite ?_ ?_ | with_reducible refine OLe.bind ?_ (fun _ => ?_) | with_reducible exact event_own.mono | exact ih | refine OLe.bind ?_ (fun _ => ?_) | refine OLe.ite ?_ ?_ | refine OLe.elim (fun _ => ?_) (fun _ => ?_) | split)
def event_owned_v (k : Nat) (a0 : (List api_Event)) : Option ((List api_Event)) :=
  (Option.bind (event_owned_v_l0 a0 k ([] : List api_Event) (0 : Int)) (fun x134 => some x134))
set_option maxHeartbeats 2000000 in
theorem event_owned_v.mono {k : Nat} {a0 : (List api_Event)} : OLe (event_owned_v k a0) (event_owned_v (k + 1) a0) := by
  unfold event_owned_v
  repeat' (first | with_reducible exact OLe.none | with_reducible exact OLe.some | with_reducible refine OLe.ite ?_ ?_ | with_reducible refine OLe.bind ?_ (fun _ => ?_) | with_reducible exact event_owned_v_l0.mono | refine OLe.bind ?_ (fun _ => ?_) | refine OLe.ite ?_ ?_ | refine OLe.elim (fun _ => ?_) (fun _ => ?_) | split)
set_option maxHeartbeats 1000000 in
set_option maxRecDepth 100000 in
theorem event_owned_v.con (k : Nat) (M : Hp) (A0 : Option Addr) (c0 : Nat) (a0 : (List api_Event)) (r : (List api_Event)) (hr0 : SlR r_api_Event M (.slice A0 a0.length c0) a0) (h : event_owned_v k a0 = some r) : Con Try.prog 37 #[.slice A0 a0.length c0] M [] (fun v M' Γ' => ∃ (Aq1 : Option Addr) (cq2 : Nat), v = .slice Aq1 r.length cq2 ∧ Γ' = [Row r_api_Event 32 (.slice Aq1 r.length cq2) r]) := by
  refine con_of_wp Try.func37 rfl Try.ntmps37 Try.results37 rfl ?_
  intro w F rn S hrn
  have E := Ext.refl w
  have HM := Hp.le_refl M
  have H := h
  unfold event_owned_v at H
  refine Wp_seq ?_
  refine Wp_region_lit ?_
  refine W_v (.slice none 0 0) (x_assign rfl) rfl ?_
  refine Wl_nil ?_
  refine tn ?_
  refine Wp_seq ?_
  refine Wp_region_lit ?_
  refine W_v (.slice none 0 0) (x_assign rfl) rfl ?_
  refine Wl_nil ?_
  refine tn ?_
  refine Wp_seq ?_
  refine Wp_seq ?_
  refine Wp_region_lit ?_
  refine W_v (.slice A0 a0.length c0) (x_move rfl) rfl ?_
  refine W_v (.int .i64 (a0.length : Int)) (x_len_slice (n := a0.length) Try.underlying22 rfl) rfl ?_
  refine W_v (.int .i64 0) (x_move rfl) rfl ?_
  refine Wl_nil ?_
  refine tn ?_
  obtain ⟨o138, o138h, o138H⟩ := bindS H
  clear H
  refine Wp_blockJ (fun ρ w' => ∃ (x134 : List api_Event) (A135 : Option Addr) (c136 : Nat) (Mj : Hp), (x134) = o138 ∧ Agree ρ [(3, .slice A135 x134.length c136)] ∧ M.le Mj ∧ Ext w w' ∧ St w' Mj F [Row r_api_Event 32 (.slice A135 x134.length c136) x134]) ?_ ?_
  · skip
    refine Wp_loop (fun n ρ w' => ∃ (x90 : List api_Event) (x94 : Int) (A91 : Option Addr) (c92 : Nat) (Mj : Hp), event_owned_v_l0 a0 n x90 x94 = some o138 ∧ Agree ρ [(3, .slice A91 x90.length c92), (6, .slice A0 a0.length c0), (7, .int .i64 (a0.length : Int)), (8, .int .i64 x94)] ∧ M.le Mj ∧ Ext w w' ∧ St w' Mj F [Row r_api_Event 32 (.slice A91 x90.length c92) x90]) k ?_ ?_
    · skip
      replace S := S.row_nil r_api_Event 32
      exact ⟨([] : List api_Event), (0 : Int), none, 0, M, o138h, ⟨rfl, rfl, rfl, rfl, trivial⟩, (Hp.le_refl M), E, S.pick [0] (by decide)⟩
    · intro n
      rintro ρ w140 ⟨x90, x94, A91, c92, M141, H, hρ, hM142, E, S⟩
      rw [agree_eta hρ]
      clear hρ
      replace HM := Hp.le_trans HM hM142
      replace hr0 := SlR.mono hr0 hM142
      cases n with
      | zero => cases H
      | succ k =>
        rw [event_owned_v_l0.eq_2] at H
        refine Wp_seq ?_
        refine Wp_region_lit ?_
        refine W_v (.bool (decide (x94 < (a0.length : Int)))) (x_ibin rfl rfl rfl rfl) rfl ?_
        refine Wl_nil ?_
        refine tn ?_
        refine Wp_seq ?_
        rcases iteS H with ⟨hb143, H⟩ | ⟨hb143, H⟩
        · refine Wp_cond_true (congrArg Value.bool hb143) ?_
          refine Wp_skip ?_
          refine tn ?_
          refine Wp_seq ?_
          refine Wp_block ?_
          refine Wp_seq ?_
          refine Wp_region_lit ?_
          obtain ⟨⟨p144, p145⟩, H⟩ := chkS H
          obtain ⟨b146, o147, cs148, _, _, ee153, hb149, vs150, hR151, hc152⟩ := SlW.at' hr0 p144 p145
          obtain ⟨v157, hs156, rfl⟩ := hR151
          obtain ⟨A154, c155, rfl, _⟩ := hs156.form
          refine W_v (.pointer (some ⟨b146, o147 + x94.toNat * 7, none⟩)) (x_indexAddr Try.underlying22 ty32 (slA ee153) rfl p144 p145) rfl ?_
          refine W_v (.agg #[.int .u8 ((rd a0 x94).What), .int .i64 ((rd a0 x94).Task), .int .i64 ((rd a0 x94).Call), .int .i64 ((rd a0 x94).Answer.Err), .bool ((rd a0 x94).Answer.Found), .string (bs ((rd a0 x94).Answer.Value)), .slice A154 ((rd a0 x94).Answer.Pairs).length c155]) (x_loadA (S.frz hb149) ty32 rfl (sub_el hc152 0 rfl) rfl rfl) rfl ?_
          refine W_alloc S #[.int .u8 0, .int .i64 0, .int .i64 0, .int .i64 0, .bool false, .string (bs ([] : Str)), .slice none 0 0] ty32 rfl rfl ?_
          intro b158 w159 E' S
          replace E := E.trans E'
          clear E'
          refine W_store S 0 rfl ty32 rfl rfl [.int .u8 ((rd a0 x94).What), .int .i64 ((rd a0 x94).Task), .int .i64 ((rd a0 x94).Call), .int .i64 ((rd a0 x94).Answer.Err), .bool ((rd a0 x94).Answer.Found), .string (bs ((rd a0 x94).Answer.Value)), .slice A154 ((rd a0 x94).Answer.Pairs).length c155] rfl rfl rfl #[.int .u8 ((rd a0 x94).What), .int .i64 ((rd a0 x94).Task), .int .i64 ((rd a0 x94).Call), .int .i64 ((rd a0 x94).Answer.Err), .bool ((rd a0 x94).Answer.Found), .string (bs ((rd a0 x94).Answer.Value)), .slice A154 ((rd a0 x94).Answer.Pairs).length c155] rfl rfl ?_
          intro w161 E' S
          replace E := E.trans E'
          clear E'
          refine Wl_nil ?_
          refine tn ?_
          refine Wp_region_lit ?_
          refine W_v (.slice A91 x90.length c92) (x_move rfl) rfl ?_
          refine W_v (.agg #[.int .u8 ((rd a0 x94).What), .int .i64 ((rd a0 x94).Task), .int .i64 ((rd a0 x94).Call), .int .i64 ((rd a0 x94).Answer.Err), .bool ((rd a0 x94).Answer.Found), .string (bs ((rd a0 x94).Answer.Value)), .slice A154 ((rd a0 x94).Answer.Pairs).length c155]) (x_loadA (S.blk 0 rfl) ty32 rfl (sub_of_extract rfl) rfl rfl) rfl ?_
          obtain ⟨t162, ht163, H⟩ := bindS H
          refine W_callF fn47 (event_own.con k M141 A154 c155 (rd a0 x94) t162 hs156 ht163) S rfl rfl (by rintro _ _ _ ⟨_, _, _, rfl⟩; exact (flat_cons (flat_row (fun _ _ _ _ h => h)) flat_nil)) ?_
          rintro _ w167 _ Γ' E' S ⟨A164, c165, rfl, rfl⟩
          replace E := E.trans E'
          clear E'
          obtain ⟨M168, hM169, hf170, S⟩ := S.row_freeze 0 rfl
          replace HM := Hp.le_trans HM hM169
          replace hM142 := Hp.le_trans hM142 hM169
          replace hr0 := SlR.mono hr0 hM169
          replace hb149 := hM169 _ _ hb149
          replace hs156 := SlR.mono hs156 hM169
          refine W_bslice S #[.int .u8 t162.What, .int .i64 t162.Task, .int .i64 t162.Call, .int .i64 t162.Answer.Err, .bool t162.Answer.Found, .string (bs t162.Answer.Value), .slice A164 t162.Answer.Pairs.length c165] Try.underlying22 ty32 rfl rfl #[.int .u8 0, .int .i64 0, .int .i64 0, .int .i64 0, .bool false, .string (bs ([] : Str)), .slice none 0 0] (by kernel_rfl) (by kernel_rfl) rfl ?_
          intro b171 w172 E' S
          replace E := E.trans E'
          clear E'
          replace S := S.blk_row (r := r_api_Event) (l := ([t162] : List api_Event)) 0 rfl 1 (Nat.le_refl 1) rfl (Cells.cons (vs := [.int .u8 t162.What, .int .i64 t162.Task, .int .i64 t162.Call, .int .i64 t162.Answer.Err, .bool t162.Answer.Found, .string (bs t162.Answer.Value), .slice A164 t162.Answer.Pairs.length c165]) (⟨_, hf170, rfl⟩) Cells.nil)
          obtain ⟨p174, H⟩ := chkS H
          obtain ⟨src175, hs176, hC177⟩ := src_of_read (P := Try.prog) (ρ := r_api_Event) (l := ([t162] : List api_Event)) (S.row_read 0 rfl) (by decide)
          refine W_append S 2 rfl rfl rfl Try.underlying22 (.inl Try.underlying22) ty32 rfl (by decide) (by decide) hs176 hC177 rfl (by omega) rfl ?_
          intro v178 w179 E' S
          replace E := E.trans E'
          clear E'
          obtain ⟨A180, c181, rfl, _⟩ := (S.row_read 2 rfl).form
          refine W_v (.slice A180 (x90 ++ ([t162] : List api_Event)).length c181) (x_assign rfl) rfl ?_
          refine Wl_nil ?_
          refine bn ?_
          refine tn ?_
          refine Wp_region_lit ?_
          refine W_v (.int .i64 (IntKind.i64.wrap (x94 + (1 : Int)))) (x_ibin rfl rfl rfl rfl) rfl ?_
          refine W_v (.int .i64 (IntKind.i64.wrap (x94 + (1 : Int)))) (x_move rfl) rfl ?_
          refine Wl_nil ?_
          refine tn ?_
          exact ⟨k, Nat.lt_succ_self k, ⟨(x90 ++ ([t162] : List api_Event)), (IntKind.i64.wrap (x94 + (1 : Int))), A180, c181, M168, H, ⟨rfl, rfl, rfl, rfl, trivial⟩, hM142, E, S.pick [2] (by decide)⟩⟩
        refine Wp_cond_false (congrArg Value.bool hb143) ?_
        refine Wp_exit ?_
        refine tx (tx (bsm (?_)))
        refine tn ?_
        exact ⟨x90, A91, c92, M141, Option.some.inj H, ⟨rfl, trivial⟩, hM142, E, S.pick [0] (by decide)⟩
  clear o138h
  rintro ρ w182 ⟨x134, A135, c136, M183, rfl, hρ, hM184, E, S⟩
  rw [agree_eta hρ]
  clear hρ
  replace HM := Hp.le_trans HM hM184
  replace hr0 := SlR.mono hr0 hM184
  have H := o138H
  clear o138H
  refine tn ?_
  refine Wp_seq ?_
  refine Wp_region_lit ?_
  refine W_v (.slice A135 x134.length c136) (x_move rfl) rfl ?_
  refine W_v (.slice A135 x134.length c136) (x_assign rfl) rfl ?_
  refine Wl_nil ?_
  refine tn ?_
  refine Wp_ret ?_
  obtain rfl := Option.some.inj H
  exact ⟨_, _, _, fun w1 e1 => run_resR (vs := [.slice A135 x134.length c136]) (FA.cons (rfl) (FA.nil)), HM, E, S.pick [0] (by decide), ⟨A135, c136, rfl, rfl⟩⟩
end Go.Proofs.Ytninegjnkkcepaa
