import Derived.Test.YtgnbccjpgoeplaaTyl1
namespace Go.Proofs.Ytgnbccjpgoeplaa
open Go
set_option linter.unusedVariables false
set_option linter.unusedSimpArgs false
structure ferrymanref05_Name where
  Kind : Int
  ID : Int
instance : Inhabited ferrymanref05_Name := ⟨⟨0, 0⟩⟩
def r_ferrymanref05_Name : Rep ferrymanref05_Name where
  sz := 2
  R := fun _ x cs => cs = [.int .u8 x.Kind, .int .u64 x.ID]
  len := fun h => by subst h; rfl
  one := by
    intro M x cs h
    subst h
    exact fun v hv => List.all_eq_true.1 (show (List.all [.int .u8 x.Kind, .int .u64 x.ID] (·.oneCell')) = true from rfl) v hv
  mono := fun _ h => h
structure latch_Name where
  Kind : Int
  ID : Int
instance : Inhabited latch_Name := ⟨⟨0, 0⟩⟩
def r_latch_Name : Rep latch_Name where
  sz := 2
  R := fun _ x cs => cs = [.int .u8 x.Kind, .int .u64 x.ID]
  len := fun h => by subst h; rfl
  one := by
    intro M x cs h
    subst h
    exact fun v hv => List.all_eq_true.1 (show (List.all [.int .u8 x.Kind, .int .u64 x.ID] (·.oneCell')) = true from rfl) v hv
  mono := fun _ h => h
structure latch_Latches where
  by_ : (List (latch_Name × Int))
instance : Inhabited latch_Latches := ⟨⟨[]⟩⟩
structure ferrymanlaw05_Step where
  Drop : Bool
  N : latch_Name
  Task : Int
instance : Inhabited ferrymanlaw05_Step := ⟨⟨false, ⟨0, 0⟩, 0⟩⟩
def r_ferrymanlaw05_Step : Rep ferrymanlaw05_Step where
  sz := 4
  R := fun _ x cs => cs = [.bool x.Drop, .int .u8 x.N.Kind, .int .u64 x.N.ID, .int .i64 x.Task]
  len := fun h => by subst h; rfl
  one := by
    intro M x cs h
    subst h
    exact fun v hv => List.all_eq_true.1 (show (List.all [.bool x.Drop, .int .u8 x.N.Kind, .int .u64 x.N.ID, .int .i64 x.Task] (·.oneCell')) = true from rfl) v hv
  mono := fun _ h => h
structure ferrymanref05_Hold where
  N : ferrymanref05_Name
  Task : Int
instance : Inhabited ferrymanref05_Hold := ⟨⟨⟨0, 0⟩, 0⟩⟩
def r_ferrymanref05_Hold : Rep ferrymanref05_Hold where
  sz := 3
  R := fun _ x cs => cs = [.int .u8 x.N.Kind, .int .u64 x.N.ID, .int .i64 x.Task]
  len := fun h => by subst h; rfl
  one := by
    intro M x cs h
    subst h
    exact fun v hv => List.all_eq_true.1 (show (List.all [.int .u8 x.N.Kind, .int .u64 x.N.ID, .int .i64 x.Task] (·.oneCell')) = true from rfl) v hv
  mono := fun _ h => h
structure ferrymanref05_Latches where
  L : (List ferrymanref05_Hold)
instance : Inhabited ferrymanref05_Latches := ⟨⟨[]⟩⟩
def r_ferrymanref05_Latches : Rep ferrymanref05_Latches where
  sz := 1
  R := fun M x cs => ∃ v0, SlR r_ferrymanref05_Hold M v0 x.L ∧ cs = [v0]
  len := fun ⟨v0, h0, h⟩ => by subst h; rfl
  one := by
    rintro M x cs ⟨v0, h0, h⟩
    subst h
    obtain ⟨A0, c0, rfl, _⟩ := h0.form
    exact fun v hv => List.all_eq_true.1 (show (List.all [.slice A0 x.L.length c0] (·.oneCell')) = true from rfl) v hv
  mono := fun hM ⟨v0, h0, h⟩ => ⟨v0, SlR.mono h0 hM, h⟩
instance : DecidableEq latch_Name := fun a b => decidable_of_iff (a.Kind = b.Kind ∧ a.ID = b.ID) ⟨fun h => by cases a; cases b; simp_all, fun h => by subst h; simp⟩
def enc_latch_Name (x : latch_Name) : Value := .agg #[.int .u8 x.Kind, .int .u64 x.ID]
theorem key25 : KeyT Try.prog 25 enc_latch_Name := keyT_struct Try.underlying25 (fun w a b => by
    have h := eq25 w a.Kind a.ID b.Kind b.ID
    have e : ((a.Kind == b.Kind) && (a.ID == b.ID)) = decide (a = b) := by
      by_cases hc : a = b
      · subst hc; simp
      · have : ¬ (a.Kind = b.Kind ∧ a.ID = b.ID) := fun hh => hc (by cases a; cases b; simp_all)
        rw [decide_eq_false hc]
        simp only [← Bool.decide_and, Bool.and_eq_false_iff, beq_eq_false_iff_ne, ne_eq]; by_cases h1 : a.Kind = b.Kind <;> simp_all
    rw [← e]; exact h)
  (fun w e a => by
    have hi : ∀ (n : Nat) (t : TypeId) (k : IntKind) (x : Int), Try.prog.underlying t = some (.int k) → (Instr.checkKey e (n + 1) t (.int k x)).run Try.prog w = .ok () w := fun n t k x hu => by simp [Instr.checkKey, run_underlying hu, Result.andThen]
    have hb : ∀ (n : Nat) (t : TypeId) (x : Bool), Try.prog.underlying t = some .bool → (Instr.checkKey e (n + 1) t (.bool x)).run Try.prog w = .ok () w := fun n t x hu => by simp [Instr.checkKey, run_underlying hu, Result.andThen]
    have p0 : (part 5 #[.int .u8 a.Kind, .int .u64 a.ID] 0).run Try.prog w = .ok (.int .u8 a.Kind) w := part_one ty5 rfl
    have p1 : (part 23 #[.int .u8 a.Kind, .int .u64 a.ID] 1).run Try.prog w = .ok (.int .u64 a.ID) w := part_one ty23 rfl
    have h : ∀ n, (Instr.checkKey e (n + 2) 25 (enc_latch_Name a)).run Try.prog w = .ok () w := fun n => by
      unfold Instr.checkKey
      simp [enc_latch_Name, run_underlying Try.underlying25, Result.andThen, p0, p1, hi n 5 _ _ Try.underlying5, hi n 23 _ _ Try.underlying23]
    exact h 9998) (fun a => by
    have h : ∀ n, Instr.sameBits (n + 2) (enc_latch_Name a) (enc_latch_Name a) = true := fun n => by simp [Instr.sameBits, enc_latch_Name]
    exact h 9998)
/-! ### ferryman/ferrymanref05.Names: function 18 -/
def ferrymanref05_Names_l0 (a0 : (List ferrymanref05_Name)) (a1 : (List ferrymanref05_Name)) : Nat → Int → Option ((Bool) ⊕ (Unit))
  | 0, _ => none
  | k + 1, x92 => (if (decide (x92 < (a0.length : Int))) = true then (if 0 ≤ x92 ∧ x92 < (a0.length : Int) then (if 0 ≤ x92 ∧ x92 < (a1.length : Int) then (if (!(((rd a0 x92).Kind == (rd a1 x92).Kind) && ((rd a0 x92).ID == (rd a1 x92).ID))) = true then some (.inl false) else ferrymanref05_Names_l0 a0 a1 k (IntKind.i64.wrap (x92 + (1 : Int)))) else none) else none) else some (.inr ()))
set_option maxHeartbeats 2000000 in
theorem ferrymanref05_Names_l0.mono {a0 : (List ferrymanref05_Name)} {a1 : (List ferrymanref05_Name)} : ∀ {k : Nat} {x0}, OLe (ferrymanref05_Names_l0 a0 a1 k x0) (ferrymanref05_Names_l0 a0 a1 (k + 1) x0) := by
  intro k
  induction k with
  | zero => intros; exact OLe.none
  | succ k ih =>
    intros
    rw [ferrymanref05_Names_l0.eq_2, ferrymanref05_Names_l0.eq_2]
    repeat' (first | with_reducible exact OLe.none | with_reducible exact OLe.some | with_reducible refine OLe.ite ?_ ?_ | with_reducible refine OLe.bind ?_ (fun _ => ?_) | exact ih | refine OLe.bind ?_ (fun _ => ?_) | refine OLe.ite ?_ ?_ | refine OLe.elim (fun _ => ?_) (fun _ => ?_) | split)
def ferrymanref05_Names (k : Nat) (a0 : (List ferrymanref05_Name)) (a1 : (List ferrymanref05_Name)) : Option (Bool) :=
  (if ((a0.length : Int) != (a1.length : Int)) = true then some false else (Option.bind (ferrymanref05_Names_l0 a0 a1 k (0 : Int)) (fun o137o => Sum.elim (fun r' => some r') (fun _ => some true) o137o)))
set_option maxHeartbeats 2000000 in
theorem ferrymanref05_Names.mono {k : Nat} {a0 : (List ferrymanref05_Name)} {a1 : (List ferrymanref05_Name)} : OLe (ferrymanref05_Names k a0 a1) (ferrymanref05_Names (k + 1) a0 a1) := by
  unfold ferrymanref05_Names
  repeat' (first | with_reducible exact OLe.none | with_reducible exact OLe.some | with_reducible refine OLe.ite ?_ ?_ | with_reducible refine OLe.bind ?_ (fun _ => ?_) | with_reducible exact ferrymanref05_Names_l0.mono | refine OLe.bind ?_ (fun _ => ?_) | refine OLe.ite ?_ ?_ | refine OLe.elim (fun _ => ?_) (fun _ => ?_) | split)
set_option maxHeartbeats 1000000 in
set_option maxRecDepth 100000 in
theorem ferrymanref05_Names.con (k : Nat) (M : Hp) (A0 : Option Addr) (c0 : Nat) (a0 : (List ferrymanref05_Name)) (A1 : Option Addr) (c1 : Nat) (a1 : (List ferrymanref05_Name)) (r : Bool) (hr0 : SlR r_ferrymanref05_Name M (.slice A0 a0.length c0) a0) (hr1 : SlR r_ferrymanref05_Name M (.slice A1 a1.length c1) a1) (h : ferrymanref05_Names k a0 a1 = some r) : Con Try.prog 18 #[.slice A0 a0.length c0, .slice A1 a1.length c1] M [] (fun v M' Γ' => v = .bool r ∧ Γ' = []) := by
  refine con_of_wp Try.func18 rfl Try.ntmps18 Try.results18 rfl ?_
  intro w F rn S hrn
  have E := Ext.refl w
  have HM := Hp.le_refl M
  have H := h
  unfold ferrymanref05_Names at H
  refine Wp_seq ?_
  refine Wp_region_lit ?_
  refine W_v (.bool false) (x_assign rfl) rfl ?_
  refine Wl_nil ?_
  refine tn ?_
  refine Wp_seq ?_
  refine Wp_seq ?_
  refine Wp_region_lit ?_
  refine W_v (.slice A0 a0.length c0) (x_move rfl) rfl ?_
  refine W_v (.int .i64 (a0.length : Int)) (x_len_slice (n := a0.length) Try.underlying42 rfl) rfl ?_
  refine W_v (.slice A1 a1.length c1) (x_move rfl) rfl ?_
  refine W_v (.int .i64 (a1.length : Int)) (x_len_slice (n := a1.length) Try.underlying42 rfl) rfl ?_
  refine W_v (.bool ((a0.length : Int) != (a1.length : Int))) (x_ibin rfl rfl rfl rfl) rfl ?_
  refine Wl_nil ?_
  refine tn ?_
  rcases iteS H with ⟨hb1, H⟩ | ⟨hb1, H⟩
  · refine Wp_cond_true (congrArg Value.bool hb1) ?_
    refine Wp_seq ?_
    refine Wp_region_lit ?_
    refine W_v (.bool false) (x_assign rfl) rfl ?_
    refine Wl_nil ?_
    refine tn ?_
    refine Wp_ret ?_
    refine tr (?_)
    obtain rfl := Option.some.inj H
    exact ⟨_, _, _, fun w1 e1 => run_resR (vs := [.bool false]) (FA.cons (rfl) (FA.nil)), HM, E, S.pick [] (by decide), ⟨rfl, rfl⟩⟩
  refine Wp_cond_false (congrArg Value.bool hb1) ?_
  refine Wp_skip ?_
  refine tn ?_
  refine Wp_seq ?_
  refine Wp_seq ?_
  refine Wp_region_lit ?_
  refine W_v (.int .i64 0) (x_assign rfl) rfl ?_
  refine Wl_nil ?_
  refine tn ?_
  obtain ⟨o137, o137h, o137H⟩ := bindS H
  clear H
  refine Wp_blockJ (fun ρ w' => .inr () = o137 ∧ Agree ρ [] ∧ Ext w w' ∧ St w' M F []) ?_ ?_
  · skip
    refine Wp_loop (fun n ρ w' => ∃ (x92 : Int), ferrymanref05_Names_l0 a0 a1 n x92 = some o137 ∧ Agree ρ [(0, .slice A0 a0.length c0), (1, .slice A1 a1.length c1), (5, .int .i64 x92)] ∧ Ext w w' ∧ St w' M F []) k ?_ ?_
    · skip
      exact ⟨(0 : Int), o137h, ⟨rfl, rfl, rfl, trivial⟩, E, S.pick [] (by decide)⟩
    · intro n
      rintro ρ w138 ⟨x92, H, hρ, E, S⟩
      rw [agree_eta hρ]
      clear hρ
      cases n with
      | zero => cases H
      | succ k =>
        rw [ferrymanref05_Names_l0.eq_2] at H
        refine Wp_seq ?_
        refine Wp_seq ?_
        refine Wp_region_lit ?_
        refine W_v (.int .i64 x92) (x_move rfl) rfl ?_
        refine W_v (.slice A0 a0.length c0) (x_move rfl) rfl ?_
        refine W_v (.int .i64 (a0.length : Int)) (x_len_slice (n := a0.length) Try.underlying42 rfl) rfl ?_
        refine W_v (.bool (decide (x92 < (a0.length : Int)))) (x_ibin rfl rfl rfl rfl) rfl ?_
        refine Wl_nil ?_
        refine tn ?_
        rcases iteS H with ⟨hb139, H⟩ | ⟨hb139, H⟩
        · refine Wp_cond_true (congrArg Value.bool hb139) ?_
          refine Wp_skip ?_
          refine tn ?_
          refine Wp_seq ?_
          refine Wp_block ?_
          refine Wp_seq ?_
          refine Wp_region_any (S := fun w' => ∃ Mx, M.le Mx ∧ St w' Mx F []) (L := 9) mixed ?_
          intro w160 hw161 E'
          replace S := S.heap hw161
          replace E := E.trans E'
          clear E'
          refine Wa_take (i := 0) rfl (by kernel_rfl) rfl rfl (.slice A0 a0.length c0) rfl (fun w' h' => x_move rfl) (⟨M, Hp.le_refl M, S.pick [] (by decide)⟩) ?_
          refine Wa_take (i := 1) rfl (by kernel_rfl) rfl rfl (.int .i64 x92) rfl (fun w' h' => x_move rfl) (⟨M, Hp.le_refl M, S.pick [] (by decide)⟩) ?_
          obtain ⟨⟨p162, p163⟩, H⟩ := chkS H
          obtain ⟨b164, o165, cs166, _, _, ee171, hb167, vs168, hR169, hc170⟩ := SlW.at' hr0 p162 p163
          obtain rfl : vs168 = _ := hR169
          refine Wa_take (i := 2) rfl (by kernel_rfl) rfl rfl (.pointer (some ⟨b164, o165 + x92.toNat * 2, none⟩)) rfl (fun w' h' => x_indexAddr Try.underlying42 ty44 (slA ee171) rfl p162 p163) (⟨M, Hp.le_refl M, S.pick [] (by decide)⟩) ?_
          refine Wa_take (i := 3) rfl (by kernel_rfl) rfl rfl (.agg #[.int .u8 ((rd a0 x92).Kind), .int .u64 ((rd a0 x92).ID)]) rfl (fun w' h' => x_loadA (cls_frz h' hb167) ty44 rfl (sub_el hc170 0 rfl) rfl rfl) (⟨M, Hp.le_refl M, S.pick [] (by decide)⟩) ?_
          refine Wa_take (i := 4) rfl (by kernel_rfl) rfl rfl (.slice A1 a1.length c1) rfl (fun w' h' => x_move rfl) (⟨M, Hp.le_refl M, S.pick [] (by decide)⟩) ?_
          refine Wa_take (i := 5) rfl (by kernel_rfl) rfl rfl (.int .i64 x92) rfl (fun w' h' => x_move rfl) (⟨M, Hp.le_refl M, S.pick [] (by decide)⟩) ?_
          obtain ⟨⟨p172, p173⟩, H⟩ := chkS H
          obtain ⟨b174, o175, cs176, _, _, ee181, hb177, vs178, hR179, hc180⟩ := SlW.at' hr1 p172 p173
          obtain rfl : vs178 = _ := hR179
          refine Wa_take (i := 6) rfl (by kernel_rfl) rfl rfl (.pointer (some ⟨b174, o175 + x92.toNat * 2, none⟩)) rfl (fun w' h' => x_indexAddr Try.underlying42 ty44 (slA ee181) rfl p172 p173) (⟨M, Hp.le_refl M, S.pick [] (by decide)⟩) ?_
          refine Wa_take (i := 7) rfl (by kernel_rfl) rfl rfl (.agg #[.int .u8 ((rd a1 x92).Kind), .int .u64 ((rd a1 x92).ID)]) rfl (fun w' h' => x_loadA (cls_frz h' hb177) ty44 rfl (sub_el hc180 0 rfl) rfl rfl) (⟨M, Hp.le_refl M, S.pick [] (by decide)⟩) ?_
          refine Wa_take (i := 8) rfl (by kernel_rfl) rfl rfl (.bool (!(((rd a0 x92).Kind == (rd a1 x92).Kind) && ((rd a0 x92).ID == (rd a1 x92).ID)))) rfl (fun w' h' => x_ne_of (en44 _ _ _ _) rfl (eq44 _ ((rd a0 x92).Kind) ((rd a0 x92).ID) ((rd a1 x92).Kind) ((rd a1 x92).ID))) (⟨M, Hp.le_refl M, S.pick [] (by decide)⟩) ?_
          refine Wa_done (by kernel_rfl) ?_
          refine tn ?_
          rcases iteS H with ⟨hb182, H⟩ | ⟨hb182, H⟩
          · refine Wp_cond_true (congrArg Value.bool hb182) ?_
            refine Wp_seq ?_
            refine Wp_region_lit ?_
            refine W_v (.bool false) (x_assign rfl) rfl ?_
            refine Wl_nil ?_
            refine tn ?_
            refine Wp_ret ?_
            refine br (tr (tr (br (tr (tr (?_))))))
            obtain rfl := Option.some.inj H
            have H := o137H
            replace H := elimL H
            obtain rfl := Option.some.inj H
            exact ⟨_, _, _, fun w1 e1 => run_resR (vs := [.bool false]) (FA.cons (rfl) (FA.nil)), HM, E, S.pick [] (by decide), ⟨rfl, rfl⟩⟩
          refine Wp_cond_false (congrArg Value.bool hb182) ?_
          refine Wp_skip ?_
          refine bn ?_
          refine tn ?_
          refine Wp_region_lit ?_
          refine W_v (.int .i64 x92) (x_move rfl) rfl ?_
          refine W_v (.int .i64 (IntKind.i64.wrap (x92 + (1 : Int)))) (x_ibin rfl rfl rfl rfl) rfl ?_
          refine W_v (.int .i64 (IntKind.i64.wrap (x92 + (1 : Int)))) (x_assign rfl) rfl ?_
          refine Wl_nil ?_
          refine tn ?_
          exact ⟨k, Nat.lt_succ_self k, ⟨(IntKind.i64.wrap (x92 + (1 : Int))), H, ⟨rfl, rfl, rfl, trivial⟩, E, S.pick [] (by decide)⟩⟩
        refine Wp_cond_false (congrArg Value.bool hb139) ?_
        refine Wp_exit ?_
        refine tx (tx (bsm (?_)))
        refine tn ?_
        exact ⟨Option.some.inj H, trivial, E, S.pick [] (by decide)⟩
  clear o137h
  rintro ρ w183 ⟨rfl, hρ, E, S⟩
  rw [agree_eta hρ]
  clear hρ
  have H := o137H
  clear o137H
  replace H := elimR H
  refine tn ?_
  refine Wp_seq ?_
  refine Wp_region_lit ?_
  refine W_v (.bool true) (x_assign rfl) rfl ?_
  refine Wl_nil ?_
  refine tn ?_
  refine Wp_ret ?_
  obtain rfl := Option.some.inj H
  exact ⟨_, _, _, fun w1 e1 => run_resR (vs := [.bool true]) (FA.cons (rfl) (FA.nil)), HM, E, S.pick [] (by decide), ⟨rfl, rfl⟩⟩
/-! ### ferryman/ferrymanlaw05.names: function 19 -/
def ferrymanlaw05_names_l0 (a0 : (List latch_Name)) : Nat → List ferrymanref05_Name → Int → Option ((List ferrymanref05_Name))
  | 0, _, _ => none
  | k + 1, x56, x60 => (if (decide (x60 < (a0.length : Int))) = true then (if 0 ≤ x60 ∧ x60 < (a0.length : Int) then (if x56.length + ([(⟨(rd a0 x60).Kind, (rd a0 x60).ID⟩ : ferrymanref05_Name)] : List ferrymanref05_Name).length ≤ 8796093022208 then ferrymanlaw05_names_l0 a0 k (x56 ++ ([(⟨(rd a0 x60).Kind, (rd a0 x60).ID⟩ : ferrymanref05_Name)] : List ferrymanref05_Name)) (IntKind.i64.wrap (x60 + (1 : Int))) else none) else none) else some (x56))
set_option maxHeartbeats 2000000 in
theorem ferrymanlaw05_names_l0.mono {a0 : (List latch_Name)} : ∀ {k : Nat} {x0 x1}, OLe (ferrymanlaw05_names_l0 a0 k x0 x1) (ferrymanlaw05_names_l0 a0 (k + 1) x0 x1) := by
  intro k
  induction k with
  | zero => intros; exact OLe.none
  | succ k ih =>
    intros
    rw [ferrymanlaw05_names_l0.eq_2, ferrymanlaw05_names_l0.eq_2]
    repeat' (first | with_reducible exact OLe.none | with_reducible exact OLe.some | with_reducible refine OLe.ite ?_ ?_ | with_reducible refine OLe.bind ?_ (fun _ => ?_) | exact ih | refine OLe.bind ?_ (fun _ => ?_) | refine OLe.ite ?_ ?_ | refine OLe.elim (fun _ => ?_) (fun _ => ?_) | split)
def ferrymanlaw05_names (k : Nat) (a0 : (List latch_Name)) : Option ((List ferrymanref05_Name)) :=
  (Option.bind (ferrymanlaw05_names_l0 a0 k ([] : List ferrymanref05_Name) (0 : Int)) (fun x83 => some x83))
set_option maxHeartbeats 2000000 in
theorem ferrymanlaw05_names.mono {k : Nat} {a0 : (List latch_Name)} : OLe (ferrymanlaw05_names k a0) (ferrymanlaw05_names (k + 1) a0) := by
  unfold ferrymanlaw05_names
  repeat' (first | with_reducible exact OLe.none | with_reducible exact OLe.some | with_reducible refine OLe.ite ?_ ?_ | with_reducible refine OLe.bind ?_ (fun _ => ?_) | with_reducible exact ferrymanlaw05_names_l0.mono | refine OLe.bind ?_ (fun _ => ?_) | refine OLe.ite ?_ ?_ | refine OLe.elim (fun _ => ?_) (fun _ => ?_) | split)
set_option maxHeartbeats 1000000 in
set_option maxRecDepth 100000 in
theorem ferrymanlaw05_names.con (k : Nat) (M : Hp) (A0 : Option Addr) (c0 : Nat) (a0 : (List latch_Name)) (r : (List ferrymanref05_Name)) (hr0 : SlR r_latch_Name M (.slice A0 a0.length c0) a0) (h : ferrymanlaw05_names k a0 = some r) : Con Try.prog 19 #[.slice A0 a0.length c0] M [] (fun v M' Γ' => ∃ (A0 : Option Addr) (c0 : Nat), v = .slice A0 r.length c0 ∧ Γ' = [Row r_ferrymanref05_Name 44 (.slice A0 r.length c0) r]) := by
  refine con_of_wp Try.func19 rfl Try.ntmps19 Try.results19 rfl ?_
  intro w F rn S hrn
  have E := Ext.refl w
  have HM := Hp.le_refl M
  have H := h
  unfold ferrymanlaw05_names at H
  refine Wp_seq ?_
  refine Wp_region_lit ?_
  refine W_v (.slice none 0 0) (x_assign rfl) rfl ?_
  refine Wl_nil ?_
  refine tn ?_
  refine Wp_seq ?_
  refine Wp_region_lit ?_
  refine W_v (.slice none 0 0) (x_assign rfl) rfl ?_
  refine Wl_nil ?_
  refine tn ?_
  refine Wp_seq ?_
  refine Wp_seq ?_
  refine Wp_region_lit ?_
  refine W_v (.int .i64 0) (x_assign rfl) rfl ?_
  refine Wl_nil ?_
  refine tn ?_
  obtain ⟨o87, o87h, o87H⟩ := bindS H
  clear H
  refine Wp_blockJ (fun ρ w' => ∃ (x83 : List ferrymanref05_Name) (A84 : Option Addr) (c85 : Nat), (x83) = o87 ∧ Agree ρ [(3, .slice A84 x83.length c85)] ∧ Ext w w' ∧ St w' M F [Row r_ferrymanref05_Name 44 (.slice A84 x83.length c85) x83]) ?_ ?_
  · skip
    refine Wp_loop (fun n ρ w' => ∃ (x56 : List ferrymanref05_Name) (x60 : Int) (A57 : Option Addr) (c58 : Nat), ferrymanlaw05_names_l0 a0 n x56 x60 = some o87 ∧ Agree ρ [(0, .slice A0 a0.length c0), (3, .slice A57 x56.length c58), (4, .int .i64 x60)] ∧ Ext w w' ∧ St w' M F [Row r_ferrymanref05_Name 44 (.slice A57 x56.length c58) x56]) k ?_ ?_
    · skip
      replace S := S.row_nil r_ferrymanref05_Name 44
      exact ⟨([] : List ferrymanref05_Name), (0 : Int), none, 0, o87h, ⟨rfl, rfl, rfl, trivial⟩, E, S.pick [0] (by decide)⟩
    · intro n
      rintro ρ w89 ⟨x56, x60, A57, c58, H, hρ, E, S⟩
      rw [agree_eta hρ]
      clear hρ
      cases n with
      | zero => cases H
      | succ k =>
        rw [ferrymanlaw05_names_l0.eq_2] at H
        refine Wp_seq ?_
        refine Wp_seq ?_
        refine Wp_region_lit ?_
        refine W_v (.int .i64 x60) (x_move rfl) rfl ?_
        refine W_v (.slice A0 a0.length c0) (x_move rfl) rfl ?_
        refine W_v (.int .i64 (a0.length : Int)) (x_len_slice (n := a0.length) Try.underlying38 rfl) rfl ?_
        refine W_v (.bool (decide (x60 < (a0.length : Int)))) (x_ibin rfl rfl rfl rfl) rfl ?_
        refine Wl_nil ?_
        refine tn ?_
        rcases iteS H with ⟨hb90, H⟩ | ⟨hb90, H⟩
        · refine Wp_cond_true (congrArg Value.bool hb90) ?_
          refine Wp_skip ?_
          refine tn ?_
          refine Wp_seq ?_
          refine Wp_block ?_
          refine Wp_region_lit ?_
          refine W_v (.slice A57 x56.length c58) (x_move rfl) rfl ?_
          refine W_v (.slice A0 a0.length c0) (x_move rfl) rfl ?_
          refine W_v (.int .i64 x60) (x_move rfl) rfl ?_
          obtain ⟨⟨p91, p92⟩, H⟩ := chkS H
          obtain ⟨b93, o94, cs95, _, _, ee100, hb96, vs97, hR98, hc99⟩ := SlW.at' hr0 p91 p92
          obtain rfl : vs97 = _ := hR98
          refine W_v (.pointer (some ⟨b93, o94 + x60.toNat * 2, none⟩)) (x_indexAddr Try.underlying38 ty25 (slA ee100) rfl p91 p92) rfl ?_
          refine W_v (.agg #[.int .u8 ((rd a0 x60).Kind), .int .u64 ((rd a0 x60).ID)]) (x_loadA (S.frz hb96) ty25 rfl (sub_el hc99 0 rfl) rfl rfl) rfl ?_
          refine W_bslice S #[.int .u8 ((rd a0 x60).Kind), .int .u64 ((rd a0 x60).ID)] Try.underlying42 ty44 rfl rfl #[.int .u8 0, .int .u64 0] (by kernel_rfl) (by kernel_rfl) rfl ?_
          intro b101 w102 E' S
          replace E := E.trans E'
          clear E'
          replace S := S.blk_row (r := r_ferrymanref05_Name) (l := ([(⟨(rd a0 x60).Kind, (rd a0 x60).ID⟩ : ferrymanref05_Name)] : List ferrymanref05_Name)) 0 rfl 1 (Nat.le_refl 1) rfl (Cells.cons (vs := [.int .u8 ((rd a0 x60).Kind), .int .u64 ((rd a0 x60).ID)]) (rfl) Cells.nil)
          obtain ⟨p104, H⟩ := chkS H
          obtain ⟨src105, hs106, hC107⟩ := src_of_read (P := Try.prog) (ρ := r_ferrymanref05_Name) (l := ([(⟨(rd a0 x60).Kind, (rd a0 x60).ID⟩ : ferrymanref05_Name)] : List ferrymanref05_Name)) (S.row_read 0 rfl) (by decide)
          refine W_append S 1 rfl rfl rfl Try.underlying42 (.inl Try.underlying42) ty44 rfl (by decide) (by decide) hs106 hC107 rfl (by omega) rfl ?_
          intro v108 w109 E' S
          replace E := E.trans E'
          clear E'
          obtain ⟨A110, c111, rfl, _⟩ := (S.row_read 1 rfl).form
          refine W_v (.slice A110 (x56 ++ ([(⟨(rd a0 x60).Kind, (rd a0 x60).ID⟩ : ferrymanref05_Name)] : List ferrymanref05_Name)).length c111) (x_assign rfl) rfl ?_
          refine Wl_nil ?_
          refine bn ?_
          refine tn ?_
          refine Wp_region_lit ?_
          refine W_v (.int .i64 x60) (x_move rfl) rfl ?_
          refine W_v (.int .i64 (IntKind.i64.wrap (x60 + (1 : Int)))) (x_ibin rfl rfl rfl rfl) rfl ?_
          refine W_v (.int .i64 (IntKind.i64.wrap (x60 + (1 : Int)))) (x_assign rfl) rfl ?_
          refine Wl_nil ?_
          refine tn ?_
          exact ⟨k, Nat.lt_succ_self k, ⟨(x56 ++ ([(⟨(rd a0 x60).Kind, (rd a0 x60).ID⟩ : ferrymanref05_Name)] : List ferrymanref05_Name)), (IntKind.i64.wrap (x60 + (1 : Int))), A110, c111, H, ⟨rfl, rfl, rfl, trivial⟩, E, S.pick [1] (by decide)⟩⟩
        refine Wp_cond_false (congrArg Value.bool hb90) ?_
        refine Wp_exit ?_
        refine tx (tx (bsm (?_)))
        refine tn ?_
        exact ⟨x56, A57, c58, Option.some.inj H, ⟨rfl, trivial⟩, E, S.pick [0] (by decide)⟩
  clear o87h
  rintro ρ w112 ⟨x83, A84, c85, rfl, hρ, E, S⟩
  rw [agree_eta hρ]
  clear hρ
  have H := o87H
  clear o87H
  refine tn ?_
  refine Wp_seq ?_
  refine Wp_region_lit ?_
  refine W_v (.slice A84 x83.length c85) (x_move rfl) rfl ?_
  refine W_v (.slice A84 x83.length c85) (x_assign rfl) rfl ?_
  refine Wl_nil ?_
  refine tn ?_
  refine Wp_ret ?_
  obtain rfl := Option.some.inj H
  exact ⟨_, _, _, fun w1 e1 => run_resR (vs := [.slice A84 x83.length c85]) (FA.cons (rfl) (FA.nil)), HM, E, S.pick [0] (by decide), ⟨A84, c85, rfl, rfl⟩⟩
/-! ### ferryman/latch.New: function 10 -/
def latch_New (k : Nat)  : Option (latch_Latches) :=
  some (⟨([] : List (latch_Name × Int))⟩ : latch_Latches)
set_option maxHeartbeats 2000000 in
theorem latch_New.mono {k : Nat}  : OLe (latch_New k ) (latch_New (k + 1) ) := by
  unfold latch_New
  repeat' (first | with_reducible exact OLe.none | with_reducible exact OLe.some | with_reducible refine OLe.ite ?_ ?_ | with_reducible refine OLe.bind ?_ (fun _ => ?_) | refine OLe.bind ?_ (fun _ => ?_) | refine OLe.ite ?_ ?_ | refine OLe.elim (fun _ => ?_) (fun _ => ?_) | split)
set_option maxHeartbeats 1000000 in
set_option maxRecDepth 100000 in
theorem latch_New.con (k : Nat) (M : Hp)  (r : latch_Latches)  (h : latch_New k  = some r) : Con Try.prog 10 #[] M [] (fun v M' Γ' => ∃ (bq1 : Nat) (Aq3 : Option Addr) (cq4 : Nat), v = .pointer (some ⟨bq1, 0, none⟩) ∧ Γ' = [Blk bq1 (.cells #[.map (mb Aq3)] 56 (0, 0)), MapC enc_latch_Name (Value.int .i64) Aq3 r.by_]) := by
  refine con_of_wp Try.func10 rfl Try.ntmps10 Try.results10 rfl ?_
  intro w F rn S hrn
  have E := Ext.refl w
  have HM := Hp.le_refl M
  have H := h
  unfold latch_New at H
  refine Wp_seq ?_
  refine Wp_region_lit ?_
  refine W_v (.pointer none) (x_assign rfl) rfl ?_
  refine Wl_nil ?_
  refine tn ?_
  refine Wp_seq ?_
  refine Wp_region_lit ?_
  refine W_makeMap (κ := latch_Name) (ν := Int) enc_latch_Name (Value.int .i64) S rfl ?_
  intro b1 w2 E' S
  replace E := E.trans E'
  clear E'
  replace S : St w2 M F [MapC enc_latch_Name (Value.int .i64) (some ⟨b1, 0, none⟩) ([] : List (latch_Name × Int))] := S
  refine W_v (.agg #[.map (mb (some ⟨b1, 0, none⟩))]) (x_build2 (pl := [(0, 1)]) #[.map (mb (some ⟨b1, 0, none⟩))] Try.underlying56 ty56 (by kernel_rfl) rfl (by kernel_rfl)) rfl ?_
  refine W_box S #[.map (mb (some ⟨b1, 0, none⟩))] rfl rfl rfl ?_
  intro b4 w5 E' S
  replace E := E.trans E'
  clear E'
  refine W_v (.pointer (some ⟨b4, 0, none⟩)) (x_assign rfl) rfl ?_
  refine Wl_nil ?_
  refine tn ?_
  refine Wp_ret ?_
  obtain rfl := Option.some.inj H
  exact ⟨_, _, _, fun w1 e1 => run_resR (vs := [.pointer (some ⟨b4, 0, none⟩)]) (FA.cons (rfl) (FA.nil)), HM, E, S.pick [0, 1] (by decide), ⟨b4, (some ⟨b1, 0, none⟩), 0, rfl, rfl⟩⟩
/-! ### (*ferryman/latch.Latches).Owner: function 13 -/
def latch_Latches_Owner_PO (k : Nat) (a0 : latch_Latches) (a1 : latch_Name) : Option (Int × Bool) :=
  some (((mget a0.by_ a1).getD (0 : Int)), (mget a0.by_ a1).isSome)
set_option maxHeartbeats 2000000 in
theorem latch_Latches_Owner_PO.mono {k : Nat} {a0 : latch_Latches} {a1 : latch_Name} : OLe (latch_Latches_Owner_PO k a0 a1) (latch_Latches_Owner_PO (k + 1) a0 a1) := by
  unfold latch_Latches_Owner_PO
  repeat' (first | with_reducible exact OLe.none | with_reducible exact OLe.some | with_reducible refine OLe.ite ?_ ?_ | with_reducible refine OLe.bind ?_ (fun _ => ?_) | refine OLe.bind ?_ (fun _ => ?_) | refine OLe.ite ?_ ?_ | refine OLe.elim (fun _ => ?_) (fun _ => ?_) | split)
set_option maxHeartbeats 1000000 in
set_option maxRecDepth 100000 in
theorem latch_Latches_Owner_PO.con (k : Nat) (M : Hp) (A0_0 : Option Addr) (c0_0 : Nat) (a0 : latch_Latches) (a1 : latch_Name) (bo0 : Nat) (r : Int × Bool)  (h : latch_Latches_Owner_PO k a0 a1 = some r) : Con Try.prog 13 #[.pointer (some ⟨bo0, 0, none⟩), .agg #[.int .u8 a1.Kind, .int .u64 a1.ID]] M [Blk bo0 (.cells #[.map (mb A0_0)] 56 (0, 0)), MapC enc_latch_Name (Value.int .i64) A0_0 a0.by_] (fun v M' Γ' => v = .tuple #[.int .i64 r.1, .bool r.2] ∧ Γ' = [Blk bo0 (.cells #[.map (mb A0_0)] 56 (0, 0)), MapC enc_latch_Name (Value.int .i64) A0_0 a0.by_]) := by
  refine con_of_wp Try.func13 rfl Try.ntmps13 Try.results13 rfl ?_
  intro w F rn S hrn
  have E := Ext.refl w
  have HM := Hp.le_refl M
  have H := h
  unfold latch_Latches_Owner_PO at H
  refine Wp_seq ?_
  refine Wp_region_lit ?_
  refine W_box S #[.int .u8 a1.Kind, .int .u64 a1.ID] rfl rfl rfl ?_
  intro b1 w2 E' S
  replace E := E.trans E'
  clear E'
  refine W_v (.int .i64 0) (x_assign rfl) rfl ?_
  refine W_v (.bool false) (x_assign rfl) rfl ?_
  refine Wl_nil ?_
  refine tn ?_
  refine Wp_seq ?_
  refine Wp_seq ?_
  refine Wp_region_lit ?_
  refine W_v (.pointer (some ⟨bo0, 0, none⟩)) (x_move rfl) rfl ?_
  refine W_v (.bool false) (x_eq_of (r := false) rfl rfl (run_eq_ptrsn Try.underlying27)) rfl ?_
  refine Wl_nil ?_
  refine tn ?_
  refine Wp_cond_false rfl ?_
  refine Wp_skip ?_
  refine tn ?_
  refine Wp_seq ?_
  refine Wp_region_any (S := fun w' => ∃ Mx, M.le Mx ∧ St w' Mx F [Blk b1 (.cells #[.int .u8 a1.Kind, .int .u64 a1.ID] 25 (0, 0)), Blk bo0 (.cells #[.map (mb A0_0)] 56 (0, 0)), MapC enc_latch_Name (Value.int .i64) A0_0 a0.by_]) (L := 11) mixed ?_
  intro w4 hw5 E'
  replace S := S.heap hw5
  replace E := E.trans E'
  clear E'
  refine Wa_take (i := 0) rfl (by kernel_rfl) rfl rfl (.pointer (some ⟨bo0, 0, none⟩)) rfl (fun w' h' => x_move rfl) (⟨M, Hp.le_refl M, S.pick [0, 1, 2] (by decide)⟩) ?_
  refine Wa_take (i := 1) rfl (by kernel_rfl) rfl rfl (.pointer (some ⟨bo0, 0, none⟩)) rfl (fun w' h' => x_nilptr rfl) (⟨M, Hp.le_refl M, S.pick [0, 1, 2] (by decide)⟩) ?_
  refine Wa_take (i := 2) rfl (by kernel_rfl) rfl rfl (.pointer (some ⟨bo0, 0, none⟩)) rfl (fun w' h' => x_fieldAddr (o := 0) (off := 0) Try.underlying56 rfl ty54 rfl rfl) (⟨M, Hp.le_refl M, S.pick [0, 1, 2] (by decide)⟩) ?_
  refine Wa_take (i := 3) rfl (by kernel_rfl) rfl rfl (.map (mb A0_0)) rfl (fun w' h' => x_load (cls_blk h' 1 rfl) ty54 rfl rfl) (⟨M, Hp.le_refl M, S.pick [0, 1, 2] (by decide)⟩) ?_
  refine Wa_take (i := 4) rfl (by kernel_rfl) rfl rfl (.agg #[.int .u8 a1.Kind, .int .u64 a1.ID]) rfl (fun w' h' => x_loadA (cls_blk h' 0 rfl) ty25 rfl (sub_of_extract rfl) rfl rfl) (⟨M, Hp.le_refl M, S.pick [0, 1, 2] (by decide)⟩) ?_
  refine Wa_take (i := 5) rfl (by kernel_rfl) rfl rfl (.tuple #[.int .i64 ((mget a0.by_ a1).getD (0 : Int)), .bool ((mget a0.by_ a1).isSome)]) rfl (fun w' h' => Exists.elim h' fun Mx h9 => x_lookupOk h9.2 2 rfl Try.underlying54 key25 (0 : Int) (fun _ => ty3.zero) a1 rfl rfl) (⟨M, Hp.le_refl M, S.pick [0, 1, 2] (by decide)⟩) ?_
  refine Wa_take (i := 6) rfl (by kernel_rfl) rfl rfl (.tuple #[.int .i64 ((mget a0.by_ a1).getD (0 : Int)), .bool ((mget a0.by_ a1).isSome)]) rfl (fun w' h' => x_move rfl) (⟨M, Hp.le_refl M, S.pick [0, 1, 2] (by decide)⟩) ?_
  refine Wa_take (i := 7) rfl (by kernel_rfl) rfl rfl (.int .i64 ((mget a0.by_ a1).getD (0 : Int))) rfl (fun w' h' => x_extract rfl rfl) (⟨M, Hp.le_refl M, S.pick [0, 1, 2] (by decide)⟩) ?_
  refine Wa_take (i := 8) rfl (by kernel_rfl) rfl rfl (.bool ((mget a0.by_ a1).isSome)) rfl (fun w' h' => x_extract rfl rfl) (⟨M, Hp.le_refl M, S.pick [0, 1, 2] (by decide)⟩) ?_
  refine Wa_take (i := 9) rfl (by kernel_rfl) rfl rfl (.int .i64 ((mget a0.by_ a1).getD (0 : Int))) rfl (fun w' h' => x_assign rfl) (⟨M, Hp.le_refl M, S.pick [0, 1, 2] (by decide)⟩) ?_
  refine Wa_take (i := 10) rfl (by kernel_rfl) rfl rfl (.bool ((mget a0.by_ a1).isSome)) rfl (fun w' h' => x_assign rfl) (⟨M, Hp.le_refl M, S.pick [0, 1, 2] (by decide)⟩) ?_
  refine Wa_done (by kernel_rfl) ?_
  refine tn ?_
  refine Wp_seq ?_
  refine Wp_region_lit ?_
  refine W_v (.int .i64 ((mget a0.by_ a1).getD (0 : Int))) (x_move rfl) rfl ?_
  refine W_v (.bool ((mget a0.by_ a1).isSome)) (x_move rfl) rfl ?_
  refine W_v (.int .i64 ((mget a0.by_ a1).getD (0 : Int))) (x_assign rfl) rfl ?_
  refine W_v (.bool ((mget a0.by_ a1).isSome)) (x_assign rfl) rfl ?_
  refine Wl_nil ?_
  refine tn ?_
  refine Wp_ret ?_
  obtain rfl := Option.some.inj H
  exact ⟨_, _, _, fun w1 e1 => run_resR (vs := [.int .i64 ((mget a0.by_ a1).getD (0 : Int)), .bool ((mget a0.by_ a1).isSome)]) (FA.cons (rfl) (FA.cons (rfl) (FA.nil))), HM, E, S.pick [1, 2] (by decide), ⟨rfl, rfl⟩⟩
/-! ### (*ferryman/latch.Latches).Try: function 12 -/
def latch_Latches_Try_PO (k : Nat) (a0 : latch_Latches) (a1 : latch_Name) (a2 : Int) : Option (Bool × latch_Latches) :=
  (Option.bind (latch_Latches_Owner_PO k a0 a1) (fun t4 => (if (t4.2 && (t4.1 != a2)) = true then some (false, a0) else (Option.bind (α := List (latch_Name × Int)) (some (mput a0.by_ a1 a2)) (fun x17 => some (true, (⟨x17⟩ : latch_Latches)))))))
set_option maxHeartbeats 2000000 in
theorem latch_Latches_Try_PO.mono {k : Nat} {a0 : latch_Latches} {a1 : latch_Name} {a2 : Int} : OLe (latch_Latches_Try_PO k a0 a1 a2) (latch_Latches_Try_PO (k + 1) a0 a1 a2) := by
  unfold latch_Latches_Try_PO
  repeat' (first | with_reducible exact OLe.none | with_reducible exact OLe.some | with_reducible refine OLe.ite ?_ ?_ | with_reducible refine OLe.bind ?_ (fun _ => ?_) | with_reducible exact latch_Latches_Owner_PO.mono | refine OLe.bind ?_ (fun _ => ?_) | refine OLe.ite ?_ ?_ | refine OLe.elim (fun _ => ?_) (fun _ => ?_) | split)
set_option maxHeartbeats 1000000 in
set_option maxRecDepth 100000 in
theorem latch_Latches_Try_PO.con (k : Nat) (M : Hp) (A0_0 : Option Addr) (c0_0 : Nat) (a0 : latch_Latches) (a1 : latch_Name) (a2 : Int) (bo0 : Nat) (r : Bool × latch_Latches)  (h : latch_Latches_Try_PO k a0 a1 a2 = some r) : Con Try.prog 12 #[.pointer (some ⟨bo0, 0, none⟩), .agg #[.int .u8 a1.Kind, .int .u64 a1.ID], .int .i64 a2] M [Blk bo0 (.cells #[.map (mb A0_0)] 56 (0, 0)), MapC enc_latch_Name (Value.int .i64) A0_0 a0.by_] (fun v M' Γ' => ∃ (Aq1 : Option Addr) (cq2 : Nat), v = .bool r.1 ∧ Γ' = [Blk bo0 (.cells #[.map (mb Aq1)] 56 (0, 0)), MapC enc_latch_Name (Value.int .i64) Aq1 r.2.by_]) := by
  refine con_of_wp Try.func12 rfl Try.ntmps12 Try.results12 rfl ?_
  intro w F rn S hrn
  have E := Ext.refl w
  have HM := Hp.le_refl M
  have H := h
  unfold latch_Latches_Try_PO at H
  refine Wp_seq ?_
  refine Wp_region_lit ?_
  refine W_box S #[.int .u8 a1.Kind, .int .u64 a1.ID] rfl rfl rfl ?_
  intro b1 w2 E' S
  replace E := E.trans E'
  clear E'
  refine W_v (.bool false) (x_assign rfl) rfl ?_
  refine Wl_nil ?_
  refine tn ?_
  refine Wp_seq ?_
  refine Wp_region_lit ?_
  refine W_v (.pointer (some ⟨bo0, 0, none⟩)) (x_move rfl) rfl ?_
  refine W_v (.agg #[.int .u8 a1.Kind, .int .u64 a1.ID]) (x_loadA (S.blk 0 rfl) ty25 rfl (sub_of_extract rfl) rfl rfl) rfl ?_
  obtain ⟨t4, ht5, H⟩ := bindS H
  replace S : St w2 M F [Blk bo0 (.cells #[.map (mb A0_0)] 56 (0, 0)), MapC enc_latch_Name (Value.int .i64) A0_0 a0.by_, Blk b1 (.cells #[.int .u8 a1.Kind, .int .u64 a1.ID] 25 (0, 0))] := S.pick [1, 2, 0] (by decide)
  refine W_callF2 fn13 (latch_Latches_Owner_PO.con k M A0_0 c0_0 a0 a1 bo0 t4  ht5) (Γ1 := [Blk bo0 (.cells #[.map (mb A0_0)] 56 (0, 0)), MapC enc_latch_Name (Value.int .i64) A0_0 a0.by_]) (Γ2 := [Blk b1 (.cells #[.int .u8 a1.Kind, .int .u64 a1.ID] 25 (0, 0))]) S rfl rfl (by rintro _ _ _ ⟨rfl, rfl⟩; exact (flat_cons flat_blk (flat_cons flat_map flat_nil))) ?_
  rintro _ w6 _ Γ' E' S ⟨rfl, rfl⟩
  replace E := E.trans E'
  clear E'
  replace S : St w6 M F [Blk bo0 (.cells #[.map (mb A0_0)] 56 (0, 0)), MapC enc_latch_Name (Value.int .i64) A0_0 a0.by_, Blk b1 (.cells #[.int .u8 a1.Kind, .int .u64 a1.ID] 25 (0, 0))] := S
  refine W_v (.tuple #[.int .i64 t4.1, .bool t4.2]) (x_move rfl) rfl ?_
  refine W_v (.int .i64 t4.1) (x_extract rfl rfl) rfl ?_
  refine W_v (.bool t4.2) (x_extract rfl rfl) rfl ?_
  refine W_v (.int .i64 t4.1) (x_assign rfl) rfl ?_
  refine W_v (.bool t4.2) (x_assign rfl) rfl ?_
  refine Wl_nil ?_
  refine tn ?_
  refine Wp_seq ?_
  refine Wp_seq ?_
  refine Wp_region_lit ?_
  refine W_v (.pointer (some ⟨bo0, 0, none⟩)) (x_move rfl) rfl ?_
  refine W_v (.bool false) (x_eq_of (r := false) rfl rfl (run_eq_ptrsn Try.underlying27)) rfl ?_
  refine W_v (.bool false) (x_move rfl) rfl ?_
  refine W_yes (rfl) ?_
  refine W_v (.bool t4.2) (x_move rfl) rfl ?_
  refine W_yes (rfl) ?_
  refine W_v (.bool t4.2) (x_move rfl) rfl ?_
  refine Wl_cutN 4 (fun ρ w' => Agree ρ [(0, .pointer (some ⟨bo0, 0, none⟩)), (2, .int .i64 a2), (4, .pointer (some ⟨b1, 0, none⟩)), (17, .bool false), (23, .bool (t4.2 && (t4.1 != a2)))] ∧ w6 = w') ?_ ?_
  · rcases boolCases t4.2 with hb9 | hb9
    · skip
      refine W_no (skT hb9) rfl ?_
      refine W_no (skT hb9) rfl ?_
      refine W_no (skT hb9) rfl ?_
      refine W_yes (rfl) ?_
      refine W_v (.bool false) (x_pick (k := false) (congrArg Value.bool hb9) rfl) rfl ?_
      refine Wl_nil ?_
      exact ⟨⟨rfl, rfl, rfl, rfl, (by first | rfl | (rw [hb9]; rfl) | (simp only [hb9]; rfl)), trivial⟩, rfl⟩
    · skip
      refine W_yes (congrArg some hb9) ?_
      refine W_v (.int .i64 t4.1) (x_move rfl) rfl ?_
      refine W_yes (congrArg some hb9) ?_
      refine W_v (.int .i64 a2) (x_move rfl) rfl ?_
      refine W_yes (congrArg some hb9) ?_
      refine W_v (.bool (t4.1 != a2)) (x_ibin rfl rfl rfl rfl) rfl ?_
      refine W_yes (rfl) ?_
      refine W_v (.bool (t4.1 != a2)) (x_pick (k := true) (congrArg Value.bool hb9) rfl) rfl ?_
      refine Wl_nil ?_
      exact ⟨⟨rfl, rfl, rfl, rfl, (by first | rfl | (rw [hb9]; rfl) | (simp only [hb9]; rfl)), trivial⟩, rfl⟩
  rintro ρ _ ⟨hρ, rfl⟩
  rw [agree_eta hρ]
  clear hρ
  refine W_v (.bool (t4.2 && (t4.1 != a2))) (x_pick (k := false) rfl rfl) rfl ?_
  refine Wl_nil ?_
  refine tn ?_
  rcases iteS H with ⟨hb10, H⟩ | ⟨hb10, H⟩
  · refine Wp_cond_true (congrArg Value.bool hb10) ?_
    refine Wp_seq ?_
    refine Wp_region_lit ?_
    refine W_v (.bool false) (x_assign rfl) rfl ?_
    refine Wl_nil ?_
    refine tn ?_
    refine Wp_ret ?_
    refine tr (?_)
    obtain rfl := Option.some.inj H
    exact ⟨_, _, _, fun w1 e1 => run_resR (vs := [.bool false]) (FA.cons (rfl) (FA.nil)), HM, E, S.pick [0, 1] (by decide), ⟨A0_0, c0_0, rfl, rfl⟩⟩
  refine Wp_cond_false (congrArg Value.bool hb10) ?_
  refine Wp_skip ?_
  refine tn ?_
  refine Wp_seq ?_
  refine Wp_region_any (S := fun w' => ∃ Mx, M.le Mx ∧ St w' Mx F [Blk bo0 (.cells #[.map (mb A0_0)] 56 (0, 0)), Blk b1 (.cells #[.int .u8 a1.Kind, .int .u64 a1.ID] 25 (0, 0))]) (L := 7) mixed ?_
  intro w14 hw15 E'
  replace S := S.heap hw15
  replace E := E.trans E'
  clear E'
  refine Wa_take (i := 0) rfl (by kernel_rfl) rfl rfl (.pointer (some ⟨bo0, 0, none⟩)) rfl (fun w' h' => x_move rfl) (⟨M, Hp.le_refl M, S.pick [0, 2] (by decide)⟩) ?_
  refine Wa_take (i := 1) rfl (by kernel_rfl) rfl rfl (.pointer (some ⟨bo0, 0, none⟩)) rfl (fun w' h' => x_nilptr rfl) (⟨M, Hp.le_refl M, S.pick [0, 2] (by decide)⟩) ?_
  refine Wa_take (i := 2) rfl (by kernel_rfl) rfl rfl (.pointer (some ⟨bo0, 0, none⟩)) rfl (fun w' h' => x_fieldAddr (o := 0) (off := 0) Try.underlying56 rfl ty54 rfl rfl) (⟨M, Hp.le_refl M, S.pick [0, 2] (by decide)⟩) ?_
  refine Wa_take (i := 3) rfl (by kernel_rfl) rfl rfl (.map (mb A0_0)) rfl (fun w' h' => x_load (cls_blk h' 0 rfl) ty54 rfl rfl) (⟨M, Hp.le_refl M, S.pick [0, 2] (by decide)⟩) ?_
  refine Wa_take (i := 4) rfl (by kernel_rfl) rfl rfl (.agg #[.int .u8 a1.Kind, .int .u64 a1.ID]) rfl (fun w' h' => x_loadA (cls_blk h' 1 rfl) ty25 rfl (sub_of_extract rfl) rfl rfl) (⟨M, Hp.le_refl M, S.pick [0, 2] (by decide)⟩) ?_
  refine Wa_take (i := 5) rfl (by kernel_rfl) rfl rfl (.int .i64 a2) rfl (fun w' h' => x_move rfl) (⟨M, Hp.le_refl M, S.pick [0, 2] (by decide)⟩) ?_
  refine Wa_solo (i := 6) rfl (by kernel_rfl) ?_
  obtain ⟨x17, he18, H⟩ := bindS H
  replace he18 := Option.some.inj he18
  refine W_mapUpdate S 1 rfl Try.underlying54 key25 a1 a2 he18 rfl rfl rfl ?_
  intro w16 E' S
  replace E := E.trans E'
  clear E'
  replace S : St w16 M F [Blk bo0 (.cells #[.map (mb A0_0)] 56 (0, 0)), MapC enc_latch_Name (Value.int .i64) A0_0 x17, Blk b1 (.cells #[.int .u8 a1.Kind, .int .u64 a1.ID] 25 (0, 0))] := S
  refine Wl_nil (on_n ⟨.inr ⟨M, Hp.le_refl M, S.pick [0, 2] (by decide)⟩, ?_⟩)
  refine Wa_done (by kernel_rfl) ?_
  refine tn ?_
  refine Wp_seq ?_
  refine Wp_region_lit ?_
  refine W_v (.bool true) (x_assign rfl) rfl ?_
  refine Wl_nil ?_
  refine tn ?_
  refine Wp_ret ?_
  obtain rfl := Option.some.inj H
  exact ⟨_, _, _, fun w1 e1 => run_resR (vs := [.bool true]) (FA.cons (rfl) (FA.nil)), HM, E, S.pick [0, 1] (by decide), ⟨A0_0, c0_0, rfl, rfl⟩⟩
/-! ### (*ferryman/latch.Latches).Drop: function 11 -/
def latch_Latches_Drop_PO (k : Nat) (a0 : latch_Latches) (a1 : latch_Name) (a2 : Int) : Option (Bool × latch_Latches) :=
  (Option.bind (latch_Latches_Owner_PO k a0 a1) (fun t4 => (if ((!t4.2) || (t4.1 != a2)) = true then some (false, a0) else (Option.bind (α := List (latch_Name × Int)) (some (mdel a0.by_ a1)) (fun x17 => some (true, (⟨x17⟩ : latch_Latches)))))))
set_option maxHeartbeats 2000000 in
theorem latch_Latches_Drop_PO.mono {k : Nat} {a0 : latch_Latches} {a1 : latch_Name} {a2 : Int} : OLe (latch_Latches_Drop_PO k a0 a1 a2) (latch_Latches_Drop_PO (k + 1) a0 a1 a2) := by
  unfold latch_Latches_Drop_PO
  repeat' (first | with_reducible exact OLe.none | with_reducible exact OLe.some | with_reducible refine OLe.ite ?_ ?_ | with_reducible refine OLe.bind ?_ (fun _ => ?_) | with_reducible exact latch_Latches_Owner_PO.mono | refine OLe.bind ?_ (fun _ => ?_) | refine OLe.ite ?_ ?_ | refine OLe.elim (fun _ => ?_) (fun _ => ?_) | split)
set_option maxHeartbeats 1000000 in
set_option maxRecDepth 100000 in
theorem latch_Latches_Drop_PO.con (k : Nat) (M : Hp) (A0_0 : Option Addr) (c0_0 : Nat) (a0 : latch_Latches) (a1 : latch_Name) (a2 : Int) (bo0 : Nat) (r : Bool × latch_Latches)  (h : latch_Latches_Drop_PO k a0 a1 a2 = some r) : Con Try.prog 11 #[.pointer (some ⟨bo0, 0, none⟩), .agg #[.int .u8 a1.Kind, .int .u64 a1.ID], .int .i64 a2] M [Blk bo0 (.cells #[.map (mb A0_0)] 56 (0, 0)), MapC enc_latch_Name (Value.int .i64) A0_0 a0.by_] (fun v M' Γ' => ∃ (Aq1 : Option Addr) (cq2 : Nat), v = .bool r.1 ∧ Γ' = [Blk bo0 (.cells #[.map (mb Aq1)] 56 (0, 0)), MapC enc_latch_Name (Value.int .i64) Aq1 r.2.by_]) := by
  refine con_of_wp Try.func11 rfl Try.ntmps11 Try.results11 rfl ?_
  intro w F rn S hrn
  have E := Ext.refl w
  have HM := Hp.le_refl M
  have H := h
  unfold latch_Latches_Drop_PO at H
  refine Wp_seq ?_
  refine Wp_region_lit ?_
  refine W_box S #[.int .u8 a1.Kind, .int .u64 a1.ID] rfl rfl rfl ?_
  intro b1 w2 E' S
  replace E := E.trans E'
  clear E'
  refine W_v (.bool false) (x_assign rfl) rfl ?_
  refine Wl_nil ?_
  refine tn ?_
  refine Wp_seq ?_
  refine Wp_region_lit ?_
  refine W_v (.pointer (some ⟨bo0, 0, none⟩)) (x_move rfl) rfl ?_
  refine W_v (.agg #[.int .u8 a1.Kind, .int .u64 a1.ID]) (x_loadA (S.blk 0 rfl) ty25 rfl (sub_of_extract rfl) rfl rfl) rfl ?_
  obtain ⟨t4, ht5, H⟩ := bindS H
  replace S : St w2 M F [Blk bo0 (.cells #[.map (mb A0_0)] 56 (0, 0)), MapC enc_latch_Name (Value.int .i64) A0_0 a0.by_, Blk b1 (.cells #[.int .u8 a1.Kind, .int .u64 a1.ID] 25 (0, 0))] := S.pick [1, 2, 0] (by decide)
  refine W_callF2 fn13 (latch_Latches_Owner_PO.con k M A0_0 c0_0 a0 a1 bo0 t4  ht5) (Γ1 := [Blk bo0 (.cells #[.map (mb A0_0)] 56 (0, 0)), MapC enc_latch_Name (Value.int .i64) A0_0 a0.by_]) (Γ2 := [Blk b1 (.cells #[.int .u8 a1.Kind, .int .u64 a1.ID] 25 (0, 0))]) S rfl rfl (by rintro _ _ _ ⟨rfl, rfl⟩; exact (flat_cons flat_blk (flat_cons flat_map flat_nil))) ?_
  rintro _ w6 _ Γ' E' S ⟨rfl, rfl⟩
  replace E := E.trans E'
  clear E'
  replace S : St w6 M F [Blk bo0 (.cells #[.map (mb A0_0)] 56 (0, 0)), MapC enc_latch_Name (Value.int .i64) A0_0 a0.by_, Blk b1 (.cells #[.int .u8 a1.Kind, .int .u64 a1.ID] 25 (0, 0))] := S
  refine W_v (.tuple #[.int .i64 t4.1, .bool t4.2]) (x_move rfl) rfl ?_
  refine W_v (.int .i64 t4.1) (x_extract rfl rfl) rfl ?_
  refine W_v (.bool t4.2) (x_extract rfl rfl) rfl ?_
  refine W_v (.int .i64 t4.1) (x_assign rfl) rfl ?_
  refine W_v (.bool t4.2) (x_assign rfl) rfl ?_
  refine Wl_nil ?_
  refine tn ?_
  refine Wp_seq ?_
  refine Wp_seq ?_
  refine Wp_region_lit ?_
  refine W_v (.bool t4.2) (x_move rfl) rfl ?_
  refine W_v (.bool (!t4.2)) (x_not rfl) rfl ?_
  refine W_v (.bool (!t4.2)) (x_move rfl) rfl ?_
  refine Wl_cutN 4 (fun ρ w' => Agree ρ [(0, .pointer (some ⟨bo0, 0, none⟩)), (4, .pointer (some ⟨b1, 0, none⟩)), (21, .bool ((!t4.2) || (t4.1 != a2)))] ∧ w6 = w') ?_ ?_
  · rcases boolCases (!t4.2) with hb9 | hb9
    · skip
      refine W_yes (congrArg some hb9) ?_
      refine W_v (.int .i64 t4.1) (x_move rfl) rfl ?_
      refine W_yes (congrArg some hb9) ?_
      refine W_v (.int .i64 a2) (x_move rfl) rfl ?_
      refine W_yes (congrArg some hb9) ?_
      refine W_v (.bool (t4.1 != a2)) (x_ibin rfl rfl rfl rfl) rfl ?_
      refine W_v (.bool (t4.1 != a2)) (x_pick (k := false) (congrArg Value.bool hb9) rfl) rfl ?_
      refine Wl_nil ?_
      exact ⟨⟨rfl, rfl, (by first | rfl | (rw [hb9]; rfl) | (simp only [hb9]; rfl)), trivial⟩, rfl⟩
    · skip
      refine W_no (skF hb9) rfl ?_
      refine W_no (skF hb9) rfl ?_
      refine W_no (skF hb9) rfl ?_
      refine W_v (.bool true) (x_pick (k := true) (congrArg Value.bool hb9) rfl) rfl ?_
      refine Wl_nil ?_
      exact ⟨⟨rfl, rfl, (by first | rfl | (rw [hb9]; rfl) | (simp only [hb9]; rfl)), trivial⟩, rfl⟩
  rintro ρ _ ⟨hρ, rfl⟩
  rw [agree_eta hρ]
  clear hρ
  refine Wl_nil ?_
  refine tn ?_
  rcases iteS H with ⟨hb10, H⟩ | ⟨hb10, H⟩
  · refine Wp_cond_true (congrArg Value.bool hb10) ?_
    refine Wp_seq ?_
    refine Wp_region_lit ?_
    refine W_v (.bool false) (x_assign rfl) rfl ?_
    refine Wl_nil ?_
    refine tn ?_
    refine Wp_ret ?_
    refine tr (?_)
    obtain rfl := Option.some.inj H
    exact ⟨_, _, _, fun w1 e1 => run_resR (vs := [.bool false]) (FA.cons (rfl) (FA.nil)), HM, E, S.pick [0, 1] (by decide), ⟨A0_0, c0_0, rfl, rfl⟩⟩
  refine Wp_cond_false (congrArg Value.bool hb10) ?_
  refine Wp_skip ?_
  refine tn ?_
  refine Wp_seq ?_
  refine Wp_region_any (S := fun w' => ∃ Mx, M.le Mx ∧ St w' Mx F [Blk bo0 (.cells #[.map (mb A0_0)] 56 (0, 0)), Blk b1 (.cells #[.int .u8 a1.Kind, .int .u64 a1.ID] 25 (0, 0))]) (L := 6) mixed ?_
  intro w14 hw15 E'
  replace S := S.heap hw15
  replace E := E.trans E'
  clear E'
  refine Wa_take (i := 0) rfl (by kernel_rfl) rfl rfl (.pointer (some ⟨bo0, 0, none⟩)) rfl (fun w' h' => x_move rfl) (⟨M, Hp.le_refl M, S.pick [0, 2] (by decide)⟩) ?_
  refine Wa_take (i := 1) rfl (by kernel_rfl) rfl rfl (.pointer (some ⟨bo0, 0, none⟩)) rfl (fun w' h' => x_nilptr rfl) (⟨M, Hp.le_refl M, S.pick [0, 2] (by decide)⟩) ?_
  refine Wa_take (i := 2) rfl (by kernel_rfl) rfl rfl (.pointer (some ⟨bo0, 0, none⟩)) rfl (fun w' h' => x_fieldAddr (o := 0) (off := 0) Try.underlying56 rfl ty54 rfl rfl) (⟨M, Hp.le_refl M, S.pick [0, 2] (by decide)⟩) ?_
  refine Wa_take (i := 3) rfl (by kernel_rfl) rfl rfl (.map (mb A0_0)) rfl (fun w' h' => x_load (cls_blk h' 0 rfl) ty54 rfl rfl) (⟨M, Hp.le_refl M, S.pick [0, 2] (by decide)⟩) ?_
  refine Wa_take (i := 4) rfl (by kernel_rfl) rfl rfl (.agg #[.int .u8 a1.Kind, .int .u64 a1.ID]) rfl (fun w' h' => x_loadA (cls_blk h' 1 rfl) ty25 rfl (sub_of_extract rfl) rfl rfl) (⟨M, Hp.le_refl M, S.pick [0, 2] (by decide)⟩) ?_
  refine Wa_solo (i := 5) rfl (by kernel_rfl) ?_
  obtain ⟨x17, he18, H⟩ := bindS H
  replace he18 := Option.some.inj he18
  refine W_delete0 S 1 rfl Try.underlying54 key25 a1 he18 rfl rfl ?_
  intro w16 E' S
  replace E := E.trans E'
  clear E'
  replace S : St w16 M F [Blk bo0 (.cells #[.map (mb A0_0)] 56 (0, 0)), MapC enc_latch_Name (Value.int .i64) A0_0 x17, Blk b1 (.cells #[.int .u8 a1.Kind, .int .u64 a1.ID] 25 (0, 0))] := S
  refine Wl_nil (on_n ⟨.inr ⟨M, Hp.le_refl M, S.pick [0, 2] (by decide)⟩, ?_⟩)
  refine Wa_done (by kernel_rfl) ?_
  refine tn ?_
  refine Wp_seq ?_
  refine Wp_region_lit ?_
  refine W_v (.bool true) (x_assign rfl) rfl ?_
  refine Wl_nil ?_
  refine tn ?_
  refine Wp_ret ?_
  obtain rfl := Option.some.inj H
  exact ⟨_, _, _, fun w1 e1 => run_resR (vs := [.bool true]) (FA.cons (rfl) (FA.nil)), HM, E, S.pick [0, 1] (by decide), ⟨A0_0, c0_0, rfl, rfl⟩⟩
/-! ### cmp.Or[int]: function 27 -/
def cmp_Or_int_l0 (a0 : (List Int)) : Nat → Int → Option ((Int) ⊕ (Unit))
  | 0, _ => none
  | k + 1, x27 => (if (decide (x27 < (a0.length : Int))) = true then (if 0 ≤ x27 ∧ x27 < (a0.length : Int) then (if ((rd a0 x27) != (0 : Int)) = true then some (.inl (rd a0 x27)) else cmp_Or_int_l0 a0 k (IntKind.i64.wrap (x27 + (1 : Int)))) else none) else some (.inr ()))
set_option maxHeartbeats 2000000 in
theorem cmp_Or_int_l0.mono {a0 : (List Int)} : ∀ {k : Nat} {x0}, OLe (cmp_Or_int_l0 a0 k x0) (cmp_Or_int_l0 a0 (k + 1) x0) := by
  intro k
  induction k with
  | zero => intros; exact OLe.none
  | succ k ih =>
    intros
    rw [cmp_Or_int_l0.eq_2, cmp_Or_int_l0.eq_2]
    repeat' (first | with_reducible exact OLe.none | with_reducible exact OLe.some | with_reducible refine OLe.ite ?_ ?_ | with_reducible refine OLe.bind ?_ (fun _ => ?_) | exact ih | refine OLe.bind ?_ (fun _ => ?_) | refine OLe.ite ?_ ?_ | refine OLe.elim (fun _ => ?_) (fun _ => ?_) | split)
def cmp_Or_int (k : Nat) (a0 : (List Int)) : Option (Int) :=
  (Option.bind (cmp_Or_int_l0 a0 k (0 : Int)) (fun o40o => Sum.elim (fun r' => some r') (fun _ => some (0 : Int)) o40o))
set_option maxHeartbeats 2000000 in
theorem cmp_Or_int.mono {k : Nat} {a0 : (List Int)} : OLe (cmp_Or_int k a0) (cmp_Or_int (k + 1) a0) := by
  unfold cmp_Or_int
  repeat' (first | with_reducible exact OLe.none | with_reducible exact OLe.some | with_reducible refine OLe.ite ?_ ?_ | with_reducible refine OLe.bind ?_ (fun _ => ?_) | with_reducible exact cmp_Or_int_l0.mono | refine OLe.bind ?_ (fun _ => ?_) | refine OLe.ite ?_ ?_ | refine OLe.elim (fun _ => ?_) (fun _ => ?_) | split)
set_option maxHeartbeats 1000000 in
set_option maxRecDepth 100000 in
theorem cmp_Or_int.con (k : Nat) (M : Hp) (A0 : Option Addr) (c0 : Nat) (a0 : (List Int)) (r : Int) (hr0 : SlR (rInt .i64) M (.slice A0 a0.length c0) a0) (h : cmp_Or_int k a0 = some r) : Con Try.prog 27 #[.slice A0 a0.length c0] M [] (fun v M' Γ' => v = .int .i64 r ∧ Γ' = []) := by
  refine con_of_wp Try.func27 rfl Try.ntmps27 Try.results27 rfl ?_
  intro w F rn S hrn
  have E := Ext.refl w
  have HM := Hp.le_refl M
  have H := h
  unfold cmp_Or_int at H
  refine Wp_seq ?_
  refine Wp_region_lit ?_
  refine W_v (.int .i64 0) (x_assign rfl) rfl ?_
  refine Wl_nil ?_
  refine tn ?_
  refine Wp_seq ?_
  refine Wp_region_lit ?_
  refine W_v (.int .i64 0) (x_assign rfl) rfl ?_
  refine Wl_nil ?_
  refine tn ?_
  refine Wp_seq ?_
  refine Wp_seq ?_
  refine Wp_region_lit ?_
  refine W_v (.slice A0 a0.length c0) (x_move rfl) rfl ?_
  refine W_v (.int .i64 (a0.length : Int)) (x_len_slice (n := a0.length) Try.underlying69 rfl) rfl ?_
  refine W_v (.int .i64 0) (x_move rfl) rfl ?_
  refine Wl_nil ?_
  refine tn ?_
  obtain ⟨o40, o40h, o40H⟩ := bindS H
  clear H
  refine Wp_blockJ (fun ρ w' => .inr () = o40 ∧ Agree ρ [(3, .int .i64 0)] ∧ Ext w w' ∧ St w' M F []) ?_ ?_
  · skip
    refine Wp_loop (fun n ρ w' => ∃ (x27 : Int), cmp_Or_int_l0 a0 n x27 = some o40 ∧ Agree ρ [(3, .int .i64 0), (6, .slice A0 a0.length c0), (7, .int .i64 (a0.length : Int)), (8, .int .i64 x27)] ∧ Ext w w' ∧ St w' M F []) k ?_ ?_
    · skip
      exact ⟨(0 : Int), o40h, ⟨rfl, rfl, rfl, rfl, trivial⟩, E, S.pick [] (by decide)⟩
    · intro n
      rintro ρ w41 ⟨x27, H, hρ, E, S⟩
      rw [agree_eta hρ]
      clear hρ
      cases n with
      | zero => cases H
      | succ k =>
        rw [cmp_Or_int_l0.eq_2] at H
        refine Wp_seq ?_
        refine Wp_region_lit ?_
        refine W_v (.bool (decide (x27 < (a0.length : Int)))) (x_ibin rfl rfl rfl rfl) rfl ?_
        refine Wl_nil ?_
        refine tn ?_
        refine Wp_seq ?_
        rcases iteS H with ⟨hb42, H⟩ | ⟨hb42, H⟩
        · refine Wp_cond_true (congrArg Value.bool hb42) ?_
          refine Wp_skip ?_
          refine tn ?_
          refine Wp_seq ?_
          refine Wp_block ?_
          refine Wp_seq ?_
          refine Wp_region_lit ?_
          obtain ⟨⟨p43, p44⟩, H⟩ := chkS H
          obtain ⟨b45, o46, cs47, _, _, ee52, hb48, vs49, hR50, hc51⟩ := SlW.at' hr0 p43 p44
          obtain rfl : vs49 = _ := hR50
          refine W_v (.pointer (some ⟨b45, o46 + x27.toNat * 1, none⟩)) (x_indexAddr Try.underlying69 ty3 (slA ee52) rfl p43 p44) rfl ?_
          refine W_v (.int .i64 (rd a0 x27)) (x_load (S.frz hb48) ty3 rfl (hc51 0 _ rfl)) rfl ?_
          refine W_v (.int .i64 (rd a0 x27)) (x_assign rfl) rfl ?_
          refine Wl_nil ?_
          refine tn ?_
          refine Wp_seq ?_
          refine Wp_region_lit ?_
          refine W_v (.int .i64 (rd a0 x27)) (x_move rfl) rfl ?_
          refine W_v (.int .i64 0) (x_move rfl) rfl ?_
          refine W_v (.bool ((rd a0 x27) != (0 : Int))) (x_ibin rfl rfl rfl rfl) rfl ?_
          refine Wl_nil ?_
          refine tn ?_
          rcases iteS H with ⟨hb53, H⟩ | ⟨hb53, H⟩
          · refine Wp_cond_true (congrArg Value.bool hb53) ?_
            refine Wp_seq ?_
            refine Wp_region_lit ?_
            refine W_v (.int .i64 (rd a0 x27)) (x_move rfl) rfl ?_
            refine W_v (.int .i64 (rd a0 x27)) (x_assign rfl) rfl ?_
            refine Wl_nil ?_
            refine tn ?_
            refine Wp_ret ?_
            refine br (tr (tr (br (tr (tr (?_))))))
            obtain rfl := Option.some.inj H
            have H := o40H
            replace H := elimL H
            obtain rfl := Option.some.inj H
            exact ⟨_, _, _, fun w1 e1 => run_resR (vs := [.int .i64 (rd a0 x27)]) (FA.cons (rfl) (FA.nil)), HM, E, S.pick [] (by decide), ⟨rfl, rfl⟩⟩
          refine Wp_cond_false (congrArg Value.bool hb53) ?_
          refine Wp_skip ?_
          refine bn ?_
          refine tn ?_
          refine Wp_region_lit ?_
          refine W_v (.int .i64 (IntKind.i64.wrap (x27 + (1 : Int)))) (x_ibin rfl rfl rfl rfl) rfl ?_
          refine W_v (.int .i64 (IntKind.i64.wrap (x27 + (1 : Int)))) (x_move rfl) rfl ?_
          refine Wl_nil ?_
          refine tn ?_
          exact ⟨k, Nat.lt_succ_self k, ⟨(IntKind.i64.wrap (x27 + (1 : Int))), H, ⟨rfl, rfl, rfl, rfl, trivial⟩, E, S.pick [] (by decide)⟩⟩
        refine Wp_cond_false (congrArg Value.bool hb42) ?_
        refine Wp_exit ?_
        refine tx (tx (bsm (?_)))
        refine tn ?_
        exact ⟨Option.some.inj H, ⟨rfl, trivial⟩, E, S.pick [] (by decide)⟩
  clear o40h
  rintro ρ w54 ⟨rfl, hρ, E, S⟩
  rw [agree_eta hρ]
  clear hρ
  have H := o40H
  clear o40H
  replace H := elimR H
  refine tn ?_
  refine Wp_seq ?_
  refine Wp_region_lit ?_
  refine W_v (.int .i64 0) (x_move rfl) rfl ?_
  refine W_v (.int .i64 0) (x_assign rfl) rfl ?_
  refine Wl_nil ?_
  refine tn ?_
  refine Wp_ret ?_
  obtain rfl := Option.some.inj H
  exact ⟨_, _, _, fun w1 e1 => run_resR (vs := [.int .i64 0]) (FA.cons (rfl) (FA.nil)), HM, E, S.pick [] (by decide), ⟨rfl, rfl⟩⟩
/-! ### cmp.isNaN[uint8]: function 34 -/
def cmp_isNaN_uint8 (k : Nat) (a0 : Int) : Option (Bool) :=
  some (a0 != a0)
set_option maxHeartbeats 2000000 in
theorem cmp_isNaN_uint8.mono {k : Nat} {a0 : Int} : OLe (cmp_isNaN_uint8 k a0) (cmp_isNaN_uint8 (k + 1) a0) := by
  unfold cmp_isNaN_uint8
  repeat' (first | with_reducible exact OLe.none | with_reducible exact OLe.some | with_reducible refine OLe.ite ?_ ?_ | with_reducible refine OLe.bind ?_ (fun _ => ?_) | refine OLe.bind ?_ (fun _ => ?_) | refine OLe.ite ?_ ?_ | refine OLe.elim (fun _ => ?_) (fun _ => ?_) | split)
set_option maxHeartbeats 1000000 in
set_option maxRecDepth 100000 in
theorem cmp_isNaN_uint8.con (k : Nat) (M : Hp) (a0 : Int) (r : Bool)  (h : cmp_isNaN_uint8 k a0 = some r) : Con Try.prog 34 #[.int .u8 a0] M [] (fun v M' Γ' => v = .bool r ∧ Γ' = []) := by
  refine con_of_wp Try.func34 rfl Try.ntmps34 Try.results34 rfl ?_
  intro w F rn S hrn
  have E := Ext.refl w
  have HM := Hp.le_refl M
  have H := h
  unfold cmp_isNaN_uint8 at H
  refine Wp_seq ?_
  refine Wp_region_lit ?_
  refine W_v (.bool false) (x_assign rfl) rfl ?_
  refine Wl_nil ?_
  refine tn ?_
  refine Wp_seq ?_
  refine Wp_region_lit ?_
  refine W_v (.int .u8 a0) (x_move rfl) rfl ?_
  refine W_v (.int .u8 a0) (x_move rfl) rfl ?_
  refine W_v (.bool (a0 != a0)) (x_ibin rfl rfl rfl rfl) rfl ?_
  refine W_v (.bool (a0 != a0)) (x_assign rfl) rfl ?_
  refine Wl_nil ?_
  refine tn ?_
  refine Wp_ret ?_
  obtain rfl := Option.some.inj H
  exact ⟨_, _, _, fun w1 e1 => run_resR (vs := [.bool (a0 != a0)]) (FA.cons (rfl) (FA.nil)), HM, E, S.pick [] (by decide), ⟨rfl, rfl⟩⟩
/-! ### cmp.Compare[uint8]: function 28 -/
def cmp_Compare_uint8 (k : Nat) (a0 : Int) (a1 : Int) : Option (Int) :=
  (Option.bind (cmp_isNaN_uint8 k a0) (fun t1 => (Option.bind (cmp_isNaN_uint8 k a1) (fun t4 => (if t1 = true then (if t4 = true then some (0 : Int) else some (-1 : Int)) else (if t4 = true then some (1 : Int) else (if (decide (a0 < a1)) = true then some (-1 : Int) else (if (decide (a0 > a1)) = true then some (1 : Int) else some (0 : Int)))))))))
set_option maxHeartbeats 2000000 in
theorem cmp_Compare_uint8.mono {k : Nat} {a0 : Int} {a1 : Int} : OLe (cmp_Compare_uint8 k a0 a1) (cmp_Compare_uint8 (k + 1) a0 a1) := by
  unfold cmp_Compare_uint8
  repeat' (first | with_reducible exact OLe.none | with_reducible exact OLe.some | with_reducible refine OLe.ite ?_ ?_ | with_reducible refine OLe.bind ?_ (fun _ => ?_) | with_reducible exact cmp_isNaN_uint8.mono | refine OLe.bind ?_ (fun _ => ?_) | refine OLe.ite ?_ ?_ | refine OLe.elim (fun _ => ?_) (fun _ => ?_) | split)
set_option maxHeartbeats 1000000 in
set_option maxRecDepth 100000 in
theorem cmp_Compare_uint8.con (k : Nat) (M : Hp) (a0 : Int) (a1 : Int) (r : Int)  (h : cmp_Compare_uint8 k a0 a1 = some r) : Con Try.prog 28 #[.int .u8 a0, .int .u8 a1] M [] (fun v M' Γ' => v = .int .i64 r ∧ Γ' = []) := by
  refine con_of_wp Try.func28 rfl Try.ntmps28 Try.results28 rfl ?_
  intro w F rn S hrn
  have E := Ext.refl w
  have HM := Hp.le_refl M
  have H := h
  unfold cmp_Compare_uint8 at H
  refine Wp_seq ?_
  refine Wp_region_lit ?_
  refine W_v (.int .i64 0) (x_assign rfl) rfl ?_
  refine Wl_nil ?_
  refine tn ?_
  refine Wp_seq ?_
  refine Wp_region_lit ?_
  refine W_v (.int .u8 a0) (x_move rfl) rfl ?_
  obtain ⟨t1, ht2, H⟩ := bindS H
  refine W_callF fn34 (cmp_isNaN_uint8.con k M a0 t1  ht2) S rfl rfl (by rintro _ _ _ ⟨_, rfl⟩; exact flat_nil) ?_
  rintro _ w3 _ Γ' E' S ⟨rfl, rfl⟩
  replace E := E.trans E'
  clear E'
  refine W_v (.bool t1) (x_assign rfl) rfl ?_
  refine Wl_nil ?_
  refine tn ?_
  refine Wp_seq ?_
  refine Wp_region_lit ?_
  refine W_v (.int .u8 a1) (x_move rfl) rfl ?_
  obtain ⟨t4, ht5, H⟩ := bindS H
  refine W_callF fn34 (cmp_isNaN_uint8.con k M a1 t4  ht5) S rfl rfl (by rintro _ _ _ ⟨_, rfl⟩; exact flat_nil) ?_
  rintro _ w6 _ Γ' E' S ⟨rfl, rfl⟩
  replace E := E.trans E'
  clear E'
  refine W_v (.bool t4) (x_assign rfl) rfl ?_
  refine Wl_nil ?_
  refine tn ?_
  refine Wp_seq ?_
  refine Wp_seq ?_
  refine Wp_region_lit ?_
  refine W_v (.bool t1) (x_move rfl) rfl ?_
  refine Wl_nil ?_
  refine tn ?_
  rcases iteS H with ⟨hb7, H⟩ | ⟨hb7, H⟩
  · refine Wp_cond_true (congrArg Value.bool hb7) ?_
    refine Wp_seq ?_
    refine Wp_seq ?_
    refine Wp_region_lit ?_
    refine W_v (.bool t4) (x_move rfl) rfl ?_
    refine Wl_nil ?_
    refine tn ?_
    rcases iteS H with ⟨hb8, H⟩ | ⟨hb8, H⟩
    · refine Wp_cond_true (congrArg Value.bool hb8) ?_
      refine Wp_seq ?_
      refine Wp_region_lit ?_
      refine W_v (.int .i64 0) (x_assign rfl) rfl ?_
      refine Wl_nil ?_
      refine tn ?_
      refine Wp_ret ?_
      refine tr (tr (?_))
      obtain rfl := Option.some.inj H
      exact ⟨_, _, _, fun w1 e1 => run_resR (vs := [.int .i64 0]) (FA.cons (rfl) (FA.nil)), HM, E, S.pick [] (by decide), ⟨rfl, rfl⟩⟩
    refine Wp_cond_false (congrArg Value.bool hb8) ?_
    refine Wp_skip ?_
    refine tn ?_
    refine Wp_seq ?_
    refine Wp_region_lit ?_
    refine W_v (.int .i64 (-1)) (x_assign rfl) rfl ?_
    refine Wl_nil ?_
    refine tn ?_
    refine Wp_ret ?_
    refine tr (?_)
    obtain rfl := Option.some.inj H
    exact ⟨_, _, _, fun w1 e1 => run_resR (vs := [.int .i64 (-1)]) (FA.cons (rfl) (FA.nil)), HM, E, S.pick [] (by decide), ⟨rfl, rfl⟩⟩
  refine Wp_cond_false (congrArg Value.bool hb7) ?_
  refine Wp_skip ?_
  refine tn ?_
  refine Wp_seq ?_
  refine Wp_seq ?_
  refine Wp_region_lit ?_
  refine W_v (.bool t4) (x_move rfl) rfl ?_
  refine Wl_nil ?_
  refine tn ?_
  rcases iteS H with ⟨hb9, H⟩ | ⟨hb9, H⟩
  · refine Wp_cond_true (congrArg Value.bool hb9) ?_
    refine Wp_seq ?_
    refine Wp_region_lit ?_
    refine W_v (.int .i64 1) (x_assign rfl) rfl ?_
    refine Wl_nil ?_
    refine tn ?_
    refine Wp_ret ?_
    refine tr (?_)
    obtain rfl := Option.some.inj H
    exact ⟨_, _, _, fun w1 e1 => run_resR (vs := [.int .i64 1]) (FA.cons (rfl) (FA.nil)), HM, E, S.pick [] (by decide), ⟨rfl, rfl⟩⟩
  refine Wp_cond_false (congrArg Value.bool hb9) ?_
  refine Wp_skip ?_
  refine tn ?_
  refine Wp_seq ?_
  refine Wp_seq ?_
  refine Wp_region_lit ?_
  refine W_v (.int .u8 a0) (x_move rfl) rfl ?_
  refine W_v (.int .u8 a1) (x_move rfl) rfl ?_
  refine W_v (.bool (decide (a0 < a1))) (x_ibin rfl rfl rfl rfl) rfl ?_
  refine Wl_nil ?_
  refine tn ?_
  rcases iteS H with ⟨hb10, H⟩ | ⟨hb10, H⟩
  · refine Wp_cond_true (congrArg Value.bool hb10) ?_
    refine Wp_seq ?_
    refine Wp_region_lit ?_
    refine W_v (.int .i64 (-1)) (x_assign rfl) rfl ?_
    refine Wl_nil ?_
    refine tn ?_
    refine Wp_ret ?_
    refine tr (?_)
    obtain rfl := Option.some.inj H
    exact ⟨_, _, _, fun w1 e1 => run_resR (vs := [.int .i64 (-1)]) (FA.cons (rfl) (FA.nil)), HM, E, S.pick [] (by decide), ⟨rfl, rfl⟩⟩
  refine Wp_cond_false (congrArg Value.bool hb10) ?_
  refine Wp_skip ?_
  refine tn ?_
  refine Wp_seq ?_
  refine Wp_seq ?_
  refine Wp_region_lit ?_
  refine W_v (.int .u8 a0) (x_move rfl) rfl ?_
  refine W_v (.int .u8 a1) (x_move rfl) rfl ?_
  refine W_v (.bool (decide (a0 > a1))) (x_ibin rfl rfl rfl rfl) rfl ?_
  refine Wl_nil ?_
  refine tn ?_
  rcases iteS H with ⟨hb11, H⟩ | ⟨hb11, H⟩
  · refine Wp_cond_true (congrArg Value.bool hb11) ?_
    refine Wp_seq ?_
    refine Wp_region_lit ?_
    refine W_v (.int .i64 1) (x_assign rfl) rfl ?_
    refine Wl_nil ?_
    refine tn ?_
    refine Wp_ret ?_
    refine tr (?_)
    obtain rfl := Option.some.inj H
    exact ⟨_, _, _, fun w1 e1 => run_resR (vs := [.int .i64 1]) (FA.cons (rfl) (FA.nil)), HM, E, S.pick [] (by decide), ⟨rfl, rfl⟩⟩
  refine Wp_cond_false (congrArg Value.bool hb11) ?_
  refine Wp_skip ?_
  refine tn ?_
  refine Wp_seq ?_
  refine Wp_region_lit ?_
  refine W_v (.int .i64 0) (x_assign rfl) rfl ?_
  refine Wl_nil ?_
  refine tn ?_
  refine Wp_ret ?_
  obtain rfl := Option.some.inj H
  exact ⟨_, _, _, fun w1 e1 => run_resR (vs := [.int .i64 0]) (FA.cons (rfl) (FA.nil)), HM, E, S.pick [] (by decide), ⟨rfl, rfl⟩⟩
/-! ### cmp.isNaN[uint64]: function 35 -/
def cmp_isNaN_uint64 (k : Nat) (a0 : Int) : Option (Bool) :=
  some (a0 != a0)
set_option maxHeartbeats 2000000 in
theorem cmp_isNaN_uint64.mono {k : Nat} {a0 : Int} : OLe (cmp_isNaN_uint64 k a0) (cmp_isNaN_uint64 (k + 1) a0) := by
  unfold cmp_isNaN_uint64
  repeat' (first | with_reducible exact OLe.none | with_reducible exact OLe.some | with_reducible refine OLe.ite ?_ ?_ | with_reducible refine OLe.bind ?_ (fun _ => ?_) | refine OLe.bind ?_ (fun _ => ?_) | refine OLe.ite ?_ ?_ | refine OLe.elim (fun _ => ?_) (fun _ => ?_) | split)
set_option maxHeartbeats 1000000 in
set_option maxRecDepth 100000 in
theorem cmp_isNaN_uint64.con (k : Nat) (M : Hp) (a0 : Int) (r : Bool)  (h : cmp_isNaN_uint64 k a0 = some r) : Con Try.prog 35 #[.int .u64 a0] M [] (fun v M' Γ' => v = .bool r ∧ Γ' = []) := by
  refine con_of_wp Try.func35 rfl Try.ntmps35 Try.results35 rfl ?_
  intro w F rn S hrn
  have E := Ext.refl w
  have HM := Hp.le_refl M
  have H := h
  unfold cmp_isNaN_uint64 at H
  refine Wp_seq ?_
  refine Wp_region_lit ?_
  refine W_v (.bool false) (x_assign rfl) rfl ?_
  refine Wl_nil ?_
  refine tn ?_
  refine Wp_seq ?_
  refine Wp_region_lit ?_
  refine W_v (.int .u64 a0) (x_move rfl) rfl ?_
  refine W_v (.int .u64 a0) (x_move rfl) rfl ?_
  refine W_v (.bool (a0 != a0)) (x_ibin rfl rfl rfl rfl) rfl ?_
  refine W_v (.bool (a0 != a0)) (x_assign rfl) rfl ?_
  refine Wl_nil ?_
  refine tn ?_
  refine Wp_ret ?_
  obtain rfl := Option.some.inj H
  exact ⟨_, _, _, fun w1 e1 => run_resR (vs := [.bool (a0 != a0)]) (FA.cons (rfl) (FA.nil)), HM, E, S.pick [] (by decide), ⟨rfl, rfl⟩⟩
/-! ### cmp.Compare[uint64]: function 29 -/
def cmp_Compare_uint64 (k : Nat) (a0 : Int) (a1 : Int) : Option (Int) :=
  (Option.bind (cmp_isNaN_uint64 k a0) (fun t1 => (Option.bind (cmp_isNaN_uint64 k a1) (fun t4 => (if t1 = true then (if t4 = true then some (0 : Int) else some (-1 : Int)) else (if t4 = true then some (1 : Int) else (if (decide (a0 < a1)) = true then some (-1 : Int) else (if (decide (a0 > a1)) = true then some (1 : Int) else some (0 : Int)))))))))
set_option maxHeartbeats 2000000 in
theorem cmp_Compare_uint64.mono {k : Nat} {a0 : Int} {a1 : Int} : OLe (cmp_Compare_uint64 k a0 a1) (cmp_Compare_uint64 (k + 1) a0 a1) := by
  unfold cmp_Compare_uint64
  repeat' (first | with_reducible exact OLe.none | with_reducible exact OLe.some | with_reducible refine OLe.ite ?_ ?_ | with_reducible refine OLe.bind ?_ (fun _ => ?_) | with_reducible exact cmp_isNaN_uint64.mono | refine OLe.bind ?_ (fun _ => ?_) | refine OLe.ite ?_ ?_ | refine OLe.elim (fun _ => ?_) (fun _ => ?_) | split)
set_option maxHeartbeats 1000000 in
set_option maxRecDepth 100000 in
theorem cmp_Compare_uint64.con (k : Nat) (M : Hp) (a0 : Int) (a1 : Int) (r : Int)  (h : cmp_Compare_uint64 k a0 a1 = some r) : Con Try.prog 29 #[.int .u64 a0, .int .u64 a1] M [] (fun v M' Γ' => v = .int .i64 r ∧ Γ' = []) := by
  refine con_of_wp Try.func29 rfl Try.ntmps29 Try.results29 rfl ?_
  intro w F rn S hrn
  have E := Ext.refl w
  have HM := Hp.le_refl M
  have H := h
  unfold cmp_Compare_uint64 at H
  refine Wp_seq ?_
  refine Wp_region_lit ?_
  refine W_v (.int .i64 0) (x_assign rfl) rfl ?_
  refine Wl_nil ?_
  refine tn ?_
  refine Wp_seq ?_
  refine Wp_region_lit ?_
  refine W_v (.int .u64 a0) (x_move rfl) rfl ?_
  obtain ⟨t1, ht2, H⟩ := bindS H
  refine W_callF fn35 (cmp_isNaN_uint64.con k M a0 t1  ht2) S rfl rfl (by rintro _ _ _ ⟨_, rfl⟩; exact flat_nil) ?_
  rintro _ w3 _ Γ' E' S ⟨rfl, rfl⟩
  replace E := E.trans E'
  clear E'
  refine W_v (.bool t1) (x_assign rfl) rfl ?_
  refine Wl_nil ?_
  refine tn ?_
  refine Wp_seq ?_
  refine Wp_region_lit ?_
  refine W_v (.int .u64 a1) (x_move rfl) rfl ?_
  obtain ⟨t4, ht5, H⟩ := bindS H
  refine W_callF fn35 (cmp_isNaN_uint64.con k M a1 t4  ht5) S rfl rfl (by rintro _ _ _ ⟨_, rfl⟩; exact flat_nil) ?_
  rintro _ w6 _ Γ' E' S ⟨rfl, rfl⟩
  replace E := E.trans E'
  clear E'
  refine W_v (.bool t4) (x_assign rfl) rfl ?_
  refine Wl_nil ?_
  refine tn ?_
  refine Wp_seq ?_
  refine Wp_seq ?_
  refine Wp_region_lit ?_
  refine W_v (.bool t1) (x_move rfl) rfl ?_
  refine Wl_nil ?_
  refine tn ?_
  rcases iteS H with ⟨hb7, H⟩ | ⟨hb7, H⟩
  · refine Wp_cond_true (congrArg Value.bool hb7) ?_
    refine Wp_seq ?_
    refine Wp_seq ?_
    refine Wp_region_lit ?_
    refine W_v (.bool t4) (x_move rfl) rfl ?_
    refine Wl_nil ?_
    refine tn ?_
    rcases iteS H with ⟨hb8, H⟩ | ⟨hb8, H⟩
    · refine Wp_cond_true (congrArg Value.bool hb8) ?_
      refine Wp_seq ?_
      refine Wp_region_lit ?_
      refine W_v (.int .i64 0) (x_assign rfl) rfl ?_
      refine Wl_nil ?_
      refine tn ?_
      refine Wp_ret ?_
      refine tr (tr (?_))
      obtain rfl := Option.some.inj H
      exact ⟨_, _, _, fun w1 e1 => run_resR (vs := [.int .i64 0]) (FA.cons (rfl) (FA.nil)), HM, E, S.pick [] (by decide), ⟨rfl, rfl⟩⟩
    refine Wp_cond_false (congrArg Value.bool hb8) ?_
    refine Wp_skip ?_
    refine tn ?_
    refine Wp_seq ?_
    refine Wp_region_lit ?_
    refine W_v (.int .i64 (-1)) (x_assign rfl) rfl ?_
    refine Wl_nil ?_
    refine tn ?_
    refine Wp_ret ?_
    refine tr (?_)
    obtain rfl := Option.some.inj H
    exact ⟨_, _, _, fun w1 e1 => run_resR (vs := [.int .i64 (-1)]) (FA.cons (rfl) (FA.nil)), HM, E, S.pick [] (by decide), ⟨rfl, rfl⟩⟩
  refine Wp_cond_false (congrArg Value.bool hb7) ?_
  refine Wp_skip ?_
  refine tn ?_
  refine Wp_seq ?_
  refine Wp_seq ?_
  refine Wp_region_lit ?_
  refine W_v (.bool t4) (x_move rfl) rfl ?_
  refine Wl_nil ?_
  refine tn ?_
  rcases iteS H with ⟨hb9, H⟩ | ⟨hb9, H⟩
  · refine Wp_cond_true (congrArg Value.bool hb9) ?_
    refine Wp_seq ?_
    refine Wp_region_lit ?_
    refine W_v (.int .i64 1) (x_assign rfl) rfl ?_
    refine Wl_nil ?_
    refine tn ?_
    refine Wp_ret ?_
    refine tr (?_)
    obtain rfl := Option.some.inj H
    exact ⟨_, _, _, fun w1 e1 => run_resR (vs := [.int .i64 1]) (FA.cons (rfl) (FA.nil)), HM, E, S.pick [] (by decide), ⟨rfl, rfl⟩⟩
  refine Wp_cond_false (congrArg Value.bool hb9) ?_
  refine Wp_skip ?_
  refine tn ?_
  refine Wp_seq ?_
  refine Wp_seq ?_
  refine Wp_region_lit ?_
  refine W_v (.int .u64 a0) (x_move rfl) rfl ?_
  refine W_v (.int .u64 a1) (x_move rfl) rfl ?_
  refine W_v (.bool (decide (a0 < a1))) (x_ibin rfl rfl rfl rfl) rfl ?_
  refine Wl_nil ?_
  refine tn ?_
  rcases iteS H with ⟨hb10, H⟩ | ⟨hb10, H⟩
  · refine Wp_cond_true (congrArg Value.bool hb10) ?_
    refine Wp_seq ?_
    refine Wp_region_lit ?_
    refine W_v (.int .i64 (-1)) (x_assign rfl) rfl ?_
    refine Wl_nil ?_
    refine tn ?_
    refine Wp_ret ?_
    refine tr (?_)
    obtain rfl := Option.some.inj H
    exact ⟨_, _, _, fun w1 e1 => run_resR (vs := [.int .i64 (-1)]) (FA.cons (rfl) (FA.nil)), HM, E, S.pick [] (by decide), ⟨rfl, rfl⟩⟩
  refine Wp_cond_false (congrArg Value.bool hb10) ?_
  refine Wp_skip ?_
  refine tn ?_
  refine Wp_seq ?_
  refine Wp_seq ?_
  refine Wp_region_lit ?_
  refine W_v (.int .u64 a0) (x_move rfl) rfl ?_
  refine W_v (.int .u64 a1) (x_move rfl) rfl ?_
  refine W_v (.bool (decide (a0 > a1))) (x_ibin rfl rfl rfl rfl) rfl ?_
  refine Wl_nil ?_
  refine tn ?_
  rcases iteS H with ⟨hb11, H⟩ | ⟨hb11, H⟩
  · refine Wp_cond_true (congrArg Value.bool hb11) ?_
    refine Wp_seq ?_
    refine Wp_region_lit ?_
    refine W_v (.int .i64 1) (x_assign rfl) rfl ?_
    refine Wl_nil ?_
    refine tn ?_
    refine Wp_ret ?_
    refine tr (?_)
    obtain rfl := Option.some.inj H
    exact ⟨_, _, _, fun w1 e1 => run_resR (vs := [.int .i64 1]) (FA.cons (rfl) (FA.nil)), HM, E, S.pick [] (by decide), ⟨rfl, rfl⟩⟩
  refine Wp_cond_false (congrArg Value.bool hb11) ?_
  refine Wp_skip ?_
  refine tn ?_
  refine Wp_seq ?_
  refine Wp_region_lit ?_
  refine W_v (.int .i64 0) (x_assign rfl) rfl ?_
  refine Wl_nil ?_
  refine tn ?_
  refine Wp_ret ?_
  obtain rfl := Option.some.inj H
  exact ⟨_, _, _, fun w1 e1 => run_resR (vs := [.int .i64 0]) (FA.cons (rfl) (FA.nil)), HM, E, S.pick [] (by decide), ⟨rfl, rfl⟩⟩
/-! ### (*ferryman/latch.Latches).Held$1: function 26 -/
def latch_Latches_Held_1 (k : Nat) (a0 : latch_Name) (a1 : latch_Name) : Option (Int) :=
  (Option.bind (cmp_Compare_uint8 k a0.Kind a1.Kind) (fun t21 => (Option.bind (cmp_Compare_uint64 k a0.ID a1.ID) (fun t24 => (Option.bind (cmp_Or_int k ([t21, t24] : List Int)) (fun t30 => some t30))))))
set_option maxHeartbeats 2000000 in
theorem latch_Latches_Held_1.mono {k : Nat} {a0 : latch_Name} {a1 : latch_Name} : OLe (latch_Latches_Held_1 k a0 a1) (latch_Latches_Held_1 (k + 1) a0 a1) := by
  unfold latch_Latches_Held_1
  repeat' (first | with_reducible exact OLe.none | with_reducible exact OLe.some | with_reducible refine OLe.ite ?_ ?_ | with_reducible refine OLe.bind ?_ (fun _ => ?_) | with_reducible exact cmp_Compare_uint64.mono | with_reducible exact cmp_Compare_uint8.mono | with_reducible exact cmp_Or_int.mono | refine OLe.bind ?_ (fun _ => ?_) | refine OLe.ite ?_ ?_ | refine OLe.elim (fun _ => ?_) (fun _ => ?_) | split)
set_option maxHeartbeats 1000000 in
set_option maxRecDepth 100000 in
theorem latch_Latches_Held_1.con (k : Nat) (M : Hp) (a0 : latch_Name) (a1 : latch_Name) (r : Int)  (h : latch_Latches_Held_1 k a0 a1 = some r) : Con Try.prog 26 #[.agg #[.int .u8 a0.Kind, .int .u64 a0.ID], .agg #[.int .u8 a1.Kind, .int .u64 a1.ID]] M [] (fun v M' Γ' => v = .int .i64 r ∧ Γ' = []) := by
  refine con_of_wp Try.func26 rfl Try.ntmps26 Try.results26 rfl ?_
  intro w F rn S hrn
  have E := Ext.refl w
  have HM := Hp.le_refl M
  have H := h
  unfold latch_Latches_Held_1 at H
  refine Wp_seq ?_
  refine Wp_region_lit ?_
  refine W_box S #[.int .u8 a0.Kind, .int .u64 a0.ID] rfl rfl rfl ?_
  intro b1 w2 E' S
  replace E := E.trans E'
  clear E'
  refine W_box S #[.int .u8 a1.Kind, .int .u64 a1.ID] rfl rfl rfl ?_
  intro b4 w5 E' S
  replace E := E.trans E'
  clear E'
  refine W_v (.int .i64 0) (x_assign rfl) rfl ?_
  refine Wl_nil ?_
  refine tn ?_
  refine Wp_seq ?_
  refine Wp_region_any (S := fun w' => ∃ Mx, M.le Mx ∧ St w' Mx F [Blk b4 (.cells #[.int .u8 a1.Kind, .int .u64 a1.ID] 25 (0, 0)), Blk b1 (.cells #[.int .u8 a0.Kind, .int .u64 a0.ID] 25 (0, 0))]) (L := 13) mixed ?_
  intro w19 hw20 E'
  replace S := S.heap hw20
  replace E := E.trans E'
  clear E'
  refine Wa_take (i := 0) rfl (by kernel_rfl) rfl rfl (.pointer (some ⟨b1, 0, none⟩)) rfl (fun w' h' => x_fieldAddr (o := 0) (off := 0) Try.underlying25 rfl ty5 rfl rfl) (⟨M, Hp.le_refl M, S.pick [0, 1] (by decide)⟩) ?_
  refine Wa_take (i := 1) rfl (by kernel_rfl) rfl rfl (.int .u8 a0.Kind) rfl (fun w' h' => x_load (cls_blk h' 1 rfl) ty5 rfl rfl) (⟨M, Hp.le_refl M, S.pick [0, 1] (by decide)⟩) ?_
  refine Wa_take (i := 2) rfl (by kernel_rfl) rfl rfl (.pointer (some ⟨b4, 0, none⟩)) rfl (fun w' h' => x_fieldAddr (o := 0) (off := 0) Try.underlying25 rfl ty5 rfl rfl) (⟨M, Hp.le_refl M, S.pick [0, 1] (by decide)⟩) ?_
  refine Wa_take (i := 3) rfl (by kernel_rfl) rfl rfl (.int .u8 a1.Kind) rfl (fun w' h' => x_load (cls_blk h' 0 rfl) ty5 rfl rfl) (⟨M, Hp.le_refl M, S.pick [0, 1] (by decide)⟩) ?_
  refine Wa_take (i := 5) rfl (by kernel_rfl) rfl rfl (.pointer (some ⟨b1, 1, none⟩)) rfl (fun w' h' => x_fieldAddr (o := 0) (off := 1) Try.underlying25 rfl ty23 rfl rfl) (⟨M, Hp.le_refl M, S.pick [0, 1] (by decide)⟩) ?_
  refine Wa_take (i := 6) rfl (by kernel_rfl) rfl rfl (.int .u64 a0.ID) rfl (fun w' h' => x_load (cls_blk h' 1 rfl) ty23 rfl rfl) (⟨M, Hp.le_refl M, S.pick [0, 1] (by decide)⟩) ?_
  refine Wa_take (i := 7) rfl (by kernel_rfl) rfl rfl (.pointer (some ⟨b4, 1, none⟩)) rfl (fun w' h' => x_fieldAddr (o := 0) (off := 1) Try.underlying25 rfl ty23 rfl rfl) (⟨M, Hp.le_refl M, S.pick [0, 1] (by decide)⟩) ?_
  refine Wa_take (i := 8) rfl (by kernel_rfl) rfl rfl (.int .u64 a1.ID) rfl (fun w' h' => x_load (cls_blk h' 0 rfl) ty23 rfl rfl) (⟨M, Hp.le_refl M, S.pick [0, 1] (by decide)⟩) ?_
  refine Wa_solo (i := 4) rfl (by kernel_rfl) ?_
  obtain ⟨t21, ht22, H⟩ := bindS H
  refine W_callF fn28 (cmp_Compare_uint8.con k M a0.Kind a1.Kind t21  ht22) S rfl rfl (by rintro _ _ _ ⟨_, rfl⟩; exact flat_nil) ?_
  rintro _ w23 _ Γ' E' S ⟨rfl, rfl⟩
  replace E := E.trans E'
  clear E'
  refine Wl_nil (on_n ⟨.inr ⟨M, Hp.le_refl M, S.pick [0, 1] (by decide)⟩, ?_⟩)
  refine Wa_solo (i := 9) rfl (by kernel_rfl) ?_
  obtain ⟨t24, ht25, H⟩ := bindS H
  refine W_callF fn29 (cmp_Compare_uint64.con k M a0.ID a1.ID t24  ht25) S rfl rfl (by rintro _ _ _ ⟨_, rfl⟩; exact flat_nil) ?_
  rintro _ w26 _ Γ' E' S ⟨rfl, rfl⟩
  replace E := E.trans E'
  clear E'
  refine Wl_nil (on_n ⟨.inr ⟨M, Hp.le_refl M, S.pick [0, 1] (by decide)⟩, ?_⟩)
  refine Wa_solo (i := 10) rfl (by kernel_rfl) ?_
  refine W_bslice S #[.int .i64 t21, .int .i64 t24] Try.underlying69 ty3 rfl rfl #[.int .i64 0, .int .i64 0] (by kernel_rfl) (by kernel_rfl) rfl ?_
  intro b27 w28 E' S
  replace E := E.trans E'
  clear E'
  replace S := S.blk_row (r := (rInt .i64)) (l := ([t21, t24] : List Int)) 0 rfl 2 (Nat.le_refl 2) rfl (Cells.cons (vs := [.int .i64 t21]) (rfl) (Cells.cons (vs := [.int .i64 t24]) (rfl) Cells.nil))
  refine Wl_nil (on_n ⟨.inr ⟨M, Hp.le_refl M, S.pick [1, 2] (by decide)⟩, ?_⟩)
  refine Wa_solo (i := 11) rfl (by kernel_rfl) ?_
  obtain ⟨t30, ht31, H⟩ := bindS H
  refine W_callN 1 fn27 (fun h9 hs9 hd9 => cmp_Or_int.con k _ (some ⟨b27, 0, none⟩) 2 ([t21, t24] : List Int) t30 (Sats.row hs9 hd9 0 rfl) ht31) S rfl rfl (by rintro _ _ _ ⟨_, rfl⟩; exact flat_nil) ?_
  rintro _ w32 _ Γ' E' S ⟨rfl, rfl⟩
  replace E := E.trans E'
  clear E'
  refine Wl_nil (on_n ⟨.inr ⟨M, Hp.le_refl M, S.pick [1, 2] (by decide)⟩, ?_⟩)
  refine Wa_take (i := 12) rfl (by kernel_rfl) rfl rfl (.int .i64 t30) rfl (fun w' h' => x_assign rfl) (⟨M, Hp.le_refl M, S.pick [1, 2] (by decide)⟩) ?_
  refine Wa_done (by kernel_rfl) ?_
  refine tn ?_
  refine Wp_ret ?_
  obtain rfl := Option.some.inj H
  exact ⟨_, _, _, fun w1 e1 => run_resR (vs := [.int .i64 t30]) (FA.cons (rfl) (FA.nil)), HM, E, S.pick [] (by decide), ⟨rfl, rfl⟩⟩
/-! ### (*ferryman/latch.Latches).Held: function 16 -/
def cfName (x y : latch_Name) : Int := if x.Kind < y.Kind then -1 else if y.Kind < x.Kind then 1 else if x.ID < y.ID then -1 else if y.ID < x.ID then 1 else 0
abbrev ltName : latch_Name → latch_Name → Bool := Go.Proofs.ltOf cfName
theorem ltName_iff (x y : latch_Name) : ltName x y = true ↔ x.Kind < y.Kind ∨ x.Kind = y.Kind ∧ x.ID < y.ID := by
  show decide (cfName x y < 0) = true ↔ _
  rw [decide_eq_true_eq]
  unfold cfName
  by_cases h1 : x.Kind < y.Kind
  · rw [if_pos h1]; exact ⟨fun _ => .inl h1, fun _ => by decide⟩
  · by_cases h2 : y.Kind < x.Kind
    · rw [if_neg h1, if_pos h2]; exact ⟨fun h => absurd h (by decide), fun h => by omega⟩
    · by_cases h3 : x.ID < y.ID
      · rw [if_neg h1, if_neg h2, if_pos h3]; exact ⟨fun _ => .inr ⟨by omega, h3⟩, fun _ => by decide⟩
      · by_cases h4 : y.ID < x.ID
        · rw [if_neg h1, if_neg h2, if_neg h3, if_pos h4]; exact ⟨fun h => absurd h (by decide), fun h => by omega⟩
        · rw [if_neg h1, if_neg h2, if_neg h3, if_neg h4]; exact ⟨fun h => absurd h (by decide), fun h => by omega⟩
theorem ltName_not (x y : latch_Name) : ltName x y = false ↔ ¬ (x.Kind < y.Kind ∨ x.Kind = y.Kind ∧ x.ID < y.ID) := by rw [← ltName_iff, Bool.not_eq_true]
theorem cfName_swo : Go.Sort.SWO (Go.Proofs.ltOf cfName) where
  irrefl x := by have := ltName_not x x; rw [this]; omega
  trans x y z h1 h2 := by
    have h1 := (ltName_iff x y).1 h1
    have h2 := (ltName_iff y z).1 h2
    exact (ltName_iff x z).2 (by omega)
  ntrans x y z h1 h2 := by
    have h1 := (ltName_not x y).1 h1
    have h2 := (ltName_not y z).1 h2
    exact (ltName_not x z).2 (by omega)
theorem cfName_total (x y : latch_Name) (h1 : (Go.Proofs.ltOf cfName) x y = false) (h2 : (Go.Proofs.ltOf cfName) y x = false) : x = y := by
  have h1 := (ltName_not x y).1 h1
  have h2 := (ltName_not y x).1 h2
  cases x; cases y
  simp only [latch_Name.mk.injEq] at *
  omega
theorem cmp_name (x y : latch_Name) : latch_Latches_Held_1 9 x y = some (cfName x y) := by
  have h1 : ∀ a b : Int, cmp_Compare_uint8 9 a b = some (if a < b then -1 else if b < a then 1 else 0) := fun a b => by
    have e : ∀ z : Int, cmp_isNaN_uint8 9 z = some false := fun z => by simp [cmp_isNaN_uint8]
    unfold cmp_Compare_uint8
    rw [e, e]
    by_cases c1 : a < b
    · simp [c1]
    · by_cases c2 : b < a <;> simp [c1, c2]
  have h2 : ∀ a b : Int, cmp_Compare_uint64 9 a b = some (if a < b then -1 else if b < a then 1 else 0) := fun a b => by
    have e : ∀ z : Int, cmp_isNaN_uint64 9 z = some false := fun z => by simp [cmp_isNaN_uint64]
    unfold cmp_Compare_uint64
    rw [e, e]
    by_cases c1 : a < b
    · simp [c1]
    · by_cases c2 : b < a <;> simp [c1, c2]
  have h3 : ∀ a b : Int, cmp_Or_int 9 [a, b] = some (if a = 0 then b else a) := fun a b => by
    unfold cmp_Or_int
    have w1 : IntKind.i64.wrap ((0 : Int) + 1) = 1 := by decide
    have w2 : IntKind.i64.wrap ((1 : Int) + 1) = 2 := by decide
    have e0 : rd [a, b] 0 = a := rfl
    have e1 : rd [a, b] 1 = b := rfl
    have n2 : ([a, b].length : Int) = 2 := rfl
    rw [cmp_Or_int_l0.eq_2, n2, if_pos (by decide), if_pos (by decide), e0]
    by_cases c1 : a = 0
    · subst c1
      rw [if_neg (by decide), w1, cmp_Or_int_l0.eq_2, n2, if_pos (by decide), if_pos (by decide), e1]
      by_cases c2 : b = 0
      · subst c2
        rw [if_neg (by decide), w2, cmp_Or_int_l0.eq_2, n2, if_neg (by decide)]; rfl
      · rw [if_pos (by simpa using c2)]; rfl
    · rw [if_pos (by simpa using c1), if_neg c1]; rfl
  unfold latch_Latches_Held_1
  rw [h1, h2, Option.bind_some, Option.bind_some, h3, Option.bind_some]
  congr 1
  unfold cfName
  by_cases c1 : x.Kind < y.Kind
  · simp [c1]
  · by_cases c2 : y.Kind < x.Kind
    · simp [c1, c2]
    · simp [c1, c2]
theorem latch_Latches_Held_PO.cmp (M : Hp) (x y : latch_Name) : Con Try.prog 26 #[.agg ([.int .u8 x.Kind, .int .u64 x.ID] : List Value).toArray, .agg ([.int .u8 y.Kind, .int .u64 y.ID] : List Value).toArray] M [] (fun v _ _ => v = .int .i64 (cfName x y)) :=
  (latch_Latches_Held_1.con 9 M x y (cfName x y) (cmp_name x y)).mono fun v M' Γ' _ h => h.1
def latch_Latches_Held_PO (k : Nat) (a0 : latch_Latches) (a1 : Int) : Option (List latch_Name) :=
  if (a0.by_.map fun p : latch_Name × Int => p.1).Nodup ∧ a0.by_.length ≤ 1000000000 then some (isort ltName (a0.by_.filterMap fun p : latch_Name × Int => if p.2 == a1 then some p.1 else none)) else none
theorem latch_Latches_Held_PO.mono {k : Nat} {a0 : latch_Latches} {a1 : Int} : OLe (latch_Latches_Held_PO k a0 a1) (latch_Latches_Held_PO (k + 1) a0 a1) := fun r h => h
theorem held_step {l : List (latch_Name × Int)} {a : Int} {todo : List latch_Name} {y : latch_Name} {v : Int} (hy : y ∈ todo) (hv : mget l y = some v) : (todo.filterMap fun k => if mget l k = some a then some k else none).Perm ((if v = a then [y] else []) ++ (todo.erase y).filterMap fun k => if mget l k = some a then some k else none) := by
  refine ((List.perm_cons_erase hy).filterMap _).trans ?_
  rw [List.filterMap_cons, hv]
  by_cases h : v = a
  · subst h; simp
  · simp [h]
theorem held_keys (a : Int) : ∀ (l l0 : List (latch_Name × Int)), (∀ p ∈ l, mget l0 p.1 = some p.2) → ((l.map (·.1)).filterMap fun k => if mget l0 k = some a then some k else none) = l.filterMap fun p => if p.2 == a then some p.1 else none
  | [], _, _ => rfl
  | p :: l, l0, h => by
    rw [List.map_cons, List.filterMap_cons, List.filterMap_cons, h p List.mem_cons_self, held_keys a l l0 (fun q hq => h q (List.mem_cons_of_mem _ hq))]
    by_cases e : p.2 = a <;> simp [e]
theorem held_all {l : List (latch_Name × Int)} (hn : (l.map (·.1)).Nodup) : ∀ p ∈ l, mget l p.1 = some p.2 := fun p hp => by
  obtain ⟨i, hi⟩ := List.mem_iff_getElem?.1 hp
  exact mget_at hn hi
set_option maxHeartbeats 1000000 in
set_option maxRecDepth 100000 in
theorem latch_Latches_Held_PO.con (k : Nat) (M : Hp) (A0_0 : Option Addr) (c0_0 : Nat) (a0 : latch_Latches) (a1 : Int) (bo0 : Nat) (r : (List latch_Name))  (h : latch_Latches_Held_PO k a0 a1 = some r) : Con Try.prog 16 #[.pointer (some ⟨bo0, 0, none⟩), .int .i64 a1] M [Blk bo0 (.cells #[.map (mb A0_0)] 56 (0, 0)), MapC enc_latch_Name (Value.int .i64) A0_0 a0.by_] (fun v M' Γ' => ∃ (Aq1 : Option Addr) (cq2 : Nat), v = .slice Aq1 r.length cq2 ∧ Γ' = [Row r_latch_Name 25 (.slice Aq1 r.length cq2) r, Blk bo0 (.cells #[.map (mb A0_0)] 56 (0, 0)), MapC enc_latch_Name (Value.int .i64) A0_0 a0.by_]) := by
  refine con_of_wp Try.func16 rfl Try.ntmps16 Try.results16 rfl ?_
  intro w F rn S hrn
  have E := Ext.refl w
  have HM := Hp.le_refl M
  have H := h
  unfold latch_Latches_Held_PO at H
  obtain ⟨⟨hnd, hlim⟩, H⟩ := chkS H
  refine Wp_seq ?_
  refine Wp_region_lit ?_
  refine W_v (.slice none 0 0) (x_assign rfl) rfl ?_
  refine Wl_nil ?_
  refine tn ?_
  refine Wp_seq ?_
  refine Wp_seq ?_
  refine Wp_region_lit ?_
  refine W_v (.pointer (some ⟨bo0, 0, none⟩)) (x_move rfl) rfl ?_
  refine W_v (.bool false) (x_eq_of (r := false) rfl rfl (run_eq_ptrsn Try.underlying27)) rfl ?_
  refine Wl_nil ?_
  refine tn ?_
  refine Wp_cond_false rfl ?_
  refine Wp_skip ?_
  refine tn ?_
  refine Wp_seq ?_
  refine Wp_region_lit ?_
  refine W_v (.slice none 0 0) (x_assign rfl) rfl ?_
  refine Wl_nil ?_
  refine tn ?_
  refine Wp_seq ?_
  refine Wp_seq ?_
  refine Wp_region_lit ?_
  refine W_v (.pointer (some ⟨bo0, 0, none⟩)) (x_move rfl) rfl ?_
  refine W_v (.pointer (some ⟨bo0, 0, none⟩)) (x_nilptr rfl) rfl ?_
  refine W_v (.pointer (some ⟨bo0, 0, none⟩)) (x_fieldAddr (o := 0) (off := 0) Try.underlying56 rfl ty54 rfl rfl) rfl ?_
  refine W_v (.map (mb A0_0)) (x_load (S.blk 0 rfl) ty54 rfl rfl) rfl ?_
  refine W_rangeM S 1 rfl Try.underlying54 hnd rfl rfl ?_
  intro bi w1 E' S
  replace E := E.trans E'
  clear E'
  refine Wl_nil ?_
  refine tn ?_
  replace S := S.row_nil r_latch_Name 25
  refine Wp_blockJ (fun ρ w' => ∃ (A : Option Addr) (c : Nat) (l : List latch_Name), Agree ρ [(0, .pointer (some ⟨bo0, 0, none⟩)), (5, .slice A l.length c)] ∧ Ext w w' ∧ l.Perm (a0.by_.filterMap fun p : latch_Name × Int => if p.2 == a1 then some p.1 else none) ∧ St w' M F [Row r_latch_Name 25 (.slice A l.length c) l, Blk bo0 (.cells #[.map (mb A0_0)] 56 (0, 0)), MapC enc_latch_Name (Value.int .i64) A0_0 a0.by_]) ?_ ?_
  · refine Wp_loop (fun n ρ w' => ∃ (todo : List latch_Name) (A : Option Addr) (c : Nat) (l : List latch_Name), todo.length = n ∧ Agree ρ [(0, .pointer (some ⟨bo0, 0, none⟩)), (1, .int .i64 a1), (5, .slice A l.length c), (14, .pointer (some ⟨bi, 0, none⟩))] ∧ Ext w w' ∧ (l ++ todo.filterMap fun k => if mget a0.by_ k = some a1 then some k else none).Perm (a0.by_.filterMap fun p : latch_Name × Int => if p.2 == a1 then some p.1 else none) ∧ St w' M F [Row r_latch_Name 25 (.slice A l.length c) l, Blk bo0 (.cells #[.map (mb A0_0)] 56 (0, 0)), RangeM enc_latch_Name (Value.int .i64) A0_0 bi a0.by_ todo none]) (a0.by_.map fun p : latch_Name × Int => p.1).length ?_ ?_
    · exact ⟨a0.by_.map (fun p : latch_Name × Int => p.1), none, 0, [], rfl, ⟨rfl, rfl, rfl, rfl, trivial⟩, E, by rw [List.nil_append, held_keys a1 a0.by_ a0.by_ (held_all hnd)], S⟩
    · intro n
      rintro ρ w2 ⟨todo, A, c, l, hlen, hρ, E, hp, S⟩
      rw [agree_eta hρ]
      clear hρ
      refine Wp_seq ?_
      refine Wp_region_lit ?_
      refine W_nextM S 2 rfl rfl rfl ?_ ?_
      · intro y v w3 hy hv E' S
        replace E := E.trans E'
        clear E'
        have hst := held_step (a := a1) hy hv
        refine W_v (.bool true) (x_extract rfl rfl) rfl ?_
        refine Wl_nil ?_
        refine tn ?_
        refine Wp_seq ?_
        refine Wp_cond_true rfl ?_
        refine Wp_skip ?_
        refine tn ?_
        refine Wp_block ?_
        refine Wp_seq ?_
        refine Wp_region_lit ?_
        refine W_v (.tuple #[enc_latch_Name y, .int .i64 v]) (x_entryM S 2 rfl hv rfl) rfl ?_
        refine W_v (.agg #[.int .u8 y.Kind, .int .u64 y.ID]) (x_extract rfl rfl) rfl ?_
        refine W_v (.int .i64 v) (x_extract rfl rfl) rfl ?_
        replace S := S.rangeM_seen 2 rfl
        refine W_alloc S #[.int .u8 0, .int .u64 0] ty25 rfl rfl ?_
        intro b2 w4 E' S
        replace E := E.trans E'
        clear E'
        refine W_store S 0 rfl ty25 rfl rfl [.int .u8 y.Kind, .int .u64 y.ID] rfl rfl rfl #[.int .u8 y.Kind, .int .u64 y.ID] rfl rfl ?_
        intro w5 E' S
        replace E := E.trans E'
        clear E'
        refine W_v (.int .i64 v) (x_assign rfl) rfl ?_
        refine Wl_nil ?_
        refine tn ?_
        refine Wp_seq ?_
        refine Wp_region_lit ?_
        refine W_v (.int .i64 v) (x_move rfl) rfl ?_
        refine W_v (.int .i64 a1) (x_move rfl) rfl ?_
        refine W_v (.bool (v == a1)) (x_ibin rfl rfl rfl rfl) rfl ?_
        refine Wl_nil ?_
        refine tn ?_
        have hlt : (todo.erase y).length < n := by
          rw [← hlen, List.length_erase_of_mem hy]
          have := List.length_pos_of_mem hy
          omega
        rcases boolCases (v == a1) with hb | hb
        · refine Wp_cond_false (congrArg Value.bool hb) ?_
          refine Wp_skip ?_
          refine bn ?_
          refine tn ?_
          have hne : v ≠ a1 := by simpa using hb
          rw [if_neg hne, List.nil_append] at hst
          exact ⟨(todo.erase y).length, hlt, todo.erase y, A, c, l, rfl, ⟨rfl, rfl, rfl, rfl, trivial⟩, E, (hst.symm.append_left l).trans hp, S.pick [1, 2, 3] (by decide)⟩
        · refine Wp_cond_true (congrArg Value.bool hb) ?_
          have heq : v = a1 := by simpa using hb
          rw [if_pos heq] at hst
          refine Wp_region_lit ?_
          refine W_v (.slice A l.length c) (x_move rfl) rfl ?_
          refine W_v (.agg #[.int .u8 y.Kind, .int .u64 y.ID]) (x_loadA (S.blk 0 rfl) ty25 rfl (sub_of_extract rfl) rfl rfl) rfl ?_
          refine W_bslice S #[.int .u8 y.Kind, .int .u64 y.ID] Try.underlying38 ty25 rfl rfl #[.int .u8 0, .int .u64 0] (by kernel_rfl) (by kernel_rfl) rfl ?_
          intro b3 w6 E' S
          replace E := E.trans E'
          clear E'
          replace S := S.blk_row (r := r_latch_Name) (l := [y]) 0 rfl 1 (Nat.le_refl 1) rfl (Cells.cons (vs := [.int .u8 y.Kind, .int .u64 y.ID]) (rfl) Cells.nil)
          obtain ⟨src, hs, hC⟩ := src_of_read (P := Try.prog) (ρ := r_latch_Name) (l := [y]) (S.row_read 0 rfl) (by decide)
          have hl9 : l.length + 1 ≤ 1000000000 := by
            have h1 := hp.length_eq
            have h2 := hst.length_eq
            have h3 := List.length_filterMap_le (fun p : latch_Name × Int => if p.2 == a1 then some p.1 else none) a0.by_
            simp only [List.length_append, List.length_cons, List.length_nil] at h1 h2
            omega
          refine W_append S 2 rfl rfl rfl Try.underlying38 (.inl Try.underlying38) ty25 rfl (by decide) (by decide) hs hC rfl (by simp only [List.length_cons, List.length_nil]; omega) rfl ?_
          intro v7 w7 E' S
          replace E := E.trans E'
          clear E'
          obtain ⟨A7, c7, rfl, _⟩ := (S.row_read 2 rfl).form
          refine W_v (.slice A7 (l ++ [y]).length c7) (x_assign rfl) rfl ?_
          refine Wl_nil ?_
          refine bn ?_
          refine tn ?_
          exact ⟨(todo.erase y).length, hlt, todo.erase y, A7, c7, l ++ [y], rfl, ⟨rfl, rfl, rfl, rfl, trivial⟩, E, by rw [List.append_assoc]; exact (hst.symm.append_left l).trans hp, S.pick [2, 3, 4] (by decide)⟩
      · intro w3 ht E' S
        replace E := E.trans E'
        clear E'
        subst ht
        refine W_v (.bool false) (x_extract rfl rfl) rfl ?_
        refine Wl_nil ?_
        refine tn ?_
        refine Wp_seq ?_
        refine Wp_cond_false rfl ?_
        refine Wp_exit ?_
        refine tx (tx (bsm ?_))
        refine tn ?_
        exact ⟨A, c, l, ⟨rfl, rfl, trivial⟩, E, by simpa using hp, S.rangeM_end 2 rfl⟩
  rintro ρ w2 ⟨A, c, l, hρ, E, hp, S⟩
  rw [agree_eta hρ]
  clear hρ
  refine Wp_seq ?_
  refine Wp_region_lit ?_
  refine W_v (.slice A l.length c) (x_move rfl) rfl ?_
  have hl8 : l.length ≤ 1000000000 := by
    have h1 := hp.length_eq
    have h3 := List.length_filterMap_le (fun p : latch_Name × Int => if p.2 == a1 then some p.1 else none) a0.by_
    omega
  obtain ⟨fn9, hf9, hb9, hn9⟩ := fn25.ex
  have hcs := sort_rowK S 0 rfl Go.Proofs.Try.sortHeld Try.isAgg25 Try.sizeOf25 (fun x : latch_Name => [.int .u8 x.Kind, .int .u64 x.ID]) (fun _ => rfl) (fun x v hv => by simp at hv; rcases hv with rfl | rfl <;> rfl) (fun _ _ _ => Iff.rfl) cfName cfName_swo cfName_total 26 fn26 latch_Latches_Held_PO.cmp (by omega)
  refine Wl_call (f := 25) (args := #[.slice A l.length c, .func (.func 26) #[] #[]]) (R := fun v w' => v = .tuple #[] ∧ Ext w2 w' ∧ St w' M F _) rfl (x_call hf9 hb9 hn9) (fun _ _ ⟨_, h, _⟩ => h) (Calls.mono hcs fun e w' ⟨he, h⟩ => ⟨_, he, rfl, h⟩) rfl ?_
  rintro v9 w9 ⟨rfl, E', S⟩
  replace E := E.trans E'
  clear E'
  rw [merge_isort cfName_swo cfName_total hp] at S
  obtain rfl := Option.some.inj H
  have hle : l.length = (isort ltName (a0.by_.filterMap fun p : latch_Name × Int => if p.2 == a1 then some p.1 else none)).length := by rw [(isort_perm _).length_eq, hp.length_eq]
  rw [hle] at S
  rw [hle]
  refine Wl_nil ?_
  refine tn ?_
  refine Wp_seq ?_
  refine Wp_region_lit ?_
  refine W_v (.slice A (isort ltName (a0.by_.filterMap fun p : latch_Name × Int => if p.2 == a1 then some p.1 else none)).length c) (x_move rfl) rfl ?_
  refine W_v (.slice A (isort ltName (a0.by_.filterMap fun p : latch_Name × Int => if p.2 == a1 then some p.1 else none)).length c) (x_assign rfl) rfl ?_
  refine Wl_nil ?_
  refine tn ?_
  refine Wp_ret ?_
  exact ⟨_, _, _, fun w1 e1 => run_resR (vs := [.slice A (isort ltName (a0.by_.filterMap fun p : latch_Name × Int => if p.2 == a1 then some p.1 else none)).length c]) (FA.cons (rfl) (FA.nil)), HM, E, S.pick [0, 1, 2] (by decide), ⟨A, c, rfl, rfl⟩⟩
/-! ### ferryman/ferrymanlaw05.awake: function 9 -/
def ferrymanlaw05_awake (k : Nat)  : Option (Bool) :=
  (Option.bind (latch_New k ) (fun t1 => (Option.bind (latch_Latches_Try_PO k t1 (⟨(1 : Int), (7 : Int)⟩ : latch_Name) (2 : Int)) (fun t65 => (Option.bind (latch_Latches_Try_PO k t65.2 (⟨(1 : Int), (7 : Int)⟩ : latch_Name) (3 : Int)) (fun t73 => (Option.bind (latch_Latches_Try_PO k t73.2 (⟨(1 : Int), (7 : Int)⟩ : latch_Name) (2 : Int)) (fun t81 => (Option.bind (latch_Latches_Drop_PO k t81.2 (⟨(1 : Int), (7 : Int)⟩ : latch_Name) (3 : Int)) (fun t89 => (Option.bind (latch_Latches_Drop_PO k t89.2 (⟨(1 : Int), (7 : Int)⟩ : latch_Name) (2 : Int)) (fun t97 => (Option.bind (latch_Latches_Try_PO k t97.2 (⟨(1 : Int), (7 : Int)⟩ : latch_Name) (3 : Int)) (fun t105 => (Option.bind (latch_Latches_Try_PO k t105.2 (⟨(0 : Int), (9 : Int)⟩ : latch_Name) (3 : Int)) (fun t113 => (Option.bind (α := Bool) (if ((((((t65.1 && (!t73.1)) && t81.1) && (!t89.1)) && t97.1) && t105.1) && t113.1) = true then (Option.bind (latch_Latches_Held_PO k t113.2 (3 : Int)) (fun t170 => (Option.bind (ferrymanlaw05_names k t170) (fun t178 => (Option.bind (ferrymanref05_Names k t178 ([(⟨(0 : Int), (9 : Int)⟩ : ferrymanref05_Name), (⟨(1 : Int), (7 : Int)⟩ : ferrymanref05_Name)] : List ferrymanref05_Name)) (fun t187 => some (t187))))))) else some (false)) (fun x168 => some x168))))))))))))))))))
set_option maxHeartbeats 2000000 in
theorem ferrymanlaw05_awake.mono {k : Nat}  : OLe (ferrymanlaw05_awake k ) (ferrymanlaw05_awake (k + 1) ) := by
  unfold ferrymanlaw05_awake
  repeat' (first | with_reducible exact OLe.none | with_reducible exact OLe.some | with_reducible refine OLe.ite ?_ ?_ | with_reducible refine OLe.bind ?_ (fun _ => ?_) | with_reducible exact ferrymanlaw05_names.mono | with_reducible exact ferrymanref05_Names.mono | with_reducible exact latch_Latches_Drop_PO.mono | with_reducible exact latch_Latches_Held_PO.mono | with_reducible exact latch_Latches_Try_PO.mono | with_reducible exact latch_New.mono | refine OLe.bind ?_ (fun _ => ?_) | refine OLe.ite ?_ ?_ | refine OLe.elim (fun _ => ?_) (fun _ => ?_) | split)
set_option maxHeartbeats 1000000 in
set_option maxRecDepth 100000 in
theorem ferrymanlaw05_awake.con (k : Nat) (M : Hp)  (r : Bool)  (h : ferrymanlaw05_awake k  = some r) : Con Try.prog 9 #[] M [] (fun v M' Γ' => v = .bool r ∧ Γ' = []) := by
  refine con_of_wp Try.func9 rfl Try.ntmps9 Try.results9 rfl ?_
  intro w F rn S hrn
  have E := Ext.refl w
  have HM := Hp.le_refl M
  have H := h
  unfold ferrymanlaw05_awake at H
  refine Wp_seq ?_
  refine Wp_region_lit ?_
  refine W_v (.bool false) (x_assign rfl) rfl ?_
  refine Wl_nil ?_
  refine tn ?_
  refine Wp_seq ?_
  refine Wp_region_lit ?_
  obtain ⟨t1, ht2, H⟩ := bindS H
  refine W_callF2 fn10 (latch_New.con k M  t1  ht2) (Γ1 := []) (Γ2 := []) S rfl rfl (by rintro _ _ _ ⟨_, _, _, rfl, rfl⟩; exact (flat_cons flat_blk (flat_cons flat_map flat_nil))) ?_
  rintro _ w8 _ Γ' E' S ⟨b3, A5, c6, rfl, rfl⟩
  replace E := E.trans E'
  clear E'
  replace S : St w8 M F [Blk b3 (.cells #[.map (mb A5)] 56 (0, 0)), MapC enc_latch_Name (Value.int .i64) A5 t1.by_] := S
  refine W_v (.pointer (some ⟨b3, 0, none⟩)) (x_assign rfl) rfl ?_
  refine Wl_nil ?_
  refine tn ?_
  refine Wp_seq ?_
  refine Wp_region_lit ?_
  refine W_v (.agg #[.int .u8 1, .int .u64 7]) (x_build2 (pl := [(0, 1), (1, 1)]) #[.int .u8 1, .int .u64 7] Try.underlying25 ty25 (by kernel_rfl) rfl (by kernel_rfl)) rfl ?_
  refine W_alloc S #[.int .u8 0, .int .u64 0] ty25 rfl rfl ?_
  intro b11 w12 E' S
  replace E := E.trans E'
  clear E'
  refine W_store S 0 rfl ty25 rfl rfl [.int .u8 1, .int .u64 7] rfl rfl rfl #[.int .u8 1, .int .u64 7] rfl rfl ?_
  intro w14 E' S
  replace E := E.trans E'
  clear E'
  refine Wl_nil ?_
  refine tn ?_
  refine Wp_seq ?_
  refine Wp_region_any (S := fun w' => ∃ Mx, M.le Mx ∧ St w' Mx F [Blk b11 (.cells #[.int .u8 1, .int .u64 7] 25 (0, 0))]) (L := 24) mixed ?_
  intro w63 hw64 E'
  replace S := S.heap hw64
  replace E := E.trans E'
  clear E'
  refine Wa_take (i := 0) rfl (by kernel_rfl) rfl rfl (.pointer (some ⟨b3, 0, none⟩)) rfl (fun w' h' => x_move rfl) (⟨M, Hp.le_refl M, S.pick [0] (by decide)⟩) ?_
  refine Wa_take (i := 1) rfl (by kernel_rfl) rfl rfl (.agg #[.int .u8 1, .int .u64 7]) rfl (fun w' h' => x_loadA (cls_blk h' 0 rfl) ty25 rfl (sub_of_extract rfl) rfl rfl) (⟨M, Hp.le_refl M, S.pick [0] (by decide)⟩) ?_
  refine Wa_take (i := 3) rfl (by kernel_rfl) rfl rfl (.pointer (some ⟨b3, 0, none⟩)) rfl (fun w' h' => x_move rfl) (⟨M, Hp.le_refl M, S.pick [0] (by decide)⟩) ?_
  refine Wa_take (i := 4) rfl (by kernel_rfl) rfl rfl (.agg #[.int .u8 1, .int .u64 7]) rfl (fun w' h' => x_loadA (cls_blk h' 0 rfl) ty25 rfl (sub_of_extract rfl) rfl rfl) (⟨M, Hp.le_refl M, S.pick [0] (by decide)⟩) ?_
  refine Wa_take (i := 6) rfl (by kernel_rfl) rfl rfl (.pointer (some ⟨b3, 0, none⟩)) rfl (fun w' h' => x_move rfl) (⟨M, Hp.le_refl M, S.pick [0] (by decide)⟩) ?_
  refine Wa_take (i := 7) rfl (by kernel_rfl) rfl rfl (.agg #[.int .u8 1, .int .u64 7]) rfl (fun w' h' => x_loadA (cls_blk h' 0 rfl) ty25 rfl (sub_of_extract rfl) rfl rfl) (⟨M, Hp.le_refl M, S.pick [0] (by decide)⟩) ?_
  refine Wa_take (i := 9) rfl (by kernel_rfl) rfl rfl (.pointer (some ⟨b3, 0, none⟩)) rfl (fun w' h' => x_move rfl) (⟨M, Hp.le_refl M, S.pick [0] (by decide)⟩) ?_
  refine Wa_take (i := 10) rfl (by kernel_rfl) rfl rfl (.agg #[.int .u8 1, .int .u64 7]) rfl (fun w' h' => x_loadA (cls_blk h' 0 rfl) ty25 rfl (sub_of_extract rfl) rfl rfl) (⟨M, Hp.le_refl M, S.pick [0] (by decide)⟩) ?_
  refine Wa_take (i := 12) rfl (by kernel_rfl) rfl rfl (.pointer (some ⟨b3, 0, none⟩)) rfl (fun w' h' => x_move rfl) (⟨M, Hp.le_refl M, S.pick [0] (by decide)⟩) ?_
  refine Wa_take (i := 13) rfl (by kernel_rfl) rfl rfl (.agg #[.int .u8 1, .int .u64 7]) rfl (fun w' h' => x_loadA (cls_blk h' 0 rfl) ty25 rfl (sub_of_extract rfl) rfl rfl) (⟨M, Hp.le_refl M, S.pick [0] (by decide)⟩) ?_
  refine Wa_take (i := 15) rfl (by kernel_rfl) rfl rfl (.pointer (some ⟨b3, 0, none⟩)) rfl (fun w' h' => x_move rfl) (⟨M, Hp.le_refl M, S.pick [0] (by decide)⟩) ?_
  refine Wa_take (i := 16) rfl (by kernel_rfl) rfl rfl (.agg #[.int .u8 1, .int .u64 7]) rfl (fun w' h' => x_loadA (cls_blk h' 0 rfl) ty25 rfl (sub_of_extract rfl) rfl rfl) (⟨M, Hp.le_refl M, S.pick [0] (by decide)⟩) ?_
  refine Wa_solo (i := 2) rfl (by kernel_rfl) ?_
  obtain ⟨t65, ht66, H⟩ := bindS H
  replace S : St w63 M F [Blk b3 (.cells #[.map (mb A5)] 56 (0, 0)), MapC enc_latch_Name (Value.int .i64) A5 t1.by_, Blk b11 (.cells #[.int .u8 1, .int .u64 7] 25 (0, 0))] := S.pick [1, 2, 0] (by decide)
  refine W_callF2 fn12 (latch_Latches_Try_PO.con k M A5 c6 t1 (⟨(1 : Int), (7 : Int)⟩ : latch_Name) (2 : Int) b3 t65  ht66) (Γ1 := [Blk b3 (.cells #[.map (mb A5)] 56 (0, 0)), MapC enc_latch_Name (Value.int .i64) A5 t1.by_]) (Γ2 := [Blk b11 (.cells #[.int .u8 1, .int .u64 7] 25 (0, 0))]) S rfl rfl (by rintro _ _ _ ⟨_, _, rfl, rfl⟩; exact (flat_cons flat_blk (flat_cons flat_map flat_nil))) ?_
  rintro _ w70 _ Γ' E' S ⟨A67, c68, rfl, rfl⟩
  replace E := E.trans E'
  clear E'
  replace S : St w70 M F [Blk b3 (.cells #[.map (mb A67)] 56 (0, 0)), MapC enc_latch_Name (Value.int .i64) A67 t65.2.by_, Blk b11 (.cells #[.int .u8 1, .int .u64 7] 25 (0, 0))] := S
  refine Wl_nil (on_n ⟨.inr ⟨M, Hp.le_refl M, S.pick [2] (by decide)⟩, ?_⟩)
  refine Wa_solo (i := 5) rfl (by kernel_rfl) ?_
  obtain ⟨t73, ht74, H⟩ := bindS H
  refine W_callF2 fn12 (latch_Latches_Try_PO.con k M A67 c68 t65.2 (⟨(1 : Int), (7 : Int)⟩ : latch_Name) (3 : Int) b3 t73  ht74) (Γ1 := [Blk b3 (.cells #[.map (mb A67)] 56 (0, 0)), MapC enc_latch_Name (Value.int .i64) A67 t65.2.by_]) (Γ2 := [Blk b11 (.cells #[.int .u8 1, .int .u64 7] 25 (0, 0))]) S rfl rfl (by rintro _ _ _ ⟨_, _, rfl, rfl⟩; exact (flat_cons flat_blk (flat_cons flat_map flat_nil))) ?_
  rintro _ w78 _ Γ' E' S ⟨A75, c76, rfl, rfl⟩
  replace E := E.trans E'
  clear E'
  replace S : St w78 M F [Blk b3 (.cells #[.map (mb A75)] 56 (0, 0)), MapC enc_latch_Name (Value.int .i64) A75 t73.2.by_, Blk b11 (.cells #[.int .u8 1, .int .u64 7] 25 (0, 0))] := S
  refine Wl_nil (on_n ⟨.inr ⟨M, Hp.le_refl M, S.pick [2] (by decide)⟩, ?_⟩)
  refine Wa_solo (i := 8) rfl (by kernel_rfl) ?_
  obtain ⟨t81, ht82, H⟩ := bindS H
  refine W_callF2 fn12 (latch_Latches_Try_PO.con k M A75 c76 t73.2 (⟨(1 : Int), (7 : Int)⟩ : latch_Name) (2 : Int) b3 t81  ht82) (Γ1 := [Blk b3 (.cells #[.map (mb A75)] 56 (0, 0)), MapC enc_latch_Name (Value.int .i64) A75 t73.2.by_]) (Γ2 := [Blk b11 (.cells #[.int .u8 1, .int .u64 7] 25 (0, 0))]) S rfl rfl (by rintro _ _ _ ⟨_, _, rfl, rfl⟩; exact (flat_cons flat_blk (flat_cons flat_map flat_nil))) ?_
  rintro _ w86 _ Γ' E' S ⟨A83, c84, rfl, rfl⟩
  replace E := E.trans E'
  clear E'
  replace S : St w86 M F [Blk b3 (.cells #[.map (mb A83)] 56 (0, 0)), MapC enc_latch_Name (Value.int .i64) A83 t81.2.by_, Blk b11 (.cells #[.int .u8 1, .int .u64 7] 25 (0, 0))] := S
  refine Wl_nil (on_n ⟨.inr ⟨M, Hp.le_refl M, S.pick [2] (by decide)⟩, ?_⟩)
  refine Wa_solo (i := 11) rfl (by kernel_rfl) ?_
  obtain ⟨t89, ht90, H⟩ := bindS H
  refine W_callF2 fn11 (latch_Latches_Drop_PO.con k M A83 c84 t81.2 (⟨(1 : Int), (7 : Int)⟩ : latch_Name) (3 : Int) b3 t89  ht90) (Γ1 := [Blk b3 (.cells #[.map (mb A83)] 56 (0, 0)), MapC enc_latch_Name (Value.int .i64) A83 t81.2.by_]) (Γ2 := [Blk b11 (.cells #[.int .u8 1, .int .u64 7] 25 (0, 0))]) S rfl rfl (by rintro _ _ _ ⟨_, _, rfl, rfl⟩; exact (flat_cons flat_blk (flat_cons flat_map flat_nil))) ?_
  rintro _ w94 _ Γ' E' S ⟨A91, c92, rfl, rfl⟩
  replace E := E.trans E'
  clear E'
  replace S : St w94 M F [Blk b3 (.cells #[.map (mb A91)] 56 (0, 0)), MapC enc_latch_Name (Value.int .i64) A91 t89.2.by_, Blk b11 (.cells #[.int .u8 1, .int .u64 7] 25 (0, 0))] := S
  refine Wl_nil (on_n ⟨.inr ⟨M, Hp.le_refl M, S.pick [2] (by decide)⟩, ?_⟩)
  refine Wa_solo (i := 14) rfl (by kernel_rfl) ?_
  obtain ⟨t97, ht98, H⟩ := bindS H
  refine W_callF2 fn11 (latch_Latches_Drop_PO.con k M A91 c92 t89.2 (⟨(1 : Int), (7 : Int)⟩ : latch_Name) (2 : Int) b3 t97  ht98) (Γ1 := [Blk b3 (.cells #[.map (mb A91)] 56 (0, 0)), MapC enc_latch_Name (Value.int .i64) A91 t89.2.by_]) (Γ2 := [Blk b11 (.cells #[.int .u8 1, .int .u64 7] 25 (0, 0))]) S rfl rfl (by rintro _ _ _ ⟨_, _, rfl, rfl⟩; exact (flat_cons flat_blk (flat_cons flat_map flat_nil))) ?_
  rintro _ w102 _ Γ' E' S ⟨A99, c100, rfl, rfl⟩
  replace E := E.trans E'
  clear E'
  replace S : St w102 M F [Blk b3 (.cells #[.map (mb A99)] 56 (0, 0)), MapC enc_latch_Name (Value.int .i64) A99 t97.2.by_, Blk b11 (.cells #[.int .u8 1, .int .u64 7] 25 (0, 0))] := S
  refine Wl_nil (on_n ⟨.inr ⟨M, Hp.le_refl M, S.pick [2] (by decide)⟩, ?_⟩)
  refine Wa_solo (i := 17) rfl (by kernel_rfl) ?_
  obtain ⟨t105, ht106, H⟩ := bindS H
  refine W_callF2 fn12 (latch_Latches_Try_PO.con k M A99 c100 t97.2 (⟨(1 : Int), (7 : Int)⟩ : latch_Name) (3 : Int) b3 t105  ht106) (Γ1 := [Blk b3 (.cells #[.map (mb A99)] 56 (0, 0)), MapC enc_latch_Name (Value.int .i64) A99 t97.2.by_]) (Γ2 := [Blk b11 (.cells #[.int .u8 1, .int .u64 7] 25 (0, 0))]) S rfl rfl (by rintro _ _ _ ⟨_, _, rfl, rfl⟩; exact (flat_cons flat_blk (flat_cons flat_map flat_nil))) ?_
  rintro _ w110 _ Γ' E' S ⟨A107, c108, rfl, rfl⟩
  replace E := E.trans E'
  clear E'
  replace S : St w110 M F [Blk b3 (.cells #[.map (mb A107)] 56 (0, 0)), MapC enc_latch_Name (Value.int .i64) A107 t105.2.by_, Blk b11 (.cells #[.int .u8 1, .int .u64 7] 25 (0, 0))] := S
  refine Wl_nil (on_n ⟨.inr ⟨M, Hp.le_refl M, S.pick [2] (by decide)⟩, ?_⟩)
  refine Wa_take (i := 18) rfl (by kernel_rfl) rfl rfl (.bool t65.1) rfl (fun w' h' => x_assign rfl) (⟨M, Hp.le_refl M, S.pick [2] (by decide)⟩) ?_
  refine Wa_take (i := 19) rfl (by kernel_rfl) rfl rfl (.bool t73.1) rfl (fun w' h' => x_assign rfl) (⟨M, Hp.le_refl M, S.pick [2] (by decide)⟩) ?_
  refine Wa_take (i := 20) rfl (by kernel_rfl) rfl rfl (.bool t81.1) rfl (fun w' h' => x_assign rfl) (⟨M, Hp.le_refl M, S.pick [2] (by decide)⟩) ?_
  refine Wa_take (i := 21) rfl (by kernel_rfl) rfl rfl (.bool t89.1) rfl (fun w' h' => x_assign rfl) (⟨M, Hp.le_refl M, S.pick [2] (by decide)⟩) ?_
  refine Wa_take (i := 22) rfl (by kernel_rfl) rfl rfl (.bool t97.1) rfl (fun w' h' => x_assign rfl) (⟨M, Hp.le_refl M, S.pick [2] (by decide)⟩) ?_
  refine Wa_take (i := 23) rfl (by kernel_rfl) rfl rfl (.bool t105.1) rfl (fun w' h' => x_assign rfl) (⟨M, Hp.le_refl M, S.pick [2] (by decide)⟩) ?_
  refine Wa_done (by kernel_rfl) ?_
  refine tn ?_
  refine Wp_seq ?_
  refine Wp_region_lit ?_
  refine W_v (.pointer (some ⟨b3, 0, none⟩)) (x_move rfl) rfl ?_
  refine W_v (.agg #[.int .u8 0, .int .u64 9]) (x_build2 (pl := [(0, 1), (1, 1)]) #[.int .u8 0, .int .u64 9] Try.underlying25 ty25 (by kernel_rfl) rfl (by kernel_rfl)) rfl ?_
  obtain ⟨t113, ht114, H⟩ := bindS H
  refine W_callF2 fn12 (latch_Latches_Try_PO.con k M A107 c108 t105.2 (⟨(0 : Int), (9 : Int)⟩ : latch_Name) (3 : Int) b3 t113  ht114) (Γ1 := [Blk b3 (.cells #[.map (mb A107)] 56 (0, 0)), MapC enc_latch_Name (Value.int .i64) A107 t105.2.by_]) (Γ2 := [Blk b11 (.cells #[.int .u8 1, .int .u64 7] 25 (0, 0))]) S rfl rfl (by rintro _ _ _ ⟨_, _, rfl, rfl⟩; exact (flat_cons flat_blk (flat_cons flat_map flat_nil))) ?_
  rintro _ w118 _ Γ' E' S ⟨A115, c116, rfl, rfl⟩
  replace E := E.trans E'
  clear E'
  replace S : St w118 M F [Blk b3 (.cells #[.map (mb A115)] 56 (0, 0)), MapC enc_latch_Name (Value.int .i64) A115 t113.2.by_, Blk b11 (.cells #[.int .u8 1, .int .u64 7] 25 (0, 0))] := S
  refine W_v (.bool t113.1) (x_assign rfl) rfl ?_
  refine Wl_nil ?_
  refine tn ?_
  refine Wp_seq ?_
  refine Wp_region_lit ?_
  refine W_v (.bool t65.1) (x_move rfl) rfl ?_
  refine W_v (.bool t65.1) (x_move rfl) rfl ?_
  refine Wl_cutN 3 (fun ρ w' => Agree ρ [(1, .pointer (some ⟨b3, 0, none⟩)), (5, .bool t81.1), (6, .bool t89.1), (7, .bool t97.1), (8, .bool t105.1), (9, .bool t113.1), (37, .bool (t65.1 && (!t73.1)))] ∧ w118 = w') ?_ ?_
  · rcases boolCases t65.1 with hb121 | hb121
    · skip
      refine W_no (skT hb121) rfl ?_
      refine W_no (skT hb121) rfl ?_
      refine W_v (.bool false) (x_pick (k := false) (congrArg Value.bool hb121) rfl) rfl ?_
      refine Wl_nil ?_
      exact ⟨⟨rfl, rfl, rfl, rfl, rfl, rfl, (by first | rfl | (rw [hb121]; rfl) | (simp only [hb121]; rfl)), trivial⟩, rfl⟩
    · skip
      refine W_yes (congrArg some hb121) ?_
      refine W_v (.bool t73.1) (x_move rfl) rfl ?_
      refine W_yes (congrArg some hb121) ?_
      refine W_v (.bool (!t73.1)) (x_not rfl) rfl ?_
      refine W_v (.bool (!t73.1)) (x_pick (k := true) (congrArg Value.bool hb121) rfl) rfl ?_
      refine Wl_nil ?_
      exact ⟨⟨rfl, rfl, rfl, rfl, rfl, rfl, (by first | rfl | (rw [hb121]; rfl) | (simp only [hb121]; rfl)), trivial⟩, rfl⟩
  rintro ρ _ ⟨hρ, rfl⟩
  rw [agree_eta hρ]
  clear hρ
  refine W_v (.bool (t65.1 && (!t73.1))) (x_move rfl) rfl ?_
  refine Wl_cutN 2 (fun ρ w' => Agree ρ [(1, .pointer (some ⟨b3, 0, none⟩)), (6, .bool t89.1), (7, .bool t97.1), (8, .bool t105.1), (9, .bool t113.1), (40, .bool ((t65.1 && (!t73.1)) && t81.1))] ∧ w118 = w') ?_ ?_
  · rcases boolCases (t65.1 && (!t73.1)) with hb122 | hb122
    · skip
      refine W_no (skT hb122) rfl ?_
      refine W_v (.bool false) (x_pick (k := false) (congrArg Value.bool hb122) rfl) rfl ?_
      refine Wl_nil ?_
      exact ⟨⟨rfl, rfl, rfl, rfl, rfl, (by first | rfl | (rw [hb122]; rfl) | (simp only [hb122]; rfl)), trivial⟩, rfl⟩
    · skip
      refine W_yes (congrArg some hb122) ?_
      refine W_v (.bool t81.1) (x_move rfl) rfl ?_
      refine W_v (.bool t81.1) (x_pick (k := true) (congrArg Value.bool hb122) rfl) rfl ?_
      refine Wl_nil ?_
      exact ⟨⟨rfl, rfl, rfl, rfl, rfl, (by first | rfl | (rw [hb122]; rfl) | (simp only [hb122]; rfl)), trivial⟩, rfl⟩
  rintro ρ _ ⟨hρ, rfl⟩
  rw [agree_eta hρ]
  clear hρ
  refine W_v (.bool ((t65.1 && (!t73.1)) && t81.1)) (x_move rfl) rfl ?_
  refine Wl_cutN 3 (fun ρ w' => Agree ρ [(1, .pointer (some ⟨b3, 0, none⟩)), (7, .bool t97.1), (8, .bool t105.1), (9, .bool t113.1), (44, .bool (((t65.1 && (!t73.1)) && t81.1) && (!t89.1)))] ∧ w118 = w') ?_ ?_
  · rcases boolCases ((t65.1 && (!t73.1)) && t81.1) with hb123 | hb123
    · skip
      refine W_no (skT hb123) rfl ?_
      refine W_no (skT hb123) rfl ?_
      refine W_v (.bool false) (x_pick (k := false) (congrArg Value.bool hb123) rfl) rfl ?_
      refine Wl_nil ?_
      exact ⟨⟨rfl, rfl, rfl, rfl, (by first | rfl | (rw [hb123]; rfl) | (simp only [hb123]; rfl)), trivial⟩, rfl⟩
    · skip
      refine W_yes (congrArg some hb123) ?_
      refine W_v (.bool t89.1) (x_move rfl) rfl ?_
      refine W_yes (congrArg some hb123) ?_
      refine W_v (.bool (!t89.1)) (x_not rfl) rfl ?_
      refine W_v (.bool (!t89.1)) (x_pick (k := true) (congrArg Value.bool hb123) rfl) rfl ?_
      refine Wl_nil ?_
      exact ⟨⟨rfl, rfl, rfl, rfl, (by first | rfl | (rw [hb123]; rfl) | (simp only [hb123]; rfl)), trivial⟩, rfl⟩
  rintro ρ _ ⟨hρ, rfl⟩
  rw [agree_eta hρ]
  clear hρ
  refine W_v (.bool (((t65.1 && (!t73.1)) && t81.1) && (!t89.1))) (x_move rfl) rfl ?_
  refine Wl_cutN 2 (fun ρ w' => Agree ρ [(1, .pointer (some ⟨b3, 0, none⟩)), (8, .bool t105.1), (9, .bool t113.1), (47, .bool ((((t65.1 && (!t73.1)) && t81.1) && (!t89.1)) && t97.1))] ∧ w118 = w') ?_ ?_
  · rcases boolCases (((t65.1 && (!t73.1)) && t81.1) && (!t89.1)) with hb124 | hb124
    · skip
      refine W_no (skT hb124) rfl ?_
      refine W_v (.bool false) (x_pick (k := false) (congrArg Value.bool hb124) rfl) rfl ?_
      refine Wl_nil ?_
      exact ⟨⟨rfl, rfl, rfl, (by first | rfl | (rw [hb124]; rfl) | (simp only [hb124]; rfl)), trivial⟩, rfl⟩
    · skip
      refine W_yes (congrArg some hb124) ?_
      refine W_v (.bool t97.1) (x_move rfl) rfl ?_
      refine W_v (.bool t97.1) (x_pick (k := true) (congrArg Value.bool hb124) rfl) rfl ?_
      refine Wl_nil ?_
      exact ⟨⟨rfl, rfl, rfl, (by first | rfl | (rw [hb124]; rfl) | (simp only [hb124]; rfl)), trivial⟩, rfl⟩
  rintro ρ _ ⟨hρ, rfl⟩
  rw [agree_eta hρ]
  clear hρ
  refine W_v (.bool ((((t65.1 && (!t73.1)) && t81.1) && (!t89.1)) && t97.1)) (x_move rfl) rfl ?_
  refine Wl_cutN 2 (fun ρ w' => Agree ρ [(1, .pointer (some ⟨b3, 0, none⟩)), (9, .bool t113.1), (50, .bool (((((t65.1 && (!t73.1)) && t81.1) && (!t89.1)) && t97.1) && t105.1))] ∧ w118 = w') ?_ ?_
  · rcases boolCases ((((t65.1 && (!t73.1)) && t81.1) && (!t89.1)) && t97.1) with hb125 | hb125
    · skip
      refine W_no (skT hb125) rfl ?_
      refine W_v (.bool false) (x_pick (k := false) (congrArg Value.bool hb125) rfl) rfl ?_
      refine Wl_nil ?_
      exact ⟨⟨rfl, rfl, (by first | rfl | (rw [hb125]; rfl) | (simp only [hb125]; rfl)), trivial⟩, rfl⟩
    · skip
      refine W_yes (congrArg some hb125) ?_
      refine W_v (.bool t105.1) (x_move rfl) rfl ?_
      refine W_v (.bool t105.1) (x_pick (k := true) (congrArg Value.bool hb125) rfl) rfl ?_
      refine Wl_nil ?_
      exact ⟨⟨rfl, rfl, (by first | rfl | (rw [hb125]; rfl) | (simp only [hb125]; rfl)), trivial⟩, rfl⟩
  rintro ρ _ ⟨hρ, rfl⟩
  rw [agree_eta hρ]
  clear hρ
  refine W_v (.bool (((((t65.1 && (!t73.1)) && t81.1) && (!t89.1)) && t97.1) && t105.1)) (x_move rfl) rfl ?_
  refine Wl_cutN 2 (fun ρ w' => Agree ρ [(1, .pointer (some ⟨b3, 0, none⟩)), (53, .bool ((((((t65.1 && (!t73.1)) && t81.1) && (!t89.1)) && t97.1) && t105.1) && t113.1))] ∧ w118 = w') ?_ ?_
  · rcases boolCases (((((t65.1 && (!t73.1)) && t81.1) && (!t89.1)) && t97.1) && t105.1) with hb126 | hb126
    · skip
      refine W_no (skT hb126) rfl ?_
      refine W_v (.bool false) (x_pick (k := false) (congrArg Value.bool hb126) rfl) rfl ?_
      refine Wl_nil ?_
      exact ⟨⟨rfl, (by first | rfl | (rw [hb126]; rfl) | (simp only [hb126]; rfl)), trivial⟩, rfl⟩
    · skip
      refine W_yes (congrArg some hb126) ?_
      refine W_v (.bool t113.1) (x_move rfl) rfl ?_
      refine W_v (.bool t113.1) (x_pick (k := true) (congrArg Value.bool hb126) rfl) rfl ?_
      refine Wl_nil ?_
      exact ⟨⟨rfl, (by first | rfl | (rw [hb126]; rfl) | (simp only [hb126]; rfl)), trivial⟩, rfl⟩
  rintro ρ _ ⟨hρ, rfl⟩
  rw [agree_eta hρ]
  clear hρ
  refine W_v (.bool ((((((t65.1 && (!t73.1)) && t81.1) && (!t89.1)) && t97.1) && t105.1) && t113.1)) (x_move rfl) rfl ?_
  obtain ⟨o169, o169h, o169H⟩ := bindS H
  clear H
  refine Wl_cutN 8 (fun ρ w' => ∃ (x168 : Bool), (x168) = o169 ∧ Agree ρ [(62, .bool x168)] ∧ Ext w w' ∧ St w' M F []) ?_ ?_
  · have H := o169h
    rcases iteS H with ⟨hb167, H⟩ | ⟨hb167, H⟩
    · skip
      refine W_yes (congrArg some hb167) ?_
      refine W_v (.pointer (some ⟨b3, 0, none⟩)) (x_move rfl) rfl ?_
      refine W_yes (congrArg some hb167) ?_
      obtain ⟨t170, ht171, H⟩ := bindS H
      refine W_callF2 fn16 (latch_Latches_Held_PO.con k M A115 c116 t113.2 (3 : Int) b3 t170  ht171) (Γ1 := [Blk b3 (.cells #[.map (mb A115)] 56 (0, 0)), MapC enc_latch_Name (Value.int .i64) A115 t113.2.by_]) (Γ2 := [Blk b11 (.cells #[.int .u8 1, .int .u64 7] 25 (0, 0))]) S rfl rfl (by rintro _ _ _ ⟨_, _, rfl, rfl⟩; exact (flat_cons (flat_row (fun _ _ _ _ h => h)) (flat_cons flat_blk (flat_cons flat_map flat_nil)))) ?_
      rintro _ w175 _ Γ' E' S ⟨A172, c173, rfl, rfl⟩
      replace E := E.trans E'
      clear E'
      replace S : St w175 M F [Row r_latch_Name 25 (.slice A172 t170.length c173) t170, Blk b3 (.cells #[.map (mb A115)] 56 (0, 0)), MapC enc_latch_Name (Value.int .i64) A115 t113.2.by_, Blk b11 (.cells #[.int .u8 1, .int .u64 7] 25 (0, 0))] := S
      refine W_yes (congrArg some hb167) ?_
      obtain ⟨t178, ht179, H⟩ := bindS H
      refine W_callN 1 fn19 (fun h9 hs9 hd9 => ferrymanlaw05_names.con k _ A172 c173 t170 t178 (Sats.row hs9 hd9 0 rfl) ht179) S rfl rfl (by rintro _ _ _ ⟨_, _, _, rfl⟩; exact (flat_cons (flat_row (fun _ _ _ _ h => h)) flat_nil)) ?_
      rintro _ w183 _ Γ' E' S ⟨A180, c181, rfl, rfl⟩
      replace E := E.trans E'
      clear E'
      refine W_yes (congrArg some hb167) ?_
      refine W_v (.agg #[.int .u8 0, .int .u64 9]) (x_build2 (pl := [(0, 1), (1, 1)]) #[.int .u8 0, .int .u64 9] Try.underlying44 ty44 (by kernel_rfl) rfl (by kernel_rfl)) rfl ?_
      refine W_yes (congrArg some hb167) ?_
      refine W_v (.agg #[.int .u8 1, .int .u64 7]) (x_build2 (pl := [(0, 1), (1, 1)]) #[.int .u8 1, .int .u64 7] Try.underlying44 ty44 (by kernel_rfl) rfl (by kernel_rfl)) rfl ?_
      refine W_yes (congrArg some hb167) ?_
      refine W_bslice S #[.int .u8 0, .int .u64 9, .int .u8 1, .int .u64 7] Try.underlying42 ty44 rfl rfl #[.int .u8 0, .int .u64 0, .int .u8 0, .int .u64 0] (by kernel_rfl) (by kernel_rfl) rfl ?_
      intro b184 w185 E' S
      replace E := E.trans E'
      clear E'
      replace S := S.blk_row (r := r_ferrymanref05_Name) (l := ([(⟨(0 : Int), (9 : Int)⟩ : ferrymanref05_Name), (⟨(1 : Int), (7 : Int)⟩ : ferrymanref05_Name)] : List ferrymanref05_Name)) 0 rfl 2 (Nat.le_refl 2) rfl (Cells.cons (vs := [.int .u8 0, .int .u64 9]) (rfl) (Cells.cons (vs := [.int .u8 1, .int .u64 7]) (rfl) Cells.nil))
      refine W_yes (congrArg some hb167) ?_
      replace S : St w185 M F [Row r_ferrymanref05_Name 44 (.slice A180 t178.length c181) t178, Row r_ferrymanref05_Name 44 (.slice (some ⟨b184, 0, none⟩) ([(⟨(0 : Int), (9 : Int)⟩ : ferrymanref05_Name), (⟨(1 : Int), (7 : Int)⟩ : ferrymanref05_Name)] : List ferrymanref05_Name).length 2) ([(⟨(0 : Int), (9 : Int)⟩ : ferrymanref05_Name), (⟨(1 : Int), (7 : Int)⟩ : ferrymanref05_Name)] : List ferrymanref05_Name), Row r_latch_Name 25 (.slice A172 t170.length c173) t170, Blk b3 (.cells #[.map (mb A115)] 56 (0, 0)), MapC enc_latch_Name (Value.int .i64) A115 t113.2.by_, Blk b11 (.cells #[.int .u8 1, .int .u64 7] 25 (0, 0))] := S.pick [1, 0, 2, 3, 4, 5] (by decide)
      obtain ⟨t187, ht188, H⟩ := bindS H
      refine W_callN 2 fn18 (fun h9 hs9 hd9 => ferrymanref05_Names.con k _ A180 c181 t178 (some ⟨b184, 0, none⟩) 2 ([(⟨(0 : Int), (9 : Int)⟩ : ferrymanref05_Name), (⟨(1 : Int), (7 : Int)⟩ : ferrymanref05_Name)] : List ferrymanref05_Name) t187 (Sats.row hs9 hd9 0 rfl) (Sats.row hs9 hd9 1 rfl) ht188) S rfl rfl (by rintro _ _ _ ⟨_, rfl⟩; exact flat_nil) ?_
      rintro _ w189 _ Γ' E' S ⟨rfl, rfl⟩
      replace E := E.trans E'
      clear E'
      refine W_v (.bool t187) (x_pick (k := true) (congrArg Value.bool hb167) rfl) rfl ?_
      refine Wl_nil ?_
      exact ⟨t187, Option.some.inj H, ⟨rfl, trivial⟩, E, S.pick [] (by decide)⟩
    · skip
      refine W_no (skT hb167) rfl ?_
      refine W_no (skT hb167) rfl ?_
      refine W_no (skT hb167) rfl ?_
      refine W_no (skT hb167) rfl ?_
      refine W_no (skT hb167) rfl ?_
      refine W_no (skT hb167) rfl ?_
      refine W_no (skT hb167) rfl ?_
      refine W_v (.bool false) (x_pick (k := false) (congrArg Value.bool hb167) rfl) rfl ?_
      refine Wl_nil ?_
      exact ⟨false, Option.some.inj H, ⟨rfl, trivial⟩, E, S.pick [] (by decide)⟩
  clear o169h
  rintro ρ w190 ⟨x168, rfl, hρ, E, S⟩
  rw [agree_eta hρ]
  clear hρ
  have H := o169H
  clear o169H
  refine W_v (.bool x168) (x_assign rfl) rfl ?_
  refine Wl_nil ?_
  refine tn ?_
  refine Wp_ret ?_
  obtain rfl := Option.some.inj H
  exact ⟨_, _, _, fun w1 e1 => run_resR (vs := [.bool x168]) (FA.cons (rfl) (FA.nil)), HM, E, S.pick [] (by decide), ⟨rfl, rfl⟩⟩
/-! ### ferryman/ferrymanlaw05.run: function 14 -/
def ferrymanlaw05_run_l0 (a0 : (List ferrymanlaw05_Step)) : Nat → Int → List (latch_Name × Int) → Option (((List (latch_Name × Int))))
  | 0, _, _ => none
  | k + 1, x1503, x1504 => (if (decide (x1503 < (a0.length : Int))) = true then (Option.bind (α := (List (latch_Name × Int))) (if 0 ≤ x1503 ∧ x1503 < (a0.length : Int) then (Option.bind (α := (List (latch_Name × Int))) (if (rd a0 x1503).Drop = true then (if 0 ≤ x1503 ∧ x1503 < (a0.length : Int) then (if 0 ≤ x1503 ∧ x1503 < (a0.length : Int) then (Option.bind (latch_Latches_Drop_PO k (⟨x1504⟩ : latch_Latches) ((rd a0 x1503).N) ((rd a0 x1503).Task)) (fun t2928 => some (t2928.2.by_))) else none) else none) else (if 0 ≤ x1503 ∧ x1503 < (a0.length : Int) then (if 0 ≤ x1503 ∧ x1503 < (a0.length : Int) then (Option.bind (latch_Latches_Try_PO k (⟨x1504⟩ : latch_Latches) ((rd a0 x1503).N) ((rd a0 x1503).Task)) (fun t2986 => some (t2986.2.by_))) else none) else none)) (fun x2872 => some (x2872))) else none) (fun x2623 => ferrymanlaw05_run_l0 a0 k (IntKind.i64.wrap (x1503 + (1 : Int))) x2623)) else some (x1504))
set_option maxHeartbeats 2000000 in
theorem ferrymanlaw05_run_l0.mono {a0 : (List ferrymanlaw05_Step)} : ∀ {k : Nat} {x0 x1}, OLe (ferrymanlaw05_run_l0 a0 k x0 x1) (ferrymanlaw05_run_l0 a0 (k + 1) x0 x1) := by
  intro k
  induction k with
  | zero => intros; exact OLe.none
  | succ k ih =>
    intros
    rw [ferrymanlaw05_run_l0.eq_2, ferrymanlaw05_run_l0.eq_2]
    repeat' (first | with_reducible exact OLe.none | with_reducible exact OLe.some | with_reducible refine OLe.ite ?_ ?_ | with_reducible refine OLe.bind ?_ (fun _ => ?_) | with_reducible exact latch_Latches_Drop_PO.mono | with_reducible exact latch_Latches_Try_PO.mono | exact ih | refine OLe.bind ?_ (fun _ => ?_) | refine OLe.ite ?_ ?_ | refine OLe.elim (fun _ => ?_) (fun _ => ?_) | split)
def ferrymanlaw05_run (k : Nat) (a0 : (List ferrymanlaw05_Step)) : Option (latch_Latches) :=
  (Option.bind (latch_New k ) (fun t1 => (Option.bind (ferrymanlaw05_run_l0 a0 k (0 : Int) t1.by_) (fun x2249 => some (⟨x2249⟩ : latch_Latches)))))
set_option maxHeartbeats 2000000 in
theorem ferrymanlaw05_run.mono {k : Nat} {a0 : (List ferrymanlaw05_Step)} : OLe (ferrymanlaw05_run k a0) (ferrymanlaw05_run (k + 1) a0) := by
  unfold ferrymanlaw05_run
  repeat' (first | with_reducible exact OLe.none | with_reducible exact OLe.some | with_reducible refine OLe.ite ?_ ?_ | with_reducible refine OLe.bind ?_ (fun _ => ?_) | with_reducible exact ferrymanlaw05_run_l0.mono | with_reducible exact latch_New.mono | refine OLe.bind ?_ (fun _ => ?_) | refine OLe.ite ?_ ?_ | refine OLe.elim (fun _ => ?_) (fun _ => ?_) | split)
set_option maxHeartbeats 1000000 in
set_option maxRecDepth 100000 in
theorem ferrymanlaw05_run.con (k : Nat) (M : Hp) (A0 : Option Addr) (c0 : Nat) (a0 : (List ferrymanlaw05_Step)) (r : latch_Latches) (hr0 : SlR r_ferrymanlaw05_Step M (.slice A0 a0.length c0) a0) (h : ferrymanlaw05_run k a0 = some r) : Con Try.prog 14 #[.slice A0 a0.length c0] M [] (fun v M' Γ' => ∃ (bq1 : Nat) (Aq3 : Option Addr) (cq4 : Nat), v = .pointer (some ⟨bq1, 0, none⟩) ∧ Γ' = [Blk bq1 (.cells #[.map (mb Aq3)] 56 (0, 0)), MapC enc_latch_Name (Value.int .i64) Aq3 r.by_]) := by
  refine con_of_wp Try.func14 rfl Try.ntmps14 Try.results14 rfl ?_
  intro w F rn S hrn
  have E := Ext.refl w
  have HM := Hp.le_refl M
  have H := h
  unfold ferrymanlaw05_run at H
  refine Wp_seq ?_
  refine Wp_region_lit ?_
  refine W_v (.pointer none) (x_assign rfl) rfl ?_
  refine Wl_nil ?_
  refine tn ?_
  refine Wp_seq ?_
  refine Wp_region_lit ?_
  obtain ⟨t1, ht2, H⟩ := bindS H
  refine W_callF2 fn10 (latch_New.con k M  t1  ht2) (Γ1 := []) (Γ2 := []) S rfl rfl (by rintro _ _ _ ⟨_, _, _, rfl, rfl⟩; exact (flat_cons flat_blk (flat_cons flat_map flat_nil))) ?_
  rintro _ w8 _ Γ' E' S ⟨b3, A5, c6, rfl, rfl⟩
  replace E := E.trans E'
  clear E'
  replace S : St w8 M F [Blk b3 (.cells #[.map (mb A5)] 56 (0, 0)), MapC enc_latch_Name (Value.int .i64) A5 t1.by_] := S
  refine W_v (.pointer (some ⟨b3, 0, none⟩)) (x_assign rfl) rfl ?_
  refine Wl_nil ?_
  refine tn ?_
  refine Wp_seq ?_
  refine Wp_seq ?_
  refine Wp_region_lit ?_
  refine W_v (.int .i64 0) (x_assign rfl) rfl ?_
  refine Wl_nil ?_
  refine tn ?_
  obtain ⟨o2253, o2253h, o2253H⟩ := bindS H
  clear H
  refine Wp_blockJ (fun ρ w' => ∃ (x2249 : List (latch_Name × Int)) (A2250 : Option Addr) (c2251 : Nat), (x2249) = o2253 ∧ Agree ρ [(3, .pointer (some ⟨b3, 0, none⟩))] ∧ Ext w w' ∧ St w' M F [MapC enc_latch_Name (Value.int .i64) A2250 x2249, Blk b3 (.cells #[.map (mb A2250)] 56 (0, 0))]) ?_ ?_
  · skip
    refine Wp_loop (fun n ρ w' => ∃ (x1503 : Int) (x1504 : List (latch_Name × Int)) (A1505 : Option Addr) (c1506 : Nat), ferrymanlaw05_run_l0 a0 n x1503 x1504 = some o2253 ∧ Agree ρ [(0, .slice A0 a0.length c0), (3, .pointer (some ⟨b3, 0, none⟩)), (4, .int .i64 x1503)] ∧ Ext w w' ∧ St w' M F [MapC enc_latch_Name (Value.int .i64) A1505 x1504, Blk b3 (.cells #[.map (mb A1505)] 56 (0, 0))]) k ?_ ?_
    · skip
      exact ⟨(0 : Int), t1.by_, A5, c6, o2253h, ⟨rfl, rfl, rfl, trivial⟩, E, S.pick [1, 0] (by decide)⟩
    · intro n
      rintro ρ w2254 ⟨x1503, x1504, A1505, c1506, H, hρ, E, S⟩
      rw [agree_eta hρ]
      clear hρ
      cases n with
      | zero => cases H
      | succ k =>
        rw [ferrymanlaw05_run_l0.eq_2] at H
        refine Wp_seq ?_
        refine Wp_seq ?_
        refine Wp_region_lit ?_
        refine W_v (.int .i64 x1503) (x_move rfl) rfl ?_
        refine W_v (.slice A0 a0.length c0) (x_move rfl) rfl ?_
        refine W_v (.int .i64 (a0.length : Int)) (x_len_slice (n := a0.length) Try.underlying22 rfl) rfl ?_
        refine W_v (.bool (decide (x1503 < (a0.length : Int)))) (x_ibin rfl rfl rfl rfl) rfl ?_
        refine Wl_nil ?_
        refine tn ?_
        rcases iteS H with ⟨hb2255, H⟩ | ⟨hb2255, H⟩
        · refine Wp_cond_true (congrArg Value.bool hb2255) ?_
          refine Wp_skip ?_
          refine tn ?_
          refine Wp_seq ?_
          obtain ⟨o2627, o2627h, o2627H⟩ := bindS H
          refine Wp_cut (fun ρ w' => ∃ (x2623 : List (latch_Name × Int)) (A2624 : Option Addr) (c2625 : Nat), (x2623) = o2627 ∧ Agree ρ [(0, .slice A0 a0.length c0), (3, .pointer (some ⟨b3, 0, none⟩)), (4, .int .i64 x1503)] ∧ Ext w w' ∧ St w' M F [MapC enc_latch_Name (Value.int .i64) A2624 x2623, Blk b3 (.cells #[.map (mb A2624)] 56 (0, 0))]) ?_ ?_
          · clear o2627H
            have H := o2627h
            clear o2627h
            refine Wp_block ?_
            refine Wp_seq ?_
            refine Wp_region_lit ?_
            refine W_v (.slice A0 a0.length c0) (x_move rfl) rfl ?_
            refine W_v (.int .i64 x1503) (x_move rfl) rfl ?_
            obtain ⟨⟨p2628, p2629⟩, H⟩ := chkS H
            obtain ⟨b2630, o2631, cs2632, _, _, ee2637, hb2633, vs2634, hR2635, hc2636⟩ := SlW.at' hr0 p2628 p2629
            obtain rfl : vs2634 = _ := hR2635
            refine W_v (.pointer (some ⟨b2630, o2631 + x1503.toNat * 4, none⟩)) (x_indexAddr Try.underlying22 ty30 (slA ee2637) rfl p2628 p2629) rfl ?_
            refine W_v (.pointer (some ⟨b2630, o2631 + x1503.toNat * 4, none⟩)) (x_fieldAddr (o := o2631 + x1503.toNat * 4) (off := 0) Try.underlying30 rfl ty4 rfl rfl) rfl ?_
            refine W_v (.bool ((rd a0 x1503).Drop)) (x_load (S.frz hb2633) ty4 rfl (hc2636 0 _ rfl)) rfl ?_
            refine Wl_nil ?_
            refine tn ?_
            obtain ⟨o2876, o2876h, o2876H⟩ := bindS H
            refine Wp_cut (fun ρ w' => ∃ (x2872 : List (latch_Name × Int)) (A2873 : Option Addr) (c2874 : Nat), (x2872) = o2876 ∧ Agree ρ [(0, .slice A0 a0.length c0), (3, .pointer (some ⟨b3, 0, none⟩)), (4, .int .i64 x1503)] ∧ Ext w w' ∧ St w' M F [MapC enc_latch_Name (Value.int .i64) A2873 x2872, Blk b3 (.cells #[.map (mb A2873)] 56 (0, 0))]) ?_ ?_
            · clear o2876H
              have H := o2876h
              clear o2876h
              rcases iteS H with ⟨hb2877, H⟩ | ⟨hb2877, H⟩
              · refine Wp_cond_true (congrArg Value.bool hb2877) ?_
                refine Wp_region_any (S := fun w' => ∃ Mx, M.le Mx ∧ St w' Mx F []) (L := 12) mixed ?_
                intro w2906 hw2907 E'
                replace S := S.heap hw2907
                replace E := E.trans E'
                clear E'
                refine Wa_take (i := 0) rfl (by kernel_rfl) rfl rfl (.pointer (some ⟨b3, 0, none⟩)) rfl (fun w' h' => x_move rfl) (⟨M, Hp.le_refl M, S.pick [] (by decide)⟩) ?_
                refine Wa_take (i := 1) rfl (by kernel_rfl) rfl rfl (.slice A0 a0.length c0) rfl (fun w' h' => x_move rfl) (⟨M, Hp.le_refl M, S.pick [] (by decide)⟩) ?_
                refine Wa_take (i := 2) rfl (by kernel_rfl) rfl rfl (.int .i64 x1503) rfl (fun w' h' => x_move rfl) (⟨M, Hp.le_refl M, S.pick [] (by decide)⟩) ?_
                obtain ⟨⟨p2908, p2909⟩, H⟩ := chkS H
                obtain ⟨b2910, o2911, cs2912, _, _, ee2917, hb2913, vs2914, hR2915, hc2916⟩ := SlW.at' hr0 p2908 p2909
                obtain rfl : vs2914 = _ := hR2915
                refine Wa_take (i := 3) rfl (by kernel_rfl) rfl rfl (.pointer (some ⟨b2910, o2911 + x1503.toNat * 4, none⟩)) rfl (fun w' h' => x_indexAddr Try.underlying22 ty30 (slA ee2917) rfl p2908 p2909) (⟨M, Hp.le_refl M, S.pick [] (by decide)⟩) ?_
                refine Wa_take (i := 4) rfl (by kernel_rfl) rfl rfl (.pointer (some ⟨b2910, o2911 + x1503.toNat * 4 + 1, none⟩)) rfl (fun w' h' => x_fieldAddr (o := o2911 + x1503.toNat * 4) (off := 1) Try.underlying30 rfl ty25 rfl rfl) (⟨M, Hp.le_refl M, S.pick [] (by decide)⟩) ?_
                refine Wa_take (i := 5) rfl (by kernel_rfl) rfl rfl (.agg #[.int .u8 ((rd a0 x1503).N.Kind), .int .u64 ((rd a0 x1503).N.ID)]) rfl (fun w' h' => x_loadA (cls_frz h' hb2913) ty25 rfl (sub_el hc2916 1 rfl) rfl rfl) (⟨M, Hp.le_refl M, S.pick [] (by decide)⟩) ?_
                refine Wa_take (i := 6) rfl (by kernel_rfl) rfl rfl (.slice A0 a0.length c0) rfl (fun w' h' => x_move rfl) (⟨M, Hp.le_refl M, S.pick [] (by decide)⟩) ?_
                refine Wa_take (i := 7) rfl (by kernel_rfl) rfl rfl (.int .i64 x1503) rfl (fun w' h' => x_move rfl) (⟨M, Hp.le_refl M, S.pick [] (by decide)⟩) ?_
                obtain ⟨⟨p2918, p2919⟩, H⟩ := chkS H
                obtain ⟨b2920, o2921, cs2922, _, _, ee2927, hb2923, vs2924, hR2925, hc2926⟩ := SlW.at' hr0 p2918 p2919
                obtain rfl : vs2924 = _ := hR2925
                refine Wa_take (i := 8) rfl (by kernel_rfl) rfl rfl (.pointer (some ⟨b2920, o2921 + x1503.toNat * 4, none⟩)) rfl (fun w' h' => x_indexAddr Try.underlying22 ty30 (slA ee2927) rfl p2918 p2919) (⟨M, Hp.le_refl M, S.pick [] (by decide)⟩) ?_
                refine Wa_take (i := 9) rfl (by kernel_rfl) rfl rfl (.pointer (some ⟨b2920, o2921 + x1503.toNat * 4 + 3, none⟩)) rfl (fun w' h' => x_fieldAddr (o := o2921 + x1503.toNat * 4) (off := 3) Try.underlying30 rfl ty3 rfl rfl) (⟨M, Hp.le_refl M, S.pick [] (by decide)⟩) ?_
                refine Wa_take (i := 10) rfl (by kernel_rfl) rfl rfl (.int .i64 ((rd a0 x1503).Task)) rfl (fun w' h' => x_load (cls_frz h' hb2923) ty3 rfl (hc2926 3 _ rfl)) (⟨M, Hp.le_refl M, S.pick [] (by decide)⟩) ?_
                refine Wa_solo (i := 11) rfl (by kernel_rfl) ?_
                obtain ⟨t2928, ht2929, H⟩ := bindS H
                replace S : St w2906 M F [Blk b3 (.cells #[.map (mb A1505)] 56 (0, 0)), MapC enc_latch_Name (Value.int .i64) A1505 x1504] := S.pick [1, 0] (by decide)
                refine W_callF2 fn11 (latch_Latches_Drop_PO.con k M A1505 c1506 (⟨x1504⟩ : latch_Latches) ((rd a0 x1503).N) ((rd a0 x1503).Task) b3 t2928  ht2929) (Γ1 := [Blk b3 (.cells #[.map (mb A1505)] 56 (0, 0)), MapC enc_latch_Name (Value.int .i64) A1505 x1504]) (Γ2 := []) S rfl rfl (by rintro _ _ _ ⟨_, _, rfl, rfl⟩; exact (flat_cons flat_blk (flat_cons flat_map flat_nil))) ?_
                rintro _ w2933 _ Γ' E' S ⟨A2930, c2931, rfl, rfl⟩
                replace E := E.trans E'
                clear E'
                replace S : St w2933 M F [Blk b3 (.cells #[.map (mb A2930)] 56 (0, 0)), MapC enc_latch_Name (Value.int .i64) A2930 t2928.2.by_] := S
                refine Wl_nil (on_n ⟨.inr ⟨M, Hp.le_refl M, S.pick [] (by decide)⟩, ?_⟩)
                refine Wa_done (by kernel_rfl) ?_
                refine tn ?_
                exact ⟨t2928.2.by_, A2930, c2931, Option.some.inj H, ⟨rfl, rfl, rfl, trivial⟩, E, S.pick [1, 0] (by decide)⟩
              refine Wp_cond_false (congrArg Value.bool hb2877) ?_
              refine Wp_region_any (S := fun w' => ∃ Mx, M.le Mx ∧ St w' Mx F []) (L := 12) mixed ?_
              intro w2964 hw2965 E'
              replace S := S.heap hw2965
              replace E := E.trans E'
              clear E'
              refine Wa_take (i := 0) rfl (by kernel_rfl) rfl rfl (.pointer (some ⟨b3, 0, none⟩)) rfl (fun w' h' => x_move rfl) (⟨M, Hp.le_refl M, S.pick [] (by decide)⟩) ?_
              refine Wa_take (i := 1) rfl (by kernel_rfl) rfl rfl (.slice A0 a0.length c0) rfl (fun w' h' => x_move rfl) (⟨M, Hp.le_refl M, S.pick [] (by decide)⟩) ?_
              refine Wa_take (i := 2) rfl (by kernel_rfl) rfl rfl (.int .i64 x1503) rfl (fun w' h' => x_move rfl) (⟨M, Hp.le_refl M, S.pick [] (by decide)⟩) ?_
              obtain ⟨⟨p2966, p2967⟩, H⟩ := chkS H
              obtain ⟨b2968, o2969, cs2970, _, _, ee2975, hb2971, vs2972, hR2973, hc2974⟩ := SlW.at' hr0 p2966 p2967
              obtain rfl : vs2972 = _ := hR2973
              refine Wa_take (i := 3) rfl (by kernel_rfl) rfl rfl (.pointer (some ⟨b2968, o2969 + x1503.toNat * 4, none⟩)) rfl (fun w' h' => x_indexAddr Try.underlying22 ty30 (slA ee2975) rfl p2966 p2967) (⟨M, Hp.le_refl M, S.pick [] (by decide)⟩) ?_
              refine Wa_take (i := 4) rfl (by kernel_rfl) rfl rfl (.pointer (some ⟨b2968, o2969 + x1503.toNat * 4 + 1, none⟩)) rfl (fun w' h' => x_fieldAddr (o := o2969 + x1503.toNat * 4) (off := 1) Try.underlying30 rfl ty25 rfl rfl) (⟨M, Hp.le_refl M, S.pick [] (by decide)⟩) ?_
              refine Wa_take (i := 5) rfl (by kernel_rfl) rfl rfl (.agg #[.int .u8 ((rd a0 x1503).N.Kind), .int .u64 ((rd a0 x1503).N.ID)]) rfl (fun w' h' => x_loadA (cls_frz h' hb2971) ty25 rfl (sub_el hc2974 1 rfl) rfl rfl) (⟨M, Hp.le_refl M, S.pick [] (by decide)⟩) ?_
              refine Wa_take (i := 6) rfl (by kernel_rfl) rfl rfl (.slice A0 a0.length c0) rfl (fun w' h' => x_move rfl) (⟨M, Hp.le_refl M, S.pick [] (by decide)⟩) ?_
              refine Wa_take (i := 7) rfl (by kernel_rfl) rfl rfl (.int .i64 x1503) rfl (fun w' h' => x_move rfl) (⟨M, Hp.le_refl M, S.pick [] (by decide)⟩) ?_
              obtain ⟨⟨p2976, p2977⟩, H⟩ := chkS H
              obtain ⟨b2978, o2979, cs2980, _, _, ee2985, hb2981, vs2982, hR2983, hc2984⟩ := SlW.at' hr0 p2976 p2977
              obtain rfl : vs2982 = _ := hR2983
              refine Wa_take (i := 8) rfl (by kernel_rfl) rfl rfl (.pointer (some ⟨b2978, o2979 + x1503.toNat * 4, none⟩)) rfl (fun w' h' => x_indexAddr Try.underlying22 ty30 (slA ee2985) rfl p2976 p2977) (⟨M, Hp.le_refl M, S.pick [] (by decide)⟩) ?_
              refine Wa_take (i := 9) rfl (by kernel_rfl) rfl rfl (.pointer (some ⟨b2978, o2979 + x1503.toNat * 4 + 3, none⟩)) rfl (fun w' h' => x_fieldAddr (o := o2979 + x1503.toNat * 4) (off := 3) Try.underlying30 rfl ty3 rfl rfl) (⟨M, Hp.le_refl M, S.pick [] (by decide)⟩) ?_
              refine Wa_take (i := 10) rfl (by kernel_rfl) rfl rfl (.int .i64 ((rd a0 x1503).Task)) rfl (fun w' h' => x_load (cls_frz h' hb2981) ty3 rfl (hc2984 3 _ rfl)) (⟨M, Hp.le_refl M, S.pick [] (by decide)⟩) ?_
              refine Wa_solo (i := 11) rfl (by kernel_rfl) ?_
              obtain ⟨t2986, ht2987, H⟩ := bindS H
              replace S : St w2964 M F [Blk b3 (.cells #[.map (mb A1505)] 56 (0, 0)), MapC enc_latch_Name (Value.int .i64) A1505 x1504] := S.pick [1, 0] (by decide)
              refine W_callF2 fn12 (latch_Latches_Try_PO.con k M A1505 c1506 (⟨x1504⟩ : latch_Latches) ((rd a0 x1503).N) ((rd a0 x1503).Task) b3 t2986  ht2987) (Γ1 := [Blk b3 (.cells #[.map (mb A1505)] 56 (0, 0)), MapC enc_latch_Name (Value.int .i64) A1505 x1504]) (Γ2 := []) S rfl rfl (by rintro _ _ _ ⟨_, _, rfl, rfl⟩; exact (flat_cons flat_blk (flat_cons flat_map flat_nil))) ?_
              rintro _ w2991 _ Γ' E' S ⟨A2988, c2989, rfl, rfl⟩
              replace E := E.trans E'
              clear E'
              replace S : St w2991 M F [Blk b3 (.cells #[.map (mb A2988)] 56 (0, 0)), MapC enc_latch_Name (Value.int .i64) A2988 t2986.2.by_] := S
              refine Wl_nil (on_n ⟨.inr ⟨M, Hp.le_refl M, S.pick [] (by decide)⟩, ?_⟩)
              refine Wa_done (by kernel_rfl) ?_
              refine tn ?_
              exact ⟨t2986.2.by_, A2988, c2989, Option.some.inj H, ⟨rfl, rfl, rfl, trivial⟩, E, S.pick [1, 0] (by decide)⟩
            clear o2876h
            rintro ρ w2994 ⟨x2872, A2873, c2874, rfl, hρ, E, S⟩
            rw [agree_eta hρ]
            clear hρ
            have H := o2876H
            clear o2876H
            refine bn ?_
            refine tn ?_
            exact ⟨x2872, A2873, c2874, Option.some.inj H, ⟨rfl, rfl, rfl, trivial⟩, E, S.pick [0, 1] (by decide)⟩
          clear o2627h
          rintro ρ w2995 ⟨x2623, A2624, c2625, rfl, hρ, E, S⟩
          rw [agree_eta hρ]
          clear hρ
          have H := o2627H
          clear o2627H
          refine tn ?_
          refine Wp_region_lit ?_
          refine W_v (.int .i64 x1503) (x_move rfl) rfl ?_
          refine W_v (.int .i64 (IntKind.i64.wrap (x1503 + (1 : Int)))) (x_ibin rfl rfl rfl rfl) rfl ?_
          refine W_v (.int .i64 (IntKind.i64.wrap (x1503 + (1 : Int)))) (x_assign rfl) rfl ?_
          refine Wl_nil ?_
          refine tn ?_
          exact ⟨k, Nat.lt_succ_self k, ⟨(IntKind.i64.wrap (x1503 + (1 : Int))), x2623, A2624, c2625, H, ⟨rfl, rfl, rfl, trivial⟩, E, S.pick [0, 1] (by decide)⟩⟩
        refine Wp_cond_false (congrArg Value.bool hb2255) ?_
        refine Wp_exit ?_
        refine tx (tx (bsm (?_)))
        refine tn ?_
        exact ⟨x1504, A1505, c1506, Option.some.inj H, ⟨rfl, trivial⟩, E, S.pick [0, 1] (by decide)⟩
  clear o2253h
  rintro ρ w2996 ⟨x2249, A2250, c2251, rfl, hρ, E, S⟩
  rw [agree_eta hρ]
  clear hρ
  have H := o2253H
  clear o2253H
  refine tn ?_
  refine Wp_seq ?_
  refine Wp_region_lit ?_
  refine W_v (.pointer (some ⟨b3, 0, none⟩)) (x_move rfl) rfl ?_
  refine W_v (.pointer (some ⟨b3, 0, none⟩)) (x_assign rfl) rfl ?_
  refine Wl_nil ?_
  refine tn ?_
  refine Wp_ret ?_
  obtain rfl := Option.some.inj H
  exact ⟨_, _, _, fun w1 e1 => run_resR (vs := [.pointer (some ⟨b3, 0, none⟩)]) (FA.cons (rfl) (FA.nil)), HM, E, S.pick [1, 0] (by decide), ⟨b3, A2250, c2251, rfl, rfl⟩⟩
/-! ### (*ferryman/latch.Latches).All: function 15 -/
def latch_Latches_All_PO (k : Nat) (a0 : latch_Latches) : Option (Int) :=
  some (a0.by_.length : Int)
set_option maxHeartbeats 2000000 in
theorem latch_Latches_All_PO.mono {k : Nat} {a0 : latch_Latches} : OLe (latch_Latches_All_PO k a0) (latch_Latches_All_PO (k + 1) a0) := by
  unfold latch_Latches_All_PO
  repeat' (first | with_reducible exact OLe.none | with_reducible exact OLe.some | with_reducible refine OLe.ite ?_ ?_ | with_reducible refine OLe.bind ?_ (fun _ => ?_) | refine OLe.bind ?_ (fun _ => ?_) | refine OLe.ite ?_ ?_ | refine OLe.elim (fun _ => ?_) (fun _ => ?_) | split)
set_option maxHeartbeats 1000000 in
set_option maxRecDepth 100000 in
theorem latch_Latches_All_PO.con (k : Nat) (M : Hp) (A0_0 : Option Addr) (c0_0 : Nat) (a0 : latch_Latches) (bo0 : Nat) (r : Int)  (h : latch_Latches_All_PO k a0 = some r) : Con Try.prog 15 #[.pointer (some ⟨bo0, 0, none⟩)] M [Blk bo0 (.cells #[.map (mb A0_0)] 56 (0, 0)), MapC enc_latch_Name (Value.int .i64) A0_0 a0.by_] (fun v M' Γ' => v = .int .i64 r ∧ Γ' = [Blk bo0 (.cells #[.map (mb A0_0)] 56 (0, 0)), MapC enc_latch_Name (Value.int .i64) A0_0 a0.by_]) := by
  refine con_of_wp Try.func15 rfl Try.ntmps15 Try.results15 rfl ?_
  intro w F rn S hrn
  have E := Ext.refl w
  have HM := Hp.le_refl M
  have H := h
  unfold latch_Latches_All_PO at H
  refine Wp_seq ?_
  refine Wp_region_lit ?_
  refine W_v (.int .i64 0) (x_assign rfl) rfl ?_
  refine Wl_nil ?_
  refine tn ?_
  refine Wp_seq ?_
  refine Wp_seq ?_
  refine Wp_region_lit ?_
  refine W_v (.pointer (some ⟨bo0, 0, none⟩)) (x_move rfl) rfl ?_
  refine W_v (.bool false) (x_eq_of (r := false) rfl rfl (run_eq_ptrsn Try.underlying27)) rfl ?_
  refine Wl_nil ?_
  refine tn ?_
  refine Wp_cond_false rfl ?_
  refine Wp_skip ?_
  refine tn ?_
  refine Wp_seq ?_
  refine Wp_region_lit ?_
  refine W_v (.pointer (some ⟨bo0, 0, none⟩)) (x_move rfl) rfl ?_
  refine W_v (.pointer (some ⟨bo0, 0, none⟩)) (x_nilptr rfl) rfl ?_
  refine W_v (.pointer (some ⟨bo0, 0, none⟩)) (x_fieldAddr (o := 0) (off := 0) Try.underlying56 rfl ty54 rfl rfl) rfl ?_
  refine W_v (.map (mb A0_0)) (x_load (S.blk 0 rfl) ty54 rfl rfl) rfl ?_
  refine W_v (.int .i64 (a0.by_.length : Int)) (x_len_map S 1 rfl Try.underlying54 rfl) rfl ?_
  refine W_v (.int .i64 (a0.by_.length : Int)) (x_assign rfl) rfl ?_
  refine Wl_nil ?_
  refine tn ?_
  refine Wp_ret ?_
  obtain rfl := Option.some.inj H
  exact ⟨_, _, _, fun w1 e1 => run_resR (vs := [.int .i64 (a0.by_.length : Int)]) (FA.cons (rfl) (FA.nil)), HM, E, S.pick [0, 1] (by decide), ⟨rfl, rfl⟩⟩
/-! ### maps.Clone[map[ferryman/latch.Name]int,ferryman/latch.Name,int]: function 30 -/
theorem clone36 : IsClone Try.prog 36 := ⟨_, Try.func36, by kernel_rfl, by kernel_rfl, by kernel_rfl, by kernel_rfl⟩
theorem maps_Clone_54.con (M : Hp) (A : Option Addr) (l : List (latch_Name × Int)) : Con Try.prog 30 #[.map (mb A)] M [MapC enc_latch_Name (Value.int .i64) A l] (fun v M' Γ' => ∃ b : Nat, v = .map (mb (some ⟨b, 0, none⟩)) ∧ Γ' = [MapC enc_latch_Name (Value.int .i64) (some ⟨b, 0, none⟩) l, MapC enc_latch_Name (Value.int .i64) A l]) := by
  refine con_of_wp Try.func30 rfl Try.ntmps30 Try.results30 rfl ?_
  intro w F rn S hrn
  have E := Ext.refl w
  have HM := Hp.le_refl M
  obtain ⟨b0, rfl, _⟩ := S.mapC 0 rfl
  refine Wp_seq ?_
  refine Wp_region_lit ?_
  refine W_v (.map none) (x_assign rfl) rfl ?_
  refine Wl_nil ?_
  refine tn ?_
  refine Wp_seq ?_
  refine Wp_seq ?_
  refine Wp_region_lit ?_
  refine W_v (.map (mb (some ⟨b0, 0, none⟩))) (x_move rfl) rfl ?_
  refine W_v (.bool false) (x_mapEqNil Try.underlying54 rfl rfl) rfl ?_
  refine Wl_nil ?_
  refine tn ?_
  refine Wp_cond_false rfl ?_
  refine Wp_skip ?_
  refine tn ?_
  refine Wp_seq ?_
  refine Wp_region_lit ?_
  refine W_v (.map (mb (some ⟨b0, 0, none⟩))) (x_move rfl) rfl ?_
  refine W_v (.iface 54 (.map (mb (some ⟨b0, 0, none⟩)))) (x_makeIfaceMap Try.underlying54 rfl) rfl ?_
  refine W_mapsClone clone36 S 0 rfl rfl rfl ?_
  intro b w1 E' S
  replace E := E.trans E'
  clear E'
  refine W_v (.map (mb (some ⟨b, 0, none⟩))) (x_assertMap Try.underlying54 rfl) rfl ?_
  refine W_v (.map (mb (some ⟨b, 0, none⟩))) (x_assign rfl) rfl ?_
  refine Wl_nil ?_
  refine tn ?_
  refine Wp_ret ?_
  exact ⟨_, _, _, fun w1 e1 => run_resR (vs := [.map (mb (some ⟨b, 0, none⟩))]) (FA.cons (rfl) (FA.nil)), HM, E, S.pick [0, 1] (by decide), ⟨b, rfl, rfl⟩⟩
/-! ### (*ferryman/latch.Latches).Owner: function 13 -/
def latch_Latches_Owner_Z (k : Nat) (a1 : latch_Name) : Option (Int × Bool) :=
  some ((0 : Int), false)
set_option maxHeartbeats 2000000 in
theorem latch_Latches_Owner_Z.mono {k : Nat} {a1 : latch_Name} : OLe (latch_Latches_Owner_Z k a1) (latch_Latches_Owner_Z (k + 1) a1) := by
  unfold latch_Latches_Owner_Z
  repeat' (first | with_reducible exact OLe.none | with_reducible exact OLe.some | with_reducible refine OLe.ite ?_ ?_ | with_reducible refine OLe.bind ?_ (fun _ => ?_) | refine OLe.bind ?_ (fun _ => ?_) | refine OLe.ite ?_ ?_ | refine OLe.elim (fun _ => ?_) (fun _ => ?_) | split)
set_option maxHeartbeats 1000000 in
set_option maxRecDepth 100000 in
theorem latch_Latches_Owner_Z.con (k : Nat) (M : Hp) (a1 : latch_Name) (r : Int × Bool)  (h : latch_Latches_Owner_Z k a1 = some r) : Con Try.prog 13 #[.pointer none, .agg #[.int .u8 a1.Kind, .int .u64 a1.ID]] M [] (fun v M' Γ' => v = .tuple #[.int .i64 r.1, .bool r.2] ∧ Γ' = []) := by
  refine con_of_wp Try.func13 rfl Try.ntmps13 Try.results13 rfl ?_
  intro w F rn S hrn
  have E := Ext.refl w
  have HM := Hp.le_refl M
  have H := h
  unfold latch_Latches_Owner_Z at H
  refine Wp_seq ?_
  refine Wp_region_lit ?_
  refine W_box S #[.int .u8 a1.Kind, .int .u64 a1.ID] rfl rfl rfl ?_
  intro b1 w2 E' S
  replace E := E.trans E'
  clear E'
  refine W_v (.int .i64 0) (x_assign rfl) rfl ?_
  refine W_v (.bool false) (x_assign rfl) rfl ?_
  refine Wl_nil ?_
  refine tn ?_
  refine Wp_seq ?_
  refine Wp_seq ?_
  refine Wp_region_lit ?_
  refine W_v (.pointer none) (x_move rfl) rfl ?_
  refine W_v (.bool true) (x_eq_of (r := true) rfl rfl (run_eq_ptrnn Try.underlying27)) rfl ?_
  refine Wl_nil ?_
  refine tn ?_
  refine Wp_cond_true rfl ?_
  refine Wp_seq ?_
  refine Wp_region_lit ?_
  refine W_v (.int .i64 0) (x_assign rfl) rfl ?_
  refine W_v (.bool false) (x_assign rfl) rfl ?_
  refine Wl_nil ?_
  refine tn ?_
  refine Wp_ret ?_
  refine tr (?_)
  obtain rfl := Option.some.inj H
  exact ⟨_, _, _, fun w1 e1 => run_resR (vs := [.int .i64 0, .bool false]) (FA.cons (rfl) (FA.cons (rfl) (FA.nil))), HM, E, S.pick [] (by decide), ⟨rfl, rfl⟩⟩
/-! ### (*ferryman/latch.Latches).Try: function 12 -/
def latch_Latches_Try_Z (k : Nat) (a1 : latch_Name) (a2 : Int) : Option (Bool) :=
  (Option.bind (latch_Latches_Owner_Z k a1) (fun t4 => some false))
set_option maxHeartbeats 2000000 in
theorem latch_Latches_Try_Z.mono {k : Nat} {a1 : latch_Name} {a2 : Int} : OLe (latch_Latches_Try_Z k a1 a2) (latch_Latches_Try_Z (k + 1) a1 a2) := by
  unfold latch_Latches_Try_Z
  repeat' (first | with_reducible exact OLe.none | with_reducible exact OLe.some | with_reducible refine OLe.ite ?_ ?_ | with_reducible refine OLe.bind ?_ (fun _ => ?_) | with_reducible exact latch_Latches_Owner_Z.mono | refine OLe.bind ?_ (fun _ => ?_) | refine OLe.ite ?_ ?_ | refine OLe.elim (fun _ => ?_) (fun _ => ?_) | split)
set_option maxHeartbeats 1000000 in
set_option maxRecDepth 100000 in
theorem latch_Latches_Try_Z.con (k : Nat) (M : Hp) (a1 : latch_Name) (a2 : Int) (r : Bool)  (h : latch_Latches_Try_Z k a1 a2 = some r) : Con Try.prog 12 #[.pointer none, .agg #[.int .u8 a1.Kind, .int .u64 a1.ID], .int .i64 a2] M [] (fun v M' Γ' => v = .bool r ∧ Γ' = []) := by
  refine con_of_wp Try.func12 rfl Try.ntmps12 Try.results12 rfl ?_
  intro w F rn S hrn
  have E := Ext.refl w
  have HM := Hp.le_refl M
  have H := h
  unfold latch_Latches_Try_Z at H
  refine Wp_seq ?_
  refine Wp_region_lit ?_
  refine W_box S #[.int .u8 a1.Kind, .int .u64 a1.ID] rfl rfl rfl ?_
  intro b1 w2 E' S
  replace E := E.trans E'
  clear E'
  refine W_v (.bool false) (x_assign rfl) rfl ?_
  refine Wl_nil ?_
  refine tn ?_
  refine Wp_seq ?_
  refine Wp_region_lit ?_
  refine W_v (.pointer none) (x_move rfl) rfl ?_
  refine W_v (.agg #[.int .u8 a1.Kind, .int .u64 a1.ID]) (x_loadA (S.blk 0 rfl) ty25 rfl (sub_of_extract rfl) rfl rfl) rfl ?_
  obtain ⟨t4, ht5, H⟩ := bindS H
  refine W_callF2 fn13 (latch_Latches_Owner_Z.con k M a1 t4  ht5) (Γ1 := []) (Γ2 := [Blk b1 (.cells #[.int .u8 a1.Kind, .int .u64 a1.ID] 25 (0, 0))]) S rfl rfl (by rintro _ _ _ ⟨rfl, rfl⟩; exact flat_nil) ?_
  rintro _ w6 _ Γ' E' S ⟨rfl, rfl⟩
  replace E := E.trans E'
  clear E'
  replace S : St w6 M F [Blk b1 (.cells #[.int .u8 a1.Kind, .int .u64 a1.ID] 25 (0, 0))] := S
  refine W_v (.tuple #[.int .i64 t4.1, .bool t4.2]) (x_move rfl) rfl ?_
  refine W_v (.int .i64 t4.1) (x_extract rfl rfl) rfl ?_
  refine W_v (.bool t4.2) (x_extract rfl rfl) rfl ?_
  refine W_v (.int .i64 t4.1) (x_assign rfl) rfl ?_
  refine W_v (.bool t4.2) (x_assign rfl) rfl ?_
  refine Wl_nil ?_
  refine tn ?_
  refine Wp_seq ?_
  refine Wp_seq ?_
  refine Wp_region_lit ?_
  refine W_v (.pointer none) (x_move rfl) rfl ?_
  refine W_v (.bool true) (x_eq_of (r := true) rfl rfl (run_eq_ptrnn Try.underlying27)) rfl ?_
  refine W_v (.bool true) (x_move rfl) rfl ?_
  refine W_no (rfl) rfl ?_
  refine W_no (rfl) rfl ?_
  refine W_no (rfl) rfl ?_
  refine W_no (rfl) rfl ?_
  refine W_no (rfl) rfl ?_
  refine W_no (rfl) rfl ?_
  refine W_v (.bool true) (x_pick (k := true) rfl rfl) rfl ?_
  refine Wl_nil ?_
  refine tn ?_
  refine Wp_cond_true rfl ?_
  refine Wp_seq ?_
  refine Wp_region_lit ?_
  refine W_v (.bool false) (x_assign rfl) rfl ?_
  refine Wl_nil ?_
  refine tn ?_
  refine Wp_ret ?_
  refine tr (?_)
  obtain rfl := Option.some.inj H
  exact ⟨_, _, _, fun w1 e1 => run_resR (vs := [.bool false]) (FA.cons (rfl) (FA.nil)), HM, E, S.pick [] (by decide), ⟨rfl, rfl⟩⟩
/-! ### (*ferryman/latch.Latches).Drop: function 11 -/
def latch_Latches_Drop_Z (k : Nat) (a1 : latch_Name) (a2 : Int) : Option (Bool) :=
  (Option.bind (latch_Latches_Owner_Z k a1) (fun t4 => (if ((!t4.2) || (t4.1 != a2)) = true then some false else none)))
set_option maxHeartbeats 2000000 in
theorem latch_Latches_Drop_Z.mono {k : Nat} {a1 : latch_Name} {a2 : Int} : OLe (latch_Latches_Drop_Z k a1 a2) (latch_Latches_Drop_Z (k + 1) a1 a2) := by
  unfold latch_Latches_Drop_Z
  repeat' (first | with_reducible exact OLe.none | with_reducible exact OLe.some | with_reducible refine OLe.ite ?_ ?_ | with_reducible refine OLe.bind ?_ (fun _ => ?_) | with_reducible exact latch_Latches_Owner_Z.mono | refine OLe.bind ?_ (fun _ => ?_) | refine OLe.ite ?_ ?_ | refine OLe.elim (fun _ => ?_) (fun _ => ?_) | split)
set_option maxHeartbeats 1000000 in
set_option maxRecDepth 100000 in
theorem latch_Latches_Drop_Z.con (k : Nat) (M : Hp) (a1 : latch_Name) (a2 : Int) (r : Bool)  (h : latch_Latches_Drop_Z k a1 a2 = some r) : Con Try.prog 11 #[.pointer none, .agg #[.int .u8 a1.Kind, .int .u64 a1.ID], .int .i64 a2] M [] (fun v M' Γ' => v = .bool r ∧ Γ' = []) := by
  refine con_of_wp Try.func11 rfl Try.ntmps11 Try.results11 rfl ?_
  intro w F rn S hrn
  have E := Ext.refl w
  have HM := Hp.le_refl M
  have H := h
  unfold latch_Latches_Drop_Z at H
  refine Wp_seq ?_
  refine Wp_region_lit ?_
  refine W_box S #[.int .u8 a1.Kind, .int .u64 a1.ID] rfl rfl rfl ?_
  intro b1 w2 E' S
  replace E := E.trans E'
  clear E'
  refine W_v (.bool false) (x_assign rfl) rfl ?_
  refine Wl_nil ?_
  refine tn ?_
  refine Wp_seq ?_
  refine Wp_region_lit ?_
  refine W_v (.pointer none) (x_move rfl) rfl ?_
  refine W_v (.agg #[.int .u8 a1.Kind, .int .u64 a1.ID]) (x_loadA (S.blk 0 rfl) ty25 rfl (sub_of_extract rfl) rfl rfl) rfl ?_
  obtain ⟨t4, ht5, H⟩ := bindS H
  refine W_callF2 fn13 (latch_Latches_Owner_Z.con k M a1 t4  ht5) (Γ1 := []) (Γ2 := [Blk b1 (.cells #[.int .u8 a1.Kind, .int .u64 a1.ID] 25 (0, 0))]) S rfl rfl (by rintro _ _ _ ⟨rfl, rfl⟩; exact flat_nil) ?_
  rintro _ w6 _ Γ' E' S ⟨rfl, rfl⟩
  replace E := E.trans E'
  clear E'
  replace S : St w6 M F [Blk b1 (.cells #[.int .u8 a1.Kind, .int .u64 a1.ID] 25 (0, 0))] := S
  refine W_v (.tuple #[.int .i64 t4.1, .bool t4.2]) (x_move rfl) rfl ?_
  refine W_v (.int .i64 t4.1) (x_extract rfl rfl) rfl ?_
  refine W_v (.bool t4.2) (x_extract rfl rfl) rfl ?_
  refine W_v (.int .i64 t4.1) (x_assign rfl) rfl ?_
  refine W_v (.bool t4.2) (x_assign rfl) rfl ?_
  refine Wl_nil ?_
  refine tn ?_
  refine Wp_seq ?_
  refine Wp_seq ?_
  refine Wp_region_lit ?_
  refine W_v (.bool t4.2) (x_move rfl) rfl ?_
  refine W_v (.bool (!t4.2)) (x_not rfl) rfl ?_
  refine W_v (.bool (!t4.2)) (x_move rfl) rfl ?_
  refine Wl_cutN 4 (fun ρ w' => Agree ρ [(0, .pointer none), (4, .pointer (some ⟨b1, 0, none⟩)), (21, .bool ((!t4.2) || (t4.1 != a2)))] ∧ w6 = w') ?_ ?_
  · rcases boolCases (!t4.2) with hb9 | hb9
    · skip
      refine W_yes (congrArg some hb9) ?_
      refine W_v (.int .i64 t4.1) (x_move rfl) rfl ?_
      refine W_yes (congrArg some hb9) ?_
      refine W_v (.int .i64 a2) (x_move rfl) rfl ?_
      refine W_yes (congrArg some hb9) ?_
      refine W_v (.bool (t4.1 != a2)) (x_ibin rfl rfl rfl rfl) rfl ?_
      refine W_v (.bool (t4.1 != a2)) (x_pick (k := false) (congrArg Value.bool hb9) rfl) rfl ?_
      refine Wl_nil ?_
      exact ⟨⟨rfl, rfl, (by first | rfl | (rw [hb9]; rfl) | (simp only [hb9]; rfl)), trivial⟩, rfl⟩
    · skip
      refine W_no (skF hb9) rfl ?_
      refine W_no (skF hb9) rfl ?_
      refine W_no (skF hb9) rfl ?_
      refine W_v (.bool true) (x_pick (k := true) (congrArg Value.bool hb9) rfl) rfl ?_
      refine Wl_nil ?_
      exact ⟨⟨rfl, rfl, (by first | rfl | (rw [hb9]; rfl) | (simp only [hb9]; rfl)), trivial⟩, rfl⟩
  rintro ρ _ ⟨hρ, rfl⟩
  rw [agree_eta hρ]
  clear hρ
  refine Wl_nil ?_
  refine tn ?_
  rcases iteS H with ⟨hb10, H⟩ | ⟨hb10, H⟩
  · refine Wp_cond_true (congrArg Value.bool hb10) ?_
    refine Wp_seq ?_
    refine Wp_region_lit ?_
    refine W_v (.bool false) (x_assign rfl) rfl ?_
    refine Wl_nil ?_
    refine tn ?_
    refine Wp_ret ?_
    refine tr (?_)
    obtain rfl := Option.some.inj H
    exact ⟨_, _, _, fun w1 e1 => run_resR (vs := [.bool false]) (FA.cons (rfl) (FA.nil)), HM, E, S.pick [] (by decide), ⟨rfl, rfl⟩⟩
  refine Wp_cond_false (congrArg Value.bool hb10) ?_
  refine Wp_skip ?_
  refine tn ?_
  refine Wp_seq ?_
  refine Wp_region_any (S := fun w' => ∃ Mx, M.le Mx ∧ St w' Mx F [Blk b1 (.cells #[.int .u8 a1.Kind, .int .u64 a1.ID] 25 (0, 0))]) (L := 6) mixed ?_
  intro w11 hw12 E'
  replace S := S.heap hw12
  replace E := E.trans E'
  clear E'
  refine Wa_take (i := 0) rfl (by kernel_rfl) rfl rfl (.pointer none) rfl (fun w' h' => x_move rfl) (⟨M, Hp.le_refl M, S.pick [0] (by decide)⟩) ?_
  cases H
/-! ### (*ferryman/latch.Latches).Held: function 16 -/
def latch_Latches_Held_Z (k : Nat) (a1 : Int) : Option ((List latch_Name)) :=
  some ([] : List latch_Name)
set_option maxHeartbeats 2000000 in
theorem latch_Latches_Held_Z.mono {k : Nat} {a1 : Int} : OLe (latch_Latches_Held_Z k a1) (latch_Latches_Held_Z (k + 1) a1) := by
  unfold latch_Latches_Held_Z
  repeat' (first | with_reducible exact OLe.none | with_reducible exact OLe.some | with_reducible refine OLe.ite ?_ ?_ | with_reducible refine OLe.bind ?_ (fun _ => ?_) | refine OLe.bind ?_ (fun _ => ?_) | refine OLe.ite ?_ ?_ | refine OLe.elim (fun _ => ?_) (fun _ => ?_) | split)
set_option maxHeartbeats 1000000 in
set_option maxRecDepth 100000 in
theorem latch_Latches_Held_Z.con (k : Nat) (M : Hp) (a1 : Int) (r : (List latch_Name))  (h : latch_Latches_Held_Z k a1 = some r) : Con Try.prog 16 #[.pointer none, .int .i64 a1] M [] (fun v M' Γ' => ∃ (Aq1 : Option Addr) (cq2 : Nat), v = .slice Aq1 r.length cq2 ∧ Γ' = [Row r_latch_Name 25 (.slice Aq1 r.length cq2) r]) := by
  refine con_of_wp Try.func16 rfl Try.ntmps16 Try.results16 rfl ?_
  intro w F rn S hrn
  have E := Ext.refl w
  have HM := Hp.le_refl M
  have H := h
  unfold latch_Latches_Held_Z at H
  refine Wp_seq ?_
  refine Wp_region_lit ?_
  refine W_v (.slice none 0 0) (x_assign rfl) rfl ?_
  refine Wl_nil ?_
  refine tn ?_
  refine Wp_seq ?_
  refine Wp_seq ?_
  refine Wp_region_lit ?_
  refine W_v (.pointer none) (x_move rfl) rfl ?_
  refine W_v (.bool true) (x_eq_of (r := true) rfl rfl (run_eq_ptrnn Try.underlying27)) rfl ?_
  refine Wl_nil ?_
  refine tn ?_
  refine Wp_cond_true rfl ?_
  refine Wp_seq ?_
  refine Wp_region_lit ?_
  refine W_v (.slice none 0 0) (x_assign rfl) rfl ?_
  refine Wl_nil ?_
  refine tn ?_
  refine Wp_ret ?_
  refine tr (?_)
  obtain rfl := Option.some.inj H
  replace S := S.row_nil r_latch_Name 25
  exact ⟨_, _, _, fun w1 e1 => run_resR (vs := [.slice none ([] : List latch_Name).length 0]) (FA.cons (rfl) (FA.nil)), HM, E, S.pick [0] (by decide), ⟨none, 0, rfl, rfl⟩⟩
/-! ### (*ferryman/latch.Latches).All: function 15 -/
def latch_Latches_All_Z (k : Nat)  : Option (Int) :=
  some (0 : Int)
set_option maxHeartbeats 2000000 in
theorem latch_Latches_All_Z.mono {k : Nat}  : OLe (latch_Latches_All_Z k ) (latch_Latches_All_Z (k + 1) ) := by
  unfold latch_Latches_All_Z
  repeat' (first | with_reducible exact OLe.none | with_reducible exact OLe.some | with_reducible refine OLe.ite ?_ ?_ | with_reducible refine OLe.bind ?_ (fun _ => ?_) | refine OLe.bind ?_ (fun _ => ?_) | refine OLe.ite ?_ ?_ | refine OLe.elim (fun _ => ?_) (fun _ => ?_) | split)
set_option maxHeartbeats 1000000 in
set_option maxRecDepth 100000 in
theorem latch_Latches_All_Z.con (k : Nat) (M : Hp)  (r : Int)  (h : latch_Latches_All_Z k  = some r) : Con Try.prog 15 #[.pointer none] M [] (fun v M' Γ' => v = .int .i64 r ∧ Γ' = []) := by
  refine con_of_wp Try.func15 rfl Try.ntmps15 Try.results15 rfl ?_
  intro w F rn S hrn
  have E := Ext.refl w
  have HM := Hp.le_refl M
  have H := h
  unfold latch_Latches_All_Z at H
  refine Wp_seq ?_
  refine Wp_region_lit ?_
  refine W_v (.int .i64 0) (x_assign rfl) rfl ?_
  refine Wl_nil ?_
  refine tn ?_
  refine Wp_seq ?_
  refine Wp_seq ?_
  refine Wp_region_lit ?_
  refine W_v (.pointer none) (x_move rfl) rfl ?_
  refine W_v (.bool true) (x_eq_of (r := true) rfl rfl (run_eq_ptrnn Try.underlying27)) rfl ?_
  refine Wl_nil ?_
  refine tn ?_
  refine Wp_cond_true rfl ?_
  refine Wp_seq ?_
  refine Wp_region_lit ?_
  refine W_v (.int .i64 0) (x_assign rfl) rfl ?_
  refine Wl_nil ?_
  refine tn ?_
  refine Wp_ret ?_
  refine tr (?_)
  obtain rfl := Option.some.inj H
  exact ⟨_, _, _, fun w1 e1 => run_resR (vs := [.int .i64 0]) (FA.cons (rfl) (FA.nil)), HM, E, S.pick [] (by decide), ⟨rfl, rfl⟩⟩
/-! ### (*ferryman/latch.Latches).Copy: function 17 -/
def latch_Latches_Copy_Z (k : Nat)  : Option (Unit) :=
  some ()
set_option maxHeartbeats 2000000 in
theorem latch_Latches_Copy_Z.mono {k : Nat}  : OLe (latch_Latches_Copy_Z k ) (latch_Latches_Copy_Z (k + 1) ) := by
  unfold latch_Latches_Copy_Z
  repeat' (first | with_reducible exact OLe.none | with_reducible exact OLe.some | with_reducible refine OLe.ite ?_ ?_ | with_reducible refine OLe.bind ?_ (fun _ => ?_) | refine OLe.bind ?_ (fun _ => ?_) | refine OLe.ite ?_ ?_ | refine OLe.elim (fun _ => ?_) (fun _ => ?_) | split)
set_option maxHeartbeats 1000000 in
set_option maxRecDepth 100000 in
theorem latch_Latches_Copy_Z.con (k : Nat) (M : Hp)  (r : Unit)  (h : latch_Latches_Copy_Z k  = some r) : Con Try.prog 17 #[.pointer none] M [] (fun v M' Γ' => v = .pointer none ∧ Γ' = []) := by
  refine con_of_wp Try.func17 rfl Try.ntmps17 Try.results17 rfl ?_
  intro w F rn S hrn
  have E := Ext.refl w
  have HM := Hp.le_refl M
  have H := h
  unfold latch_Latches_Copy_Z at H
  refine Wp_seq ?_
  refine Wp_region_lit ?_
  refine W_v (.pointer none) (x_assign rfl) rfl ?_
  refine Wl_nil ?_
  refine tn ?_
  refine Wp_seq ?_
  refine Wp_seq ?_
  refine Wp_region_lit ?_
  refine W_v (.pointer none) (x_move rfl) rfl ?_
  refine W_v (.bool true) (x_eq_of (r := true) rfl rfl (run_eq_ptrnn Try.underlying27)) rfl ?_
  refine Wl_nil ?_
  refine tn ?_
  refine Wp_cond_true rfl ?_
  refine Wp_seq ?_
  refine Wp_region_lit ?_
  refine W_v (.pointer none) (x_assign rfl) rfl ?_
  refine Wl_nil ?_
  refine tn ?_
  refine Wp_ret ?_
  refine tr (?_)
  obtain rfl := Option.some.inj H
  exact ⟨_, _, _, fun w1 e1 => run_resR (vs := [.pointer none]) (FA.cons (rfl) (FA.nil)), HM, E, S.pick [] (by decide), ⟨rfl, rfl⟩⟩
/-! ### (*ferryman/latch.Latches).Copy: function 17 -/
def latch_Latches_Copy_PO (k : Nat) (a0 : latch_Latches) : Option (latch_Latches) :=
  some a0
set_option maxHeartbeats 2000000 in
theorem latch_Latches_Copy_PO.mono {k : Nat} {a0 : latch_Latches} : OLe (latch_Latches_Copy_PO k a0) (latch_Latches_Copy_PO (k + 1) a0) := by
  unfold latch_Latches_Copy_PO
  repeat' (first | with_reducible exact OLe.none | with_reducible exact OLe.some | with_reducible refine OLe.ite ?_ ?_ | with_reducible refine OLe.bind ?_ (fun _ => ?_) | refine OLe.bind ?_ (fun _ => ?_) | refine OLe.ite ?_ ?_ | refine OLe.elim (fun _ => ?_) (fun _ => ?_) | split)
set_option maxHeartbeats 1000000 in
set_option maxRecDepth 100000 in
theorem latch_Latches_Copy_PO.con (k : Nat) (M : Hp) (A0_0 : Option Addr) (c0_0 : Nat) (a0 : latch_Latches) (bo0 : Nat) (r : latch_Latches)  (h : latch_Latches_Copy_PO k a0 = some r) : Con Try.prog 17 #[.pointer (some ⟨bo0, 0, none⟩)] M [Blk bo0 (.cells #[.map (mb A0_0)] 56 (0, 0)), MapC enc_latch_Name (Value.int .i64) A0_0 a0.by_] (fun v M' Γ' => ∃ (bq1 : Nat) (Aq3 : Option Addr) (cq4 : Nat), v = .pointer (some ⟨bq1, 0, none⟩) ∧ Γ' = [Blk bq1 (.cells #[.map (mb Aq3)] 56 (0, 0)), MapC enc_latch_Name (Value.int .i64) Aq3 r.by_, Blk bo0 (.cells #[.map (mb A0_0)] 56 (0, 0)), MapC enc_latch_Name (Value.int .i64) A0_0 a0.by_]) := by
  refine con_of_wp Try.func17 rfl Try.ntmps17 Try.results17 rfl ?_
  intro w F rn S hrn
  have E := Ext.refl w
  have HM := Hp.le_refl M
  have H := h
  unfold latch_Latches_Copy_PO at H
  refine Wp_seq ?_
  refine Wp_region_lit ?_
  refine W_v (.pointer none) (x_assign rfl) rfl ?_
  refine Wl_nil ?_
  refine tn ?_
  refine Wp_seq ?_
  refine Wp_seq ?_
  refine Wp_region_lit ?_
  refine W_v (.pointer (some ⟨bo0, 0, none⟩)) (x_move rfl) rfl ?_
  refine W_v (.bool false) (x_eq_of (r := false) rfl rfl (run_eq_ptrsn Try.underlying27)) rfl ?_
  refine Wl_nil ?_
  refine tn ?_
  refine Wp_cond_false rfl ?_
  refine Wp_skip ?_
  refine tn ?_
  refine Wp_seq ?_
  refine Wp_region_lit ?_
  refine W_v (.pointer (some ⟨bo0, 0, none⟩)) (x_move rfl) rfl ?_
  refine W_v (.pointer (some ⟨bo0, 0, none⟩)) (x_nilptr rfl) rfl ?_
  refine W_v (.pointer (some ⟨bo0, 0, none⟩)) (x_fieldAddr (o := 0) (off := 0) Try.underlying56 rfl ty54 rfl rfl) rfl ?_
  refine W_v (.map (mb A0_0)) (x_load (S.blk 0 rfl) ty54 rfl rfl) rfl ?_
  replace S : St w M F [MapC enc_latch_Name (Value.int .i64) A0_0 a0.by_, Blk bo0 (.cells #[.map (mb A0_0)] 56 (0, 0))] := S.pick [1, 0] (by decide)
  refine W_callF2 fn30 (maps_Clone_54.con M A0_0 a0.by_) (Γ2 := [Blk bo0 (.cells #[.map (mb A0_0)] 56 (0, 0))]) S rfl rfl (by rintro _ _ _ ⟨_, _, rfl⟩; exact (flat_cons flat_map (flat_cons flat_map flat_nil))) ?_
  rintro _ w2 _ Γ' E' S ⟨b1, rfl, rfl⟩
  replace E := E.trans E'
  clear E'
  replace S : St w2 M F [MapC enc_latch_Name (Value.int .i64) (some ⟨b1, 0, none⟩) a0.by_, MapC enc_latch_Name (Value.int .i64) A0_0 a0.by_, Blk bo0 (.cells #[.map (mb A0_0)] 56 (0, 0))] := S
  refine W_v (.agg #[.map (mb (some ⟨b1, 0, none⟩))]) (x_build2 (pl := [(0, 1)]) #[.map (mb (some ⟨b1, 0, none⟩))] Try.underlying56 ty56 (by kernel_rfl) rfl (by kernel_rfl)) rfl ?_
  refine W_box S #[.map (mb (some ⟨b1, 0, none⟩))] rfl rfl rfl ?_
  intro b4 w5 E' S
  replace E := E.trans E'
  clear E'
  refine W_v (.pointer (some ⟨b4, 0, none⟩)) (x_assign rfl) rfl ?_
  refine Wl_nil ?_
  refine tn ?_
  refine Wp_ret ?_
  obtain rfl := Option.some.inj H
  exact ⟨_, _, _, fun w1 e1 => run_resR (vs := [.pointer (some ⟨b4, 0, none⟩)]) (FA.cons (rfl) (FA.nil)), HM, E, S.pick [0, 1, 3, 2] (by decide), ⟨b4, (some ⟨b1, 0, none⟩), 0, rfl, rfl⟩⟩
/-! ### ferryman/ferrymanref05.less: function 31 -/
def ferrymanref05_less (k : Nat) (a0 : ferrymanref05_Name) (a1 : ferrymanref05_Name) : Option (Bool) :=
  some ((decide (a0.Kind < a1.Kind)) || ((a0.Kind == a1.Kind) && (decide (a0.ID < a1.ID))))
set_option maxHeartbeats 2000000 in
theorem ferrymanref05_less.mono {k : Nat} {a0 : ferrymanref05_Name} {a1 : ferrymanref05_Name} : OLe (ferrymanref05_less k a0 a1) (ferrymanref05_less (k + 1) a0 a1) := by
  unfold ferrymanref05_less
  repeat' (first | with_reducible exact OLe.none | with_reducible exact OLe.some | with_reducible refine OLe.ite ?_ ?_ | with_reducible refine OLe.bind ?_ (fun _ => ?_) | refine OLe.bind ?_ (fun _ => ?_) | refine OLe.ite ?_ ?_ | refine OLe.elim (fun _ => ?_) (fun _ => ?_) | split)
set_option maxHeartbeats 1000000 in
set_option maxRecDepth 100000 in
theorem ferrymanref05_less.con (k : Nat) (M : Hp) (a0 : ferrymanref05_Name) (a1 : ferrymanref05_Name) (r : Bool)  (h : ferrymanref05_less k a0 a1 = some r) : Con Try.prog 31 #[.agg #[.int .u8 a0.Kind, .int .u64 a0.ID], .agg #[.int .u8 a1.Kind, .int .u64 a1.ID]] M [] (fun v M' Γ' => v = .bool r ∧ Γ' = []) := by
  refine con_of_wp Try.func31 rfl Try.ntmps31 Try.results31 rfl ?_
  intro w F rn S hrn
  have E := Ext.refl w
  have HM := Hp.le_refl M
  have H := h
  unfold ferrymanref05_less at H
  refine Wp_seq ?_
  refine Wp_region_lit ?_
  refine W_box S #[.int .u8 a0.Kind, .int .u64 a0.ID] rfl rfl rfl ?_
  intro b1 w2 E' S
  replace E := E.trans E'
  clear E'
  refine W_box S #[.int .u8 a1.Kind, .int .u64 a1.ID] rfl rfl rfl ?_
  intro b4 w5 E' S
  replace E := E.trans E'
  clear E'
  refine W_v (.bool false) (x_assign rfl) rfl ?_
  refine Wl_nil ?_
  refine tn ?_
  refine Wp_seq ?_
  refine Wp_region_lit ?_
  refine W_v (.pointer (some ⟨b1, 0, none⟩)) (x_fieldAddr (o := 0) (off := 0) Try.underlying44 rfl ty5 rfl rfl) rfl ?_
  refine W_v (.int .u8 a0.Kind) (x_load (S.blk 1 rfl) ty5 rfl rfl) rfl ?_
  refine W_v (.pointer (some ⟨b4, 0, none⟩)) (x_fieldAddr (o := 0) (off := 0) Try.underlying44 rfl ty5 rfl rfl) rfl ?_
  refine W_v (.int .u8 a1.Kind) (x_load (S.blk 0 rfl) ty5 rfl rfl) rfl ?_
  refine W_v (.bool (decide (a0.Kind < a1.Kind))) (x_ibin rfl rfl rfl rfl) rfl ?_
  refine W_v (.bool (decide (a0.Kind < a1.Kind))) (x_move rfl) rfl ?_
  refine Wl_cutN 13 (fun ρ w' => Agree ρ [(23, .bool ((decide (a0.Kind < a1.Kind)) || ((a0.Kind == a1.Kind) && (decide (a0.ID < a1.ID)))))] ∧ w5 = w') ?_ ?_
  · rcases boolCases (decide (a0.Kind < a1.Kind)) with hb9 | hb9
    · skip
      refine W_yes (congrArg some hb9) ?_
      refine W_v (.pointer (some ⟨b1, 0, none⟩)) (x_fieldAddr (o := 0) (off := 0) Try.underlying44 rfl ty5 rfl rfl) rfl ?_
      refine W_yes (congrArg some hb9) ?_
      refine W_v (.int .u8 a0.Kind) (x_load (S.blk 1 rfl) ty5 rfl rfl) rfl ?_
      refine W_yes (congrArg some hb9) ?_
      refine W_v (.pointer (some ⟨b4, 0, none⟩)) (x_fieldAddr (o := 0) (off := 0) Try.underlying44 rfl ty5 rfl rfl) rfl ?_
      refine W_yes (congrArg some hb9) ?_
      refine W_v (.int .u8 a1.Kind) (x_load (S.blk 0 rfl) ty5 rfl rfl) rfl ?_
      refine W_yes (congrArg some hb9) ?_
      refine W_v (.bool (a0.Kind == a1.Kind)) (x_ibin rfl rfl rfl rfl) rfl ?_
      refine W_yes (congrArg some hb9) ?_
      refine W_v (.bool (a0.Kind == a1.Kind)) (x_move rfl) rfl ?_
      refine Wl_cutN 6 (fun ρ w' => Agree ρ [(10, .bool (decide (a0.Kind < a1.Kind))), (22, .bool ((a0.Kind == a1.Kind) && (decide (a0.ID < a1.ID))))] ∧ w5 = w') ?_ ?_
      · rcases boolCases (a0.Kind == a1.Kind) with hb10 | hb10
        · skip
          refine W_no (skT hb10) rfl ?_
          refine W_no (skT hb10) rfl ?_
          refine W_no (skT hb10) rfl ?_
          refine W_no (skT hb10) rfl ?_
          refine W_no (skT hb10) rfl ?_
          refine W_yes (congrArg some hb9) ?_
          refine W_v (.bool false) (x_pick (k := false) (congrArg Value.bool hb10) rfl) rfl ?_
          refine Wl_nil ?_
          exact ⟨⟨rfl, (by first | rfl | (rw [hb10]; rfl) | (simp only [hb10]; rfl)), trivial⟩, rfl⟩
        · skip
          refine W_yes (congrArg some hb10) ?_
          refine W_v (.pointer (some ⟨b1, 1, none⟩)) (x_fieldAddr (o := 0) (off := 1) Try.underlying44 rfl ty23 rfl rfl) rfl ?_
          refine W_yes (congrArg some hb10) ?_
          refine W_v (.int .u64 a0.ID) (x_load (S.blk 1 rfl) ty23 rfl rfl) rfl ?_
          refine W_yes (congrArg some hb10) ?_
          refine W_v (.pointer (some ⟨b4, 1, none⟩)) (x_fieldAddr (o := 0) (off := 1) Try.underlying44 rfl ty23 rfl rfl) rfl ?_
          refine W_yes (congrArg some hb10) ?_
          refine W_v (.int .u64 a1.ID) (x_load (S.blk 0 rfl) ty23 rfl rfl) rfl ?_
          refine W_yes (congrArg some hb10) ?_
          refine W_v (.bool (decide (a0.ID < a1.ID))) (x_ibin rfl rfl rfl rfl) rfl ?_
          refine W_yes (congrArg some hb9) ?_
          refine W_v (.bool (decide (a0.ID < a1.ID))) (x_pick (k := true) (congrArg Value.bool hb10) rfl) rfl ?_
          refine Wl_nil ?_
          exact ⟨⟨rfl, (by first | rfl | (rw [hb10]; rfl) | (simp only [hb10]; rfl)), trivial⟩, rfl⟩
      rintro ρ _ ⟨hρ, rfl⟩
      rw [agree_eta hρ]
      clear hρ
      refine W_v (.bool ((a0.Kind == a1.Kind) && (decide (a0.ID < a1.ID)))) (x_pick (k := false) (congrArg Value.bool hb9) rfl) rfl ?_
      refine Wl_nil ?_
      exact ⟨⟨(by first | rfl | (rw [hb9]; rfl) | (simp only [hb9]; rfl)), trivial⟩, rfl⟩
    · skip
      refine W_no (skF hb9) rfl ?_
      refine W_no (skF hb9) rfl ?_
      refine W_no (skF hb9) rfl ?_
      refine W_no (skF hb9) rfl ?_
      refine W_no (skF hb9) rfl ?_
      refine W_no (skF hb9) rfl ?_
      refine W_no (rfl) rfl ?_
      refine W_no (rfl) rfl ?_
      refine W_no (rfl) rfl ?_
      refine W_no (rfl) rfl ?_
      refine W_no (rfl) rfl ?_
      refine W_no (skF hb9) rfl ?_
      refine W_v (.bool true) (x_pick (k := true) (congrArg Value.bool hb9) rfl) rfl ?_
      refine Wl_nil ?_
      exact ⟨⟨(by first | rfl | (rw [hb9]; rfl) | (simp only [hb9]; rfl)), trivial⟩, rfl⟩
  rintro ρ _ ⟨hρ, rfl⟩
  rw [agree_eta hρ]
  clear hρ
  refine W_v (.bool ((decide (a0.Kind < a1.Kind)) || ((a0.Kind == a1.Kind) && (decide (a0.ID < a1.ID))))) (x_assign rfl) rfl ?_
  refine Wl_nil ?_
  refine tn ?_
  refine Wp_ret ?_
  obtain rfl := Option.some.inj H
  exact ⟨_, _, _, fun w1 e1 => run_resR (vs := [.bool ((decide (a0.Kind < a1.Kind)) || ((a0.Kind == a1.Kind) && (decide (a0.ID < a1.ID))))]) (FA.cons (rfl) (FA.nil)), HM, E, S.pick [] (by decide), ⟨rfl, rfl⟩⟩
/-! ### (*ferryman/ferrymanref05.Latches).Copy: function 20 -/
def ferrymanref05_Latches_Copy_PO (k : Nat) (a0 : ferrymanref05_Latches) : Option (ferrymanref05_Latches) :=
  (if ([] : List ferrymanref05_Hold).length + a0.L.length ≤ 5864062014805 then some (⟨(([] : List ferrymanref05_Hold) ++ a0.L)⟩ : ferrymanref05_Latches) else none)
set_option maxHeartbeats 2000000 in
theorem ferrymanref05_Latches_Copy_PO.mono {k : Nat} {a0 : ferrymanref05_Latches} : OLe (ferrymanref05_Latches_Copy_PO k a0) (ferrymanref05_Latches_Copy_PO (k + 1) a0) := by
  unfold ferrymanref05_Latches_Copy_PO
  repeat' (first | with_reducible exact OLe.none | with_reducible exact OLe.some | with_reducible refine OLe.ite ?_ ?_ | with_reducible refine OLe.bind ?_ (fun _ => ?_) | refine OLe.bind ?_ (fun _ => ?_) | refine OLe.ite ?_ ?_ | refine OLe.elim (fun _ => ?_) (fun _ => ?_) | split)
set_option maxHeartbeats 1000000 in
set_option maxRecDepth 100000 in
theorem ferrymanref05_Latches_Copy_PO.con (k : Nat) (M : Hp) (A0_0 : Option Addr) (c0_0 : Nat) (a0 : ferrymanref05_Latches) (bo0 : Nat) (r : ferrymanref05_Latches)  (h : ferrymanref05_Latches_Copy_PO k a0 = some r) : Con Try.prog 20 #[.pointer (some ⟨bo0, 0, none⟩)] M [Blk bo0 (.cells #[.slice A0_0 a0.L.length c0_0] 48 (0, 0)), Row r_ferrymanref05_Hold 64 (.slice A0_0 a0.L.length c0_0) a0.L] (fun v M' Γ' => ∃ (bq1 : Nat) (Aq3 : Option Addr) (cq4 : Nat), v = .pointer (some ⟨bq1, 0, none⟩) ∧ Γ' = [Blk bq1 (.cells #[.slice Aq3 r.L.length cq4] 48 (0, 0)), Row r_ferrymanref05_Hold 64 (.slice Aq3 r.L.length cq4) r.L, Blk bo0 (.cells #[.slice A0_0 a0.L.length c0_0] 48 (0, 0)), Row r_ferrymanref05_Hold 64 (.slice A0_0 a0.L.length c0_0) a0.L]) := by
  refine con_of_wp Try.func20 rfl Try.ntmps20 Try.results20 rfl ?_
  intro w F rn S hrn
  have E := Ext.refl w
  have HM := Hp.le_refl M
  have H := h
  unfold ferrymanref05_Latches_Copy_PO at H
  refine Wp_seq ?_
  refine Wp_region_lit ?_
  refine W_v (.pointer none) (x_assign rfl) rfl ?_
  refine Wl_nil ?_
  refine tn ?_
  refine Wp_seq ?_
  refine Wp_region_lit ?_
  refine W_bslice S #[] Try.underlying46 ty64 rfl rfl #[] (by kernel_rfl) (by kernel_rfl) rfl ?_
  intro b1 w2 E' S
  replace E := E.trans E'
  clear E'
  replace S := S.blk_row (r := r_ferrymanref05_Hold) (l := ([] : List ferrymanref05_Hold)) 0 rfl 0 (Nat.le_refl 0) rfl Cells.nil
  refine W_v (.pointer (some ⟨bo0, 0, none⟩)) (x_move rfl) rfl ?_
  refine W_v (.pointer (some ⟨bo0, 0, none⟩)) (x_nilptr rfl) rfl ?_
  refine W_v (.pointer (some ⟨bo0, 0, none⟩)) (x_fieldAddr (o := 0) (off := 0) Try.underlying48 rfl ty46 rfl rfl) rfl ?_
  refine W_v (.slice A0_0 a0.L.length c0_0) (x_load (S.blk 1 rfl) ty46 rfl rfl) rfl ?_
  obtain ⟨p4, H⟩ := chkS H
  obtain ⟨src5, hs6, hC7⟩ := src_of_read (P := Try.prog) (ρ := r_ferrymanref05_Hold) (l := a0.L) (S.row_read 2 rfl) (by decide)
  refine W_append S 0 rfl rfl rfl Try.underlying46 (.inl Try.underlying46) ty64 rfl (by decide) (by decide) hs6 hC7 rfl (by omega) rfl ?_
  intro v8 w9 E' S
  replace E := E.trans E'
  clear E'
  obtain ⟨A10, c11, rfl, _⟩ := (S.row_read 0 rfl).form
  refine W_v (.agg #[.slice A10 (([] : List ferrymanref05_Hold) ++ a0.L).length c11]) (x_build2 (pl := [(0, 1)]) #[.slice A10 (([] : List ferrymanref05_Hold) ++ a0.L).length c11] Try.underlying48 ty48 (by kernel_rfl) rfl (by kernel_rfl)) rfl ?_
  refine W_box S #[.slice A10 (([] : List ferrymanref05_Hold) ++ a0.L).length c11] rfl rfl rfl ?_
  intro b12 w13 E' S
  replace E := E.trans E'
  clear E'
  refine W_v (.pointer (some ⟨b12, 0, none⟩)) (x_assign rfl) rfl ?_
  refine Wl_nil ?_
  refine tn ?_
  refine Wp_ret ?_
  obtain rfl := Option.some.inj H
  exact ⟨_, _, _, fun w1 e1 => run_resR (vs := [.pointer (some ⟨b12, 0, none⟩)]) (FA.cons (rfl) (FA.nil)), HM, E, S.pick [0, 1, 2, 3] (by decide), ⟨b12, A10, c11, rfl, rfl⟩⟩
/-! ### (*ferryman/ferrymanref05.Latches).Owner: function 23 -/
def ferrymanref05_Latches_Owner_PO_l0 (a0 : ferrymanref05_Latches) (a1 : ferrymanref05_Name) : Nat → Int → Option ((Int × Bool) ⊕ (Unit))
  | 0, _ => none
  | k + 1, x54 => (if (decide (x54 < (a0.L.length : Int))) = true then (if 0 ≤ x54 ∧ x54 < (a0.L.length : Int) then (if (((rd a0.L x54).N.Kind == a1.Kind) && ((rd a0.L x54).N.ID == a1.ID)) = true then (if 0 ≤ x54 ∧ x54 < (a0.L.length : Int) then some (.inl ((rd a0.L x54).Task, true)) else none) else ferrymanref05_Latches_Owner_PO_l0 a0 a1 k (IntKind.i64.wrap (x54 + (1 : Int)))) else none) else some (.inr ()))
set_option maxHeartbeats 2000000 in
theorem ferrymanref05_Latches_Owner_PO_l0.mono {a0 : ferrymanref05_Latches} {a1 : ferrymanref05_Name} : ∀ {k : Nat} {x0}, OLe (ferrymanref05_Latches_Owner_PO_l0 a0 a1 k x0) (ferrymanref05_Latches_Owner_PO_l0 a0 a1 (k + 1) x0) := by
  intro k
  induction k with
  | zero => intros; exact OLe.none
  | succ k ih =>
    intros
    rw [ferrymanref05_Latches_Owner_PO_l0.eq_2, ferrymanref05_Latches_Owner_PO_l0.eq_2]
    repeat' (first | with_reducible exact OLe.none | with_reducible exact OLe.some | with_reducible refine OLe.ite ?_ ?_ | with_reducible refine OLe.bind ?_ (fun _ => ?_) | exact ih | refine OLe.bind ?_ (fun _ => ?_) | refine OLe.ite ?_ ?_ | refine OLe.elim (fun _ => ?_) (fun _ => ?_) | split)
def ferrymanref05_Latches_Owner_PO (k : Nat) (a0 : ferrymanref05_Latches) (a1 : ferrymanref05_Name) : Option (Int × Bool) :=
  (Option.bind (ferrymanref05_Latches_Owner_PO_l0 a0 a1 k (0 : Int)) (fun o79o => Sum.elim (fun r' => some r') (fun _ => some ((0 : Int), false)) o79o))
set_option maxHeartbeats 2000000 in
theorem ferrymanref05_Latches_Owner_PO.mono {k : Nat} {a0 : ferrymanref05_Latches} {a1 : ferrymanref05_Name} : OLe (ferrymanref05_Latches_Owner_PO k a0 a1) (ferrymanref05_Latches_Owner_PO (k + 1) a0 a1) := by
  unfold ferrymanref05_Latches_Owner_PO
  repeat' (first | with_reducible exact OLe.none | with_reducible exact OLe.some | with_reducible refine OLe.ite ?_ ?_ | with_reducible refine OLe.bind ?_ (fun _ => ?_) | with_reducible exact ferrymanref05_Latches_Owner_PO_l0.mono | refine OLe.bind ?_ (fun _ => ?_) | refine OLe.ite ?_ ?_ | refine OLe.elim (fun _ => ?_) (fun _ => ?_) | split)
set_option maxHeartbeats 1000000 in
set_option maxRecDepth 100000 in
theorem ferrymanref05_Latches_Owner_PO.con (k : Nat) (M : Hp) (A0_0 : Option Addr) (c0_0 : Nat) (a0 : ferrymanref05_Latches) (a1 : ferrymanref05_Name) (bo0 : Nat) (r : Int × Bool)  (h : ferrymanref05_Latches_Owner_PO k a0 a1 = some r) : Con Try.prog 23 #[.pointer (some ⟨bo0, 0, none⟩), .agg #[.int .u8 a1.Kind, .int .u64 a1.ID]] M [Blk bo0 (.cells #[.slice A0_0 a0.L.length c0_0] 48 (0, 0)), Row r_ferrymanref05_Hold 64 (.slice A0_0 a0.L.length c0_0) a0.L] (fun v M' Γ' => v = .tuple #[.int .i64 r.1, .bool r.2] ∧ Γ' = [Blk bo0 (.cells #[.slice A0_0 a0.L.length c0_0] 48 (0, 0)), Row r_ferrymanref05_Hold 64 (.slice A0_0 a0.L.length c0_0) a0.L]) := by
  refine con_of_wp Try.func23 rfl Try.ntmps23 Try.results23 rfl ?_
  intro w F rn S hrn
  have E := Ext.refl w
  have HM := Hp.le_refl M
  have H := h
  unfold ferrymanref05_Latches_Owner_PO at H
  refine Wp_seq ?_
  refine Wp_region_lit ?_
  refine W_box S #[.int .u8 a1.Kind, .int .u64 a1.ID] rfl rfl rfl ?_
  intro b1 w2 E' S
  replace E := E.trans E'
  clear E'
  refine W_v (.int .i64 0) (x_assign rfl) rfl ?_
  refine W_v (.bool false) (x_assign rfl) rfl ?_
  refine Wl_nil ?_
  refine tn ?_
  refine Wp_seq ?_
  refine Wp_seq ?_
  refine Wp_region_lit ?_
  refine W_v (.int .i64 0) (x_assign rfl) rfl ?_
  refine Wl_nil ?_
  refine tn ?_
  obtain ⟨o79, o79h, o79H⟩ := bindS H
  clear H
  refine Wp_blockJ (fun ρ w' => .inr () = o79 ∧ Agree ρ [] ∧ Ext w w' ∧ St w' M F [Blk bo0 (.cells #[.slice A0_0 a0.L.length c0_0] 48 (0, 0)), Row r_ferrymanref05_Hold 64 (.slice A0_0 a0.L.length c0_0) a0.L]) ?_ ?_
  · skip
    refine Wp_loop (fun n ρ w' => ∃ (x54 : Int), ferrymanref05_Latches_Owner_PO_l0 a0 a1 n x54 = some o79 ∧ Agree ρ [(0, .pointer (some ⟨bo0, 0, none⟩)), (3, .pointer (some ⟨b1, 0, none⟩)), (6, .int .i64 x54)] ∧ Ext w w' ∧ St w' M F [Blk b1 (.cells #[.int .u8 a1.Kind, .int .u64 a1.ID] 44 (0, 0)), Blk bo0 (.cells #[.slice A0_0 a0.L.length c0_0] 48 (0, 0)), Row r_ferrymanref05_Hold 64 (.slice A0_0 a0.L.length c0_0) a0.L]) k ?_ ?_
    · skip
      exact ⟨(0 : Int), o79h, ⟨rfl, rfl, rfl, trivial⟩, E, S.pick [0, 1, 2] (by decide)⟩
    · intro n
      rintro ρ w80 ⟨x54, H, hρ, E, S⟩
      rw [agree_eta hρ]
      clear hρ
      cases n with
      | zero => cases H
      | succ k =>
        rw [ferrymanref05_Latches_Owner_PO_l0.eq_2] at H
        refine Wp_seq ?_
        refine Wp_seq ?_
        refine Wp_region_lit ?_
        refine W_v (.int .i64 x54) (x_move rfl) rfl ?_
        refine W_v (.pointer (some ⟨bo0, 0, none⟩)) (x_move rfl) rfl ?_
        refine W_v (.pointer (some ⟨bo0, 0, none⟩)) (x_nilptr rfl) rfl ?_
        refine W_v (.pointer (some ⟨bo0, 0, none⟩)) (x_fieldAddr (o := 0) (off := 0) Try.underlying48 rfl ty46 rfl rfl) rfl ?_
        refine W_v (.slice A0_0 a0.L.length c0_0) (x_load (S.blk 1 rfl) ty46 rfl rfl) rfl ?_
        refine W_v (.int .i64 (a0.L.length : Int)) (x_len_slice (n := a0.L.length) Try.underlying46 rfl) rfl ?_
        refine W_v (.bool (decide (x54 < (a0.L.length : Int)))) (x_ibin rfl rfl rfl rfl) rfl ?_
        refine Wl_nil ?_
        refine tn ?_
        rcases iteS H with ⟨hb81, H⟩ | ⟨hb81, H⟩
        · refine Wp_cond_true (congrArg Value.bool hb81) ?_
          refine Wp_skip ?_
          refine tn ?_
          refine Wp_seq ?_
          refine Wp_block ?_
          refine Wp_seq ?_
          refine Wp_region_any (S := fun w' => ∃ Mx, M.le Mx ∧ St w' Mx F [Blk b1 (.cells #[.int .u8 a1.Kind, .int .u64 a1.ID] 44 (0, 0)), Blk bo0 (.cells #[.slice A0_0 a0.L.length c0_0] 48 (0, 0)), Row r_ferrymanref05_Hold 64 (.slice A0_0 a0.L.length c0_0) a0.L]) (L := 10) mixed ?_
          intro w87 hw88 E'
          replace S := S.heap hw88
          replace E := E.trans E'
          clear E'
          refine Wa_take (i := 0) rfl (by kernel_rfl) rfl rfl (.pointer (some ⟨bo0, 0, none⟩)) rfl (fun w' h' => x_move rfl) (⟨M, Hp.le_refl M, S.pick [0, 1, 2] (by decide)⟩) ?_
          refine Wa_take (i := 1) rfl (by kernel_rfl) rfl rfl (.pointer (some ⟨bo0, 0, none⟩)) rfl (fun w' h' => x_nilptr rfl) (⟨M, Hp.le_refl M, S.pick [0, 1, 2] (by decide)⟩) ?_
          refine Wa_take (i := 2) rfl (by kernel_rfl) rfl rfl (.pointer (some ⟨bo0, 0, none⟩)) rfl (fun w' h' => x_fieldAddr (o := 0) (off := 0) Try.underlying48 rfl ty46 rfl rfl) (⟨M, Hp.le_refl M, S.pick [0, 1, 2] (by decide)⟩) ?_
          refine Wa_take (i := 3) rfl (by kernel_rfl) rfl rfl (.slice A0_0 a0.L.length c0_0) rfl (fun w' h' => x_load (cls_blk h' 1 rfl) ty46 rfl rfl) (⟨M, Hp.le_refl M, S.pick [0, 1, 2] (by decide)⟩) ?_
          refine Wa_take (i := 4) rfl (by kernel_rfl) rfl rfl (.int .i64 x54) rfl (fun w' h' => x_move rfl) (⟨M, Hp.le_refl M, S.pick [0, 1, 2] (by decide)⟩) ?_
          obtain ⟨⟨p89, p90⟩, H⟩ := chkS H
          obtain ⟨b91, o92, _, _, _, ee93, _⟩ := SlW.at' (S.row_read 2 rfl) p89 p90
          refine Wa_take (i := 5) rfl (by kernel_rfl) rfl rfl (.pointer (some ⟨b91, o92 + x54.toNat * 3, none⟩)) rfl (fun w' h' => x_indexAddr Try.underlying46 ty64 (slA ee93) rfl p89 p90) (⟨M, Hp.le_refl M, S.pick [0, 1, 2] (by decide)⟩) ?_
          refine Wa_take (i := 6) rfl (by kernel_rfl) rfl rfl (.pointer (some ⟨b91, o92 + x54.toNat * 3, none⟩)) rfl (fun w' h' => x_fieldAddr (o := o92 + x54.toNat * 3) (off := 0) Try.underlying64 rfl ty44 rfl rfl) (⟨M, Hp.le_refl M, S.pick [0, 1, 2] (by decide)⟩) ?_
          refine Wa_take (i := 7) rfl (by kernel_rfl) rfl rfl (.agg #[.int .u8 ((rd a0.L x54).N.Kind), .int .u64 ((rd a0.L x54).N.ID)]) rfl (fun w' h' => x_loadA_cls h' 2 rfl ee93 p89 p90 0 (by rintro _ _ rfl; rfl) ty44 rfl rfl rfl) (⟨M, Hp.le_refl M, S.pick [0, 1, 2] (by decide)⟩) ?_
          refine Wa_take (i := 8) rfl (by kernel_rfl) rfl rfl (.agg #[.int .u8 a1.Kind, .int .u64 a1.ID]) rfl (fun w' h' => x_loadA (cls_blk h' 0 rfl) ty44 rfl (sub_of_extract rfl) rfl rfl) (⟨M, Hp.le_refl M, S.pick [0, 1, 2] (by decide)⟩) ?_
          refine Wa_take (i := 9) rfl (by kernel_rfl) rfl rfl (.bool (((rd a0.L x54).N.Kind == a1.Kind) && ((rd a0.L x54).N.ID == a1.ID))) rfl (fun w' h' => x_eq_of (eg44 _ _ _ _) rfl (eq44 _ ((rd a0.L x54).N.Kind) ((rd a0.L x54).N.ID) a1.Kind a1.ID)) (⟨M, Hp.le_refl M, S.pick [0, 1, 2] (by decide)⟩) ?_
          refine Wa_done (by kernel_rfl) ?_
          refine tn ?_
          rcases iteS H with ⟨hb94, H⟩ | ⟨hb94, H⟩
          · refine Wp_cond_true (congrArg Value.bool hb94) ?_
            refine Wp_seq ?_
            refine Wp_region_lit ?_
            refine W_v (.pointer (some ⟨bo0, 0, none⟩)) (x_move rfl) rfl ?_
            refine W_v (.pointer (some ⟨bo0, 0, none⟩)) (x_nilptr rfl) rfl ?_
            refine W_v (.pointer (some ⟨bo0, 0, none⟩)) (x_fieldAddr (o := 0) (off := 0) Try.underlying48 rfl ty46 rfl rfl) rfl ?_
            refine W_v (.slice A0_0 a0.L.length c0_0) (x_load (S.blk 1 rfl) ty46 rfl rfl) rfl ?_
            refine W_v (.int .i64 x54) (x_move rfl) rfl ?_
            obtain ⟨⟨p95, p96⟩, H⟩ := chkS H
            obtain ⟨b97, o98, cs99, _, _, ee104, hb100, vs101, hR102, hc103⟩ := SlW.at' (S.row_read 2 rfl) p95 p96
            obtain rfl : vs101 = _ := hR102
            refine W_v (.pointer (some ⟨b97, o98 + x54.toNat * 3, none⟩)) (x_indexAddr Try.underlying46 ty64 (slA ee104) rfl p95 p96) rfl ?_
            refine W_v (.pointer (some ⟨b97, o98 + x54.toNat * 3 + 2, none⟩)) (x_fieldAddr (o := o98 + x54.toNat * 3) (off := 2) Try.underlying64 rfl ty3 rfl rfl) rfl ?_
            refine W_v (.int .i64 ((rd a0.L x54).Task)) (x_load (Hp.of_get hb100) ty3 rfl (hc103 2 _ rfl)) rfl ?_
            refine W_v (.int .i64 ((rd a0.L x54).Task)) (x_assign rfl) rfl ?_
            refine W_v (.bool true) (x_assign rfl) rfl ?_
            refine Wl_nil ?_
            refine tn ?_
            refine Wp_ret ?_
            refine br (tr (tr (br (tr (tr (?_))))))
            obtain rfl := Option.some.inj H
            have H := o79H
            replace H := elimL H
            obtain rfl := Option.some.inj H
            exact ⟨_, _, _, fun w1 e1 => run_resR (vs := [.int .i64 ((rd a0.L x54).Task), .bool true]) (FA.cons (rfl) (FA.cons (rfl) (FA.nil))), HM, E, S.pick [1, 2] (by decide), ⟨rfl, rfl⟩⟩
          refine Wp_cond_false (congrArg Value.bool hb94) ?_
          refine Wp_skip ?_
          refine bn ?_
          refine tn ?_
          refine Wp_region_lit ?_
          refine W_v (.int .i64 x54) (x_move rfl) rfl ?_
          refine W_v (.int .i64 (IntKind.i64.wrap (x54 + (1 : Int)))) (x_ibin rfl rfl rfl rfl) rfl ?_
          refine W_v (.int .i64 (IntKind.i64.wrap (x54 + (1 : Int)))) (x_assign rfl) rfl ?_
          refine Wl_nil ?_
          refine tn ?_
          exact ⟨k, Nat.lt_succ_self k, ⟨(IntKind.i64.wrap (x54 + (1 : Int))), H, ⟨rfl, rfl, rfl, trivial⟩, E, S.pick [0, 1, 2] (by decide)⟩⟩
        refine Wp_cond_false (congrArg Value.bool hb81) ?_
        refine Wp_exit ?_
        refine tx (tx (bsm (?_)))
        refine tn ?_
        exact ⟨Option.some.inj H, trivial, E, S.pick [1, 2] (by decide)⟩
  clear o79h
  rintro ρ w105 ⟨rfl, hρ, E, S⟩
  rw [agree_eta hρ]
  clear hρ
  have H := o79H
  clear o79H
  replace H := elimR H
  refine tn ?_
  refine Wp_seq ?_
  refine Wp_region_lit ?_
  refine W_v (.int .i64 0) (x_assign rfl) rfl ?_
  refine W_v (.bool false) (x_assign rfl) rfl ?_
  refine Wl_nil ?_
  refine tn ?_
  refine Wp_ret ?_
  obtain rfl := Option.some.inj H
  exact ⟨_, _, _, fun w1 e1 => run_resR (vs := [.int .i64 0, .bool false]) (FA.cons (rfl) (FA.cons (rfl) (FA.nil))), HM, E, S.pick [0, 1] (by decide), ⟨rfl, rfl⟩⟩
/-! ### (*ferryman/ferrymanref05.Latches).Drop: function 21 -/
def ferrymanref05_Latches_Drop_PO_l0 (a0 : ferrymanref05_Latches) (a1 : ferrymanref05_Name) : Nat → List ferrymanref05_Hold → Int → Option ((List ferrymanref05_Hold))
  | 0, _, _ => none
  | k + 1, x379, x383 => (if (decide (x383 < (a0.L.length : Int))) = true then (Option.bind (α := List ferrymanref05_Hold) (if 0 ≤ x383 ∧ x383 < (a0.L.length : Int) then (Option.bind (α := List ferrymanref05_Hold) (if (!(((rd a0.L x383).N.Kind == a1.Kind) && ((rd a0.L x383).N.ID == a1.ID))) = true then (if 0 ≤ x383 ∧ x383 < (a0.L.length : Int) then (if x379.length + ([(rd a0.L x383)] : List ferrymanref05_Hold).length ≤ 5864062014805 then some ((x379 ++ ([(rd a0.L x383)] : List ferrymanref05_Hold))) else none) else none) else some (x379)) (fun x712 => some (x712))) else none) (fun x651 => ferrymanref05_Latches_Drop_PO_l0 a0 a1 k x651 (IntKind.i64.wrap (x383 + (1 : Int))))) else some (x379))
set_option maxHeartbeats 2000000 in
theorem ferrymanref05_Latches_Drop_PO_l0.mono {a0 : ferrymanref05_Latches} {a1 : ferrymanref05_Name} : ∀ {k : Nat} {x0 x1}, OLe (ferrymanref05_Latches_Drop_PO_l0 a0 a1 k x0 x1) (ferrymanref05_Latches_Drop_PO_l0 a0 a1 (k + 1) x0 x1) := by
  intro k
  induction k with
  | zero => intros; exact OLe.none
  | succ k ih =>
    intros
    rw [ferrymanref05_Latches_Drop_PO_l0.eq_2, ferrymanref05_Latches_Drop_PO_l0.eq_2]
    repeat' (first | with_reducible exact OLe.none | with_reducible exact OLe.some | with_reducible refine OLe.ite ?_ ?_ | with_reducible refine OLe.bind ?_ (fun _ => ?_) | exact ih | refine OLe.bind ?_ (fun _ => ?_) | refine OLe.ite ?_ ?_ | refine OLe.elim (fun _ => ?_) (fun _ => ?_) | split)
def ferrymanref05_Latches_Drop_PO (k : Nat) (a0 : ferrymanref05_Latches) (a1 : ferrymanref05_Name) (a2 : Int) : Option (Bool × ferrymanref05_Latches) :=
  (Option.bind (ferrymanref05_Latches_Owner_PO k a0 a1) (fun t4 => (if ((!t4.2) || (t4.1 != a2)) = true then some (false, a0) else (Option.bind (ferrymanref05_Latches_Drop_PO_l0 a0 a1 k ([] : List ferrymanref05_Hold) (0 : Int)) (fun x559 => some (true, (⟨x559⟩ : ferrymanref05_Latches)))))))
set_option maxHeartbeats 2000000 in
theorem ferrymanref05_Latches_Drop_PO.mono {k : Nat} {a0 : ferrymanref05_Latches} {a1 : ferrymanref05_Name} {a2 : Int} : OLe (ferrymanref05_Latches_Drop_PO k a0 a1 a2) (ferrymanref05_Latches_Drop_PO (k + 1) a0 a1 a2) := by
  unfold ferrymanref05_Latches_Drop_PO
  repeat' (first | with_reducible exact OLe.none | with_reducible exact OLe.some | with_reducible refine OLe.ite ?_ ?_ | with_reducible refine OLe.bind ?_ (fun _ => ?_) | with_reducible exact ferrymanref05_Latches_Drop_PO_l0.mono | with_reducible exact ferrymanref05_Latches_Owner_PO.mono | refine OLe.bind ?_ (fun _ => ?_) | refine OLe.ite ?_ ?_ | refine OLe.elim (fun _ => ?_) (fun _ => ?_) | split)
set_option maxHeartbeats 1000000 in
set_option maxRecDepth 100000 in
theorem ferrymanref05_Latches_Drop_PO.con (k : Nat) (M : Hp) (A0_0 : Option Addr) (c0_0 : Nat) (a0 : ferrymanref05_Latches) (a1 : ferrymanref05_Name) (a2 : Int) (bo0 : Nat) (r : Bool × ferrymanref05_Latches)  (h : ferrymanref05_Latches_Drop_PO k a0 a1 a2 = some r) : Con Try.prog 21 #[.pointer (some ⟨bo0, 0, none⟩), .agg #[.int .u8 a1.Kind, .int .u64 a1.ID], .int .i64 a2] M [Blk bo0 (.cells #[.slice A0_0 a0.L.length c0_0] 48 (0, 0)), Row r_ferrymanref05_Hold 64 (.slice A0_0 a0.L.length c0_0) a0.L] (fun v M' Γ' => ∃ (Aq1 : Option Addr) (cq2 : Nat), v = .bool r.1 ∧ Γ' = [Blk bo0 (.cells #[.slice Aq1 r.2.L.length cq2] 48 (0, 0)), Row r_ferrymanref05_Hold 64 (.slice Aq1 r.2.L.length cq2) r.2.L]) := by
  refine con_of_wp Try.func21 rfl Try.ntmps21 Try.results21 rfl ?_
  intro w F rn S hrn
  have E := Ext.refl w
  have HM := Hp.le_refl M
  have H := h
  unfold ferrymanref05_Latches_Drop_PO at H
  refine Wp_seq ?_
  refine Wp_region_lit ?_
  refine W_box S #[.int .u8 a1.Kind, .int .u64 a1.ID] rfl rfl rfl ?_
  intro b1 w2 E' S
  replace E := E.trans E'
  clear E'
  refine W_v (.bool false) (x_assign rfl) rfl ?_
  refine Wl_nil ?_
  refine tn ?_
  refine Wp_seq ?_
  refine Wp_region_lit ?_
  refine W_v (.pointer (some ⟨bo0, 0, none⟩)) (x_move rfl) rfl ?_
  refine W_v (.agg #[.int .u8 a1.Kind, .int .u64 a1.ID]) (x_loadA (S.blk 0 rfl) ty44 rfl (sub_of_extract rfl) rfl rfl) rfl ?_
  obtain ⟨t4, ht5, H⟩ := bindS H
  replace S : St w2 M F [Blk bo0 (.cells #[.slice A0_0 a0.L.length c0_0] 48 (0, 0)), Row r_ferrymanref05_Hold 64 (.slice A0_0 a0.L.length c0_0) a0.L, Blk b1 (.cells #[.int .u8 a1.Kind, .int .u64 a1.ID] 44 (0, 0))] := S.pick [1, 2, 0] (by decide)
  refine W_callF2 fn23 (ferrymanref05_Latches_Owner_PO.con k M A0_0 c0_0 a0 a1 bo0 t4  ht5) (Γ1 := [Blk bo0 (.cells #[.slice A0_0 a0.L.length c0_0] 48 (0, 0)), Row r_ferrymanref05_Hold 64 (.slice A0_0 a0.L.length c0_0) a0.L]) (Γ2 := [Blk b1 (.cells #[.int .u8 a1.Kind, .int .u64 a1.ID] 44 (0, 0))]) S rfl rfl (by rintro _ _ _ ⟨rfl, rfl⟩; exact (flat_cons flat_blk (flat_cons (flat_row (fun _ _ _ _ h => h)) flat_nil))) ?_
  rintro _ w6 _ Γ' E' S ⟨rfl, rfl⟩
  replace E := E.trans E'
  clear E'
  replace S : St w6 M F [Blk bo0 (.cells #[.slice A0_0 a0.L.length c0_0] 48 (0, 0)), Row r_ferrymanref05_Hold 64 (.slice A0_0 a0.L.length c0_0) a0.L, Blk b1 (.cells #[.int .u8 a1.Kind, .int .u64 a1.ID] 44 (0, 0))] := S
  refine W_v (.tuple #[.int .i64 t4.1, .bool t4.2]) (x_move rfl) rfl ?_
  refine W_v (.int .i64 t4.1) (x_extract rfl rfl) rfl ?_
  refine W_v (.bool t4.2) (x_extract rfl rfl) rfl ?_
  refine W_v (.int .i64 t4.1) (x_assign rfl) rfl ?_
  refine W_v (.bool t4.2) (x_assign rfl) rfl ?_
  refine Wl_nil ?_
  refine tn ?_
  refine Wp_seq ?_
  refine Wp_seq ?_
  refine Wp_region_lit ?_
  refine W_v (.bool t4.2) (x_move rfl) rfl ?_
  refine W_v (.bool (!t4.2)) (x_not rfl) rfl ?_
  refine W_v (.bool (!t4.2)) (x_move rfl) rfl ?_
  refine Wl_cutN 4 (fun ρ w' => Agree ρ [(0, .pointer (some ⟨bo0, 0, none⟩)), (4, .pointer (some ⟨b1, 0, none⟩)), (23, .bool ((!t4.2) || (t4.1 != a2)))] ∧ w6 = w') ?_ ?_
  · rcases boolCases (!t4.2) with hb9 | hb9
    · skip
      refine W_yes (congrArg some hb9) ?_
      refine W_v (.int .i64 t4.1) (x_move rfl) rfl ?_
      refine W_yes (congrArg some hb9) ?_
      refine W_v (.int .i64 a2) (x_move rfl) rfl ?_
      refine W_yes (congrArg some hb9) ?_
      refine W_v (.bool (t4.1 != a2)) (x_ibin rfl rfl rfl rfl) rfl ?_
      refine W_v (.bool (t4.1 != a2)) (x_pick (k := false) (congrArg Value.bool hb9) rfl) rfl ?_
      refine Wl_nil ?_
      exact ⟨⟨rfl, rfl, (by first | rfl | (rw [hb9]; rfl) | (simp only [hb9]; rfl)), trivial⟩, rfl⟩
    · skip
      refine W_no (skF hb9) rfl ?_
      refine W_no (skF hb9) rfl ?_
      refine W_no (skF hb9) rfl ?_
      refine W_v (.bool true) (x_pick (k := true) (congrArg Value.bool hb9) rfl) rfl ?_
      refine Wl_nil ?_
      exact ⟨⟨rfl, rfl, (by first | rfl | (rw [hb9]; rfl) | (simp only [hb9]; rfl)), trivial⟩, rfl⟩
  rintro ρ _ ⟨hρ, rfl⟩
  rw [agree_eta hρ]
  clear hρ
  refine Wl_nil ?_
  refine tn ?_
  rcases iteS H with ⟨hb10, H⟩ | ⟨hb10, H⟩
  · refine Wp_cond_true (congrArg Value.bool hb10) ?_
    refine Wp_seq ?_
    refine Wp_region_lit ?_
    refine W_v (.bool false) (x_assign rfl) rfl ?_
    refine Wl_nil ?_
    refine tn ?_
    refine Wp_ret ?_
    refine tr (?_)
    obtain rfl := Option.some.inj H
    exact ⟨_, _, _, fun w1 e1 => run_resR (vs := [.bool false]) (FA.cons (rfl) (FA.nil)), HM, E, S.pick [0, 1] (by decide), ⟨A0_0, c0_0, rfl, rfl⟩⟩
  refine Wp_cond_false (congrArg Value.bool hb10) ?_
  refine Wp_skip ?_
  refine tn ?_
  refine Wp_seq ?_
  refine Wp_region_lit ?_
  refine W_v (.slice none 0 0) (x_assign rfl) rfl ?_
  refine Wl_nil ?_
  refine tn ?_
  refine Wp_seq ?_
  refine Wp_seq ?_
  refine Wp_region_lit ?_
  refine W_v (.int .i64 0) (x_assign rfl) rfl ?_
  refine Wl_nil ?_
  refine tn ?_
  obtain ⟨o563, o563h, o563H⟩ := bindS H
  clear H
  refine Wp_blockJ (fun ρ w' => ∃ (x559 : List ferrymanref05_Hold) (A560 : Option Addr) (c561 : Nat), (x559) = o563 ∧ Agree ρ [(0, .pointer (some ⟨bo0, 0, none⟩)), (9, .slice A560 x559.length c561)] ∧ Ext w w' ∧ St w' M F [Row r_ferrymanref05_Hold 64 (.slice A560 x559.length c561) x559, Blk bo0 (.cells #[.slice A0_0 a0.L.length c0_0] 48 (0, 0)), Row r_ferrymanref05_Hold 64 (.slice A0_0 a0.L.length c0_0) a0.L]) ?_ ?_
  · skip
    refine Wp_loop (fun n ρ w' => ∃ (x379 : List ferrymanref05_Hold) (x383 : Int) (A380 : Option Addr) (c381 : Nat), ferrymanref05_Latches_Drop_PO_l0 a0 a1 n x379 x383 = some o563 ∧ Agree ρ [(0, .pointer (some ⟨bo0, 0, none⟩)), (4, .pointer (some ⟨b1, 0, none⟩)), (9, .slice A380 x379.length c381), (10, .int .i64 x383)] ∧ Ext w w' ∧ St w' M F [Row r_ferrymanref05_Hold 64 (.slice A380 x379.length c381) x379, Blk bo0 (.cells #[.slice A0_0 a0.L.length c0_0] 48 (0, 0)), Row r_ferrymanref05_Hold 64 (.slice A0_0 a0.L.length c0_0) a0.L, Blk b1 (.cells #[.int .u8 a1.Kind, .int .u64 a1.ID] 44 (0, 0))]) k ?_ ?_
    · skip
      replace S := S.row_nil r_ferrymanref05_Hold 64
      exact ⟨([] : List ferrymanref05_Hold), (0 : Int), none, 0, o563h, ⟨rfl, rfl, rfl, rfl, trivial⟩, E, S.pick [0, 1, 2, 3] (by decide)⟩
    · intro n
      rintro ρ w565 ⟨x379, x383, A380, c381, H, hρ, E, S⟩
      rw [agree_eta hρ]
      clear hρ
      cases n with
      | zero => cases H
      | succ k =>
        rw [ferrymanref05_Latches_Drop_PO_l0.eq_2] at H
        refine Wp_seq ?_
        refine Wp_seq ?_
        refine Wp_region_lit ?_
        refine W_v (.int .i64 x383) (x_move rfl) rfl ?_
        refine W_v (.pointer (some ⟨bo0, 0, none⟩)) (x_move rfl) rfl ?_
        refine W_v (.pointer (some ⟨bo0, 0, none⟩)) (x_nilptr rfl) rfl ?_
        refine W_v (.pointer (some ⟨bo0, 0, none⟩)) (x_fieldAddr (o := 0) (off := 0) Try.underlying48 rfl ty46 rfl rfl) rfl ?_
        refine W_v (.slice A0_0 a0.L.length c0_0) (x_load (S.blk 1 rfl) ty46 rfl rfl) rfl ?_
        refine W_v (.int .i64 (a0.L.length : Int)) (x_len_slice (n := a0.L.length) Try.underlying46 rfl) rfl ?_
        refine W_v (.bool (decide (x383 < (a0.L.length : Int)))) (x_ibin rfl rfl rfl rfl) rfl ?_
        refine Wl_nil ?_
        refine tn ?_
        rcases iteS H with ⟨hb566, H⟩ | ⟨hb566, H⟩
        · refine Wp_cond_true (congrArg Value.bool hb566) ?_
          refine Wp_skip ?_
          refine tn ?_
          refine Wp_seq ?_
          obtain ⟨o655, o655h, o655H⟩ := bindS H
          refine Wp_cut (fun ρ w' => ∃ (x651 : List ferrymanref05_Hold) (A652 : Option Addr) (c653 : Nat), (x651) = o655 ∧ Agree ρ [(0, .pointer (some ⟨bo0, 0, none⟩)), (4, .pointer (some ⟨b1, 0, none⟩)), (9, .slice A652 x651.length c653), (10, .int .i64 x383)] ∧ Ext w w' ∧ St w' M F [Row r_ferrymanref05_Hold 64 (.slice A652 x651.length c653) x651, Blk bo0 (.cells #[.slice A0_0 a0.L.length c0_0] 48 (0, 0)), Row r_ferrymanref05_Hold 64 (.slice A0_0 a0.L.length c0_0) a0.L, Blk b1 (.cells #[.int .u8 a1.Kind, .int .u64 a1.ID] 44 (0, 0))]) ?_ ?_
          · clear o655H
            have H := o655h
            clear o655h
            refine Wp_block ?_
            refine Wp_seq ?_
            refine Wp_region_any (S := fun w' => ∃ Mx, M.le Mx ∧ St w' Mx F [Row r_ferrymanref05_Hold 64 (.slice A380 x379.length c381) x379, Blk bo0 (.cells #[.slice A0_0 a0.L.length c0_0] 48 (0, 0)), Row r_ferrymanref05_Hold 64 (.slice A0_0 a0.L.length c0_0) a0.L, Blk b1 (.cells #[.int .u8 a1.Kind, .int .u64 a1.ID] 44 (0, 0))]) (L := 10) mixed ?_
            intro w661 hw662 E'
            replace S := S.heap hw662
            replace E := E.trans E'
            clear E'
            refine Wa_take (i := 0) rfl (by kernel_rfl) rfl rfl (.pointer (some ⟨bo0, 0, none⟩)) rfl (fun w' h' => x_move rfl) (⟨M, Hp.le_refl M, S.pick [0, 1, 2, 3] (by decide)⟩) ?_
            refine Wa_take (i := 1) rfl (by kernel_rfl) rfl rfl (.pointer (some ⟨bo0, 0, none⟩)) rfl (fun w' h' => x_nilptr rfl) (⟨M, Hp.le_refl M, S.pick [0, 1, 2, 3] (by decide)⟩) ?_
            refine Wa_take (i := 2) rfl (by kernel_rfl) rfl rfl (.pointer (some ⟨bo0, 0, none⟩)) rfl (fun w' h' => x_fieldAddr (o := 0) (off := 0) Try.underlying48 rfl ty46 rfl rfl) (⟨M, Hp.le_refl M, S.pick [0, 1, 2, 3] (by decide)⟩) ?_
            refine Wa_take (i := 3) rfl (by kernel_rfl) rfl rfl (.slice A0_0 a0.L.length c0_0) rfl (fun w' h' => x_load (cls_blk h' 1 rfl) ty46 rfl rfl) (⟨M, Hp.le_refl M, S.pick [0, 1, 2, 3] (by decide)⟩) ?_
            refine Wa_take (i := 4) rfl (by kernel_rfl) rfl rfl (.int .i64 x383) rfl (fun w' h' => x_move rfl) (⟨M, Hp.le_refl M, S.pick [0, 1, 2, 3] (by decide)⟩) ?_
            obtain ⟨⟨p663, p664⟩, H⟩ := chkS H
            obtain ⟨b665, o666, _, _, _, ee667, _⟩ := SlW.at' (S.row_read 2 rfl) p663 p664
            refine Wa_take (i := 5) rfl (by kernel_rfl) rfl rfl (.pointer (some ⟨b665, o666 + x383.toNat * 3, none⟩)) rfl (fun w' h' => x_indexAddr Try.underlying46 ty64 (slA ee667) rfl p663 p664) (⟨M, Hp.le_refl M, S.pick [0, 1, 2, 3] (by decide)⟩) ?_
            refine Wa_take (i := 6) rfl (by kernel_rfl) rfl rfl (.pointer (some ⟨b665, o666 + x383.toNat * 3, none⟩)) rfl (fun w' h' => x_fieldAddr (o := o666 + x383.toNat * 3) (off := 0) Try.underlying64 rfl ty44 rfl rfl) (⟨M, Hp.le_refl M, S.pick [0, 1, 2, 3] (by decide)⟩) ?_
            refine Wa_take (i := 7) rfl (by kernel_rfl) rfl rfl (.agg #[.int .u8 ((rd a0.L x383).N.Kind), .int .u64 ((rd a0.L x383).N.ID)]) rfl (fun w' h' => x_loadA_cls h' 2 rfl ee667 p663 p664 0 (by rintro _ _ rfl; rfl) ty44 rfl rfl rfl) (⟨M, Hp.le_refl M, S.pick [0, 1, 2, 3] (by decide)⟩) ?_
            refine Wa_take (i := 8) rfl (by kernel_rfl) rfl rfl (.agg #[.int .u8 a1.Kind, .int .u64 a1.ID]) rfl (fun w' h' => x_loadA (cls_blk h' 3 rfl) ty44 rfl (sub_of_extract rfl) rfl rfl) (⟨M, Hp.le_refl M, S.pick [0, 1, 2, 3] (by decide)⟩) ?_
            refine Wa_take (i := 9) rfl (by kernel_rfl) rfl rfl (.bool (!(((rd a0.L x383).N.Kind == a1.Kind) && ((rd a0.L x383).N.ID == a1.ID)))) rfl (fun w' h' => x_ne_of (en44 _ _ _ _) rfl (eq44 _ ((rd a0.L x383).N.Kind) ((rd a0.L x383).N.ID) a1.Kind a1.ID)) (⟨M, Hp.le_refl M, S.pick [0, 1, 2, 3] (by decide)⟩) ?_
            refine Wa_done (by kernel_rfl) ?_
            refine tn ?_
            obtain ⟨o716, o716h, o716H⟩ := bindS H
            refine Wp_cut (fun ρ w' => ∃ (x712 : List ferrymanref05_Hold) (A713 : Option Addr) (c714 : Nat), (x712) = o716 ∧ Agree ρ [(0, .pointer (some ⟨bo0, 0, none⟩)), (4, .pointer (some ⟨b1, 0, none⟩)), (9, .slice A713 x712.length c714), (10, .int .i64 x383)] ∧ Ext w w' ∧ St w' M F [Row r_ferrymanref05_Hold 64 (.slice A713 x712.length c714) x712, Blk bo0 (.cells #[.slice A0_0 a0.L.length c0_0] 48 (0, 0)), Row r_ferrymanref05_Hold 64 (.slice A0_0 a0.L.length c0_0) a0.L, Blk b1 (.cells #[.int .u8 a1.Kind, .int .u64 a1.ID] 44 (0, 0))]) ?_ ?_
            · clear o716H
              have H := o716h
              clear o716h
              rcases iteS H with ⟨hb717, H⟩ | ⟨hb717, H⟩
              · refine Wp_cond_true (congrArg Value.bool hb717) ?_
                refine Wp_region_lit ?_
                refine W_v (.slice A380 x379.length c381) (x_move rfl) rfl ?_
                refine W_v (.pointer (some ⟨bo0, 0, none⟩)) (x_move rfl) rfl ?_
                refine W_v (.pointer (some ⟨bo0, 0, none⟩)) (x_nilptr rfl) rfl ?_
                refine W_v (.pointer (some ⟨bo0, 0, none⟩)) (x_fieldAddr (o := 0) (off := 0) Try.underlying48 rfl ty46 rfl rfl) rfl ?_
                refine W_v (.slice A0_0 a0.L.length c0_0) (x_load (S.blk 1 rfl) ty46 rfl rfl) rfl ?_
                refine W_v (.int .i64 x383) (x_move rfl) rfl ?_
                obtain ⟨⟨p718, p719⟩, H⟩ := chkS H
                obtain ⟨b720, o721, cs722, _, _, ee727, hb723, vs724, hR725, hc726⟩ := SlW.at' (S.row_read 2 rfl) p718 p719
                obtain rfl : vs724 = _ := hR725
                refine W_v (.pointer (some ⟨b720, o721 + x383.toNat * 3, none⟩)) (x_indexAddr Try.underlying46 ty64 (slA ee727) rfl p718 p719) rfl ?_
                refine W_v (.agg #[.int .u8 ((rd a0.L x383).N.Kind), .int .u64 ((rd a0.L x383).N.ID), .int .i64 ((rd a0.L x383).Task)]) (x_loadA (Hp.of_get hb723) ty64 rfl (sub_el hc726 0 rfl) rfl rfl) rfl ?_
                refine W_bslice S #[.int .u8 ((rd a0.L x383).N.Kind), .int .u64 ((rd a0.L x383).N.ID), .int .i64 ((rd a0.L x383).Task)] Try.underlying46 ty64 rfl rfl #[.int .u8 0, .int .u64 0, .int .i64 0] (by kernel_rfl) (by kernel_rfl) rfl ?_
                intro b728 w729 E' S
                replace E := E.trans E'
                clear E'
                replace S := S.blk_row (r := r_ferrymanref05_Hold) (l := ([(rd a0.L x383)] : List ferrymanref05_Hold)) 0 rfl 1 (Nat.le_refl 1) rfl (Cells.cons (vs := [.int .u8 ((rd a0.L x383).N.Kind), .int .u64 ((rd a0.L x383).N.ID), .int .i64 ((rd a0.L x383).Task)]) (rfl) Cells.nil)
                obtain ⟨p731, H⟩ := chkS H
                obtain ⟨src732, hs733, hC734⟩ := src_of_read (P := Try.prog) (ρ := r_ferrymanref05_Hold) (l := ([(rd a0.L x383)] : List ferrymanref05_Hold)) (S.row_read 0 rfl) (by decide)
                refine W_append S 1 rfl rfl rfl Try.underlying46 (.inl Try.underlying46) ty64 rfl (by decide) (by decide) hs733 hC734 rfl (by omega) rfl ?_
                intro v735 w736 E' S
                replace E := E.trans E'
                clear E'
                obtain ⟨A737, c738, rfl, _⟩ := (S.row_read 1 rfl).form
                refine W_v (.slice A737 (x379 ++ ([(rd a0.L x383)] : List ferrymanref05_Hold)).length c738) (x_assign rfl) rfl ?_
                refine Wl_nil ?_
                refine tn ?_
                exact ⟨(x379 ++ ([(rd a0.L x383)] : List ferrymanref05_Hold)), A737, c738, Option.some.inj H, ⟨rfl, rfl, rfl, rfl, trivial⟩, E, S.pick [1, 2, 3, 4] (by decide)⟩
              refine Wp_cond_false (congrArg Value.bool hb717) ?_
              refine Wp_skip ?_
              refine tn ?_
              exact ⟨x379, A380, c381, Option.some.inj H, ⟨rfl, rfl, rfl, rfl, trivial⟩, E, S.pick [0, 1, 2, 3] (by decide)⟩
            clear o716h
            rintro ρ w739 ⟨x712, A713, c714, rfl, hρ, E, S⟩
            rw [agree_eta hρ]
            clear hρ
            have H := o716H
            clear o716H
            refine bn ?_
            refine tn ?_
            exact ⟨x712, A713, c714, Option.some.inj H, ⟨rfl, rfl, rfl, rfl, trivial⟩, E, S.pick [0, 1, 2, 3] (by decide)⟩
          clear o655h
          rintro ρ w740 ⟨x651, A652, c653, rfl, hρ, E, S⟩
          rw [agree_eta hρ]
          clear hρ
          have H := o655H
          clear o655H
          refine tn ?_
          refine Wp_region_lit ?_
          refine W_v (.int .i64 x383) (x_move rfl) rfl ?_
          refine W_v (.int .i64 (IntKind.i64.wrap (x383 + (1 : Int)))) (x_ibin rfl rfl rfl rfl) rfl ?_
          refine W_v (.int .i64 (IntKind.i64.wrap (x383 + (1 : Int)))) (x_assign rfl) rfl ?_
          refine Wl_nil ?_
          refine tn ?_
          exact ⟨k, Nat.lt_succ_self k, ⟨x651, (IntKind.i64.wrap (x383 + (1 : Int))), A652, c653, H, ⟨rfl, rfl, rfl, rfl, trivial⟩, E, S.pick [0, 1, 2, 3] (by decide)⟩⟩
        refine Wp_cond_false (congrArg Value.bool hb566) ?_
        refine Wp_exit ?_
        refine tx (tx (bsm (?_)))
        refine tn ?_
        exact ⟨x379, A380, c381, Option.some.inj H, ⟨rfl, rfl, trivial⟩, E, S.pick [0, 1, 2] (by decide)⟩
  clear o563h
  rintro ρ w741 ⟨x559, A560, c561, rfl, hρ, E, S⟩
  rw [agree_eta hρ]
  clear hρ
  have H := o563H
  clear o563H
  refine tn ?_
  refine Wp_seq ?_
  refine Wp_region_lit ?_
  refine W_v (.pointer (some ⟨bo0, 0, none⟩)) (x_move rfl) rfl ?_
  refine W_v (.slice A560 x559.length c561) (x_move rfl) rfl ?_
  refine W_v (.pointer (some ⟨bo0, 0, none⟩)) (x_nilptr rfl) rfl ?_
  refine W_v (.pointer (some ⟨bo0, 0, none⟩)) (x_fieldAddr (o := 0) (off := 0) Try.underlying48 rfl ty46 rfl rfl) rfl ?_
  refine W_store S 1 rfl ty46 rfl rfl [.slice A560 x559.length c561] rfl rfl rfl #[.slice A560 x559.length c561] rfl rfl ?_
  intro w742 E' S
  replace E := E.trans E'
  clear E'
  refine Wl_nil ?_
  refine tn ?_
  refine Wp_seq ?_
  refine Wp_region_lit ?_
  refine W_v (.bool true) (x_assign rfl) rfl ?_
  refine Wl_nil ?_
  refine tn ?_
  refine Wp_ret ?_
  obtain rfl := Option.some.inj H
  exact ⟨_, _, _, fun w1 e1 => run_resR (vs := [.bool true]) (FA.cons (rfl) (FA.nil)), HM, E, S.pick [1, 0] (by decide), ⟨A560, c561, rfl, rfl⟩⟩
/-! ### (*ferryman/ferrymanref05.Latches).Try: function 22 -/
def ferrymanref05_Latches_Try_PO_l0 (a0 : ferrymanref05_Latches) (a1 : ferrymanref05_Name) : Nat → Int → Option ((Int))
  | 0, _ => none
  | k + 1, x98 => (Option.bind (α := Bool) (if (decide (x98 < (a0.L.length : Int))) = true then (if 0 ≤ x98 ∧ x98 < (a0.L.length : Int) then (Option.bind (ferrymanref05_less k ((rd a0.L x98).N) a1) (fun t183 => some (t183))) else none) else some (false)) (fun x176 => (if x176 = true then ferrymanref05_Latches_Try_PO_l0 a0 a1 k (IntKind.i64.wrap (x98 + (1 : Int))) else some (x98))))
set_option maxHeartbeats 2000000 in
theorem ferrymanref05_Latches_Try_PO_l0.mono {a0 : ferrymanref05_Latches} {a1 : ferrymanref05_Name} : ∀ {k : Nat} {x0}, OLe (ferrymanref05_Latches_Try_PO_l0 a0 a1 k x0) (ferrymanref05_Latches_Try_PO_l0 a0 a1 (k + 1) x0) := by
  intro k
  induction k with
  | zero => intros; exact OLe.none
  | succ k ih =>
    intros
    rw [ferrymanref05_Latches_Try_PO_l0.eq_2, ferrymanref05_Latches_Try_PO_l0.eq_2]
    repeat' (first | with_reducible exact OLe.none | with_reducible exact OLe.some | with_reducible refine OLe.ite ?_ ?_ | with_reducible refine OLe.bind ?_ (fun _ => ?_) | with_reducible exact ferrymanref05_less.mono | exact ih | refine OLe.bind ?_ (fun _ => ?_) | refine OLe.ite ?_ ?_ | refine OLe.elim (fun _ => ?_) (fun _ => ?_) | split)
def ferrymanref05_Latches_Try_PO (k : Nat) (a0 : ferrymanref05_Latches) (a1 : ferrymanref05_Name) (a2 : Int) : Option (Bool × ferrymanref05_Latches) :=
  (Option.bind (ferrymanref05_Latches_Owner_PO k a0 a1) (fun t4 => (if t4.2 = true then some ((t4.1 == a2), a0) else (Option.bind (ferrymanref05_Latches_Try_PO_l0 a0 a1 k (0 : Int)) (fun x142 => (if 0 ≤ x142 ∧ x142 ≤ (a0.L.length : Int) then (if ([] : List ferrymanref05_Hold).length + (List.drop x142.toNat a0.L).length ≤ 5864062014805 then (if 0 ≤ x142 ∧ x142 ≤ (a0.L.length : Int) then (Option.bind (α := List ferrymanref05_Hold × List ferrymanref05_Hold) (if ([] : List ferrymanref05_Hold).length + (List.take x142.toNat a0.L).length ≤ 5864062014805 then some ((([] : List ferrymanref05_Hold) ++ (List.take x142.toNat a0.L)), ([(⟨⟨a1.Kind, a1.ID⟩, a2⟩ : ferrymanref05_Hold)] : List ferrymanref05_Hold)) else none) (fun ⟨x463, x467⟩ => (if x463.length + x467.length ≤ 5864062014805 then (if (x463 ++ x467).length + (([] : List ferrymanref05_Hold) ++ (List.drop x142.toNat a0.L)).length ≤ 5864062014805 then some (true, (⟨((x463 ++ x467) ++ (([] : List ferrymanref05_Hold) ++ (List.drop x142.toNat a0.L)))⟩ : ferrymanref05_Latches)) else none) else none))) else none) else none) else none))))))
set_option maxHeartbeats 2000000 in
theorem ferrymanref05_Latches_Try_PO.mono {k : Nat} {a0 : ferrymanref05_Latches} {a1 : ferrymanref05_Name} {a2 : Int} : OLe (ferrymanref05_Latches_Try_PO k a0 a1 a2) (ferrymanref05_Latches_Try_PO (k + 1) a0 a1 a2) := by
  unfold ferrymanref05_Latches_Try_PO
  repeat' (first | with_reducible exact OLe.none | with_reducible exact OLe.some | with_reducible refine OLe.ite ?_ ?_ | with_reducible refine OLe.bind ?_ (fun _ => ?_) | with_reducible exact ferrymanref05_Latches_Owner_PO.mono | with_reducible exact ferrymanref05_Latches_Try_PO_l0.mono | refine OLe.bind ?_ (fun _ => ?_) | refine OLe.ite ?_ ?_ | refine OLe.elim (fun _ => ?_) (fun _ => ?_) | split)
set_option maxHeartbeats 1000000 in
set_option maxRecDepth 100000 in
theorem ferrymanref05_Latches_Try_PO.con (k : Nat) (M : Hp) (A0_0 : Option Addr) (c0_0 : Nat) (a0 : ferrymanref05_Latches) (a1 : ferrymanref05_Name) (a2 : Int) (bo0 : Nat) (r : Bool × ferrymanref05_Latches)  (h : ferrymanref05_Latches_Try_PO k a0 a1 a2 = some r) : Con Try.prog 22 #[.pointer (some ⟨bo0, 0, none⟩), .agg #[.int .u8 a1.Kind, .int .u64 a1.ID], .int .i64 a2] M [Blk bo0 (.cells #[.slice A0_0 a0.L.length c0_0] 48 (0, 0)), Row r_ferrymanref05_Hold 64 (.slice A0_0 a0.L.length c0_0) a0.L] (fun v M' Γ' => ∃ (Aq1 : Option Addr) (cq2 : Nat), v = .bool r.1 ∧ Γ' = [Blk bo0 (.cells #[.slice Aq1 r.2.L.length cq2] 48 (0, 0)), Row r_ferrymanref05_Hold 64 (.slice Aq1 r.2.L.length cq2) r.2.L]) := by
  refine con_of_wp Try.func22 rfl Try.ntmps22 Try.results22 rfl ?_
  intro w F rn S hrn
  have E := Ext.refl w
  have HM := Hp.le_refl M
  have H := h
  unfold ferrymanref05_Latches_Try_PO at H
  refine Wp_seq ?_
  refine Wp_region_lit ?_
  refine W_box S #[.int .u8 a1.Kind, .int .u64 a1.ID] rfl rfl rfl ?_
  intro b1 w2 E' S
  replace E := E.trans E'
  clear E'
  refine W_v (.bool false) (x_assign rfl) rfl ?_
  refine Wl_nil ?_
  refine tn ?_
  refine Wp_seq ?_
  refine Wp_region_lit ?_
  refine W_v (.pointer (some ⟨bo0, 0, none⟩)) (x_move rfl) rfl ?_
  refine W_v (.agg #[.int .u8 a1.Kind, .int .u64 a1.ID]) (x_loadA (S.blk 0 rfl) ty44 rfl (sub_of_extract rfl) rfl rfl) rfl ?_
  obtain ⟨t4, ht5, H⟩ := bindS H
  replace S : St w2 M F [Blk bo0 (.cells #[.slice A0_0 a0.L.length c0_0] 48 (0, 0)), Row r_ferrymanref05_Hold 64 (.slice A0_0 a0.L.length c0_0) a0.L, Blk b1 (.cells #[.int .u8 a1.Kind, .int .u64 a1.ID] 44 (0, 0))] := S.pick [1, 2, 0] (by decide)
  refine W_callF2 fn23 (ferrymanref05_Latches_Owner_PO.con k M A0_0 c0_0 a0 a1 bo0 t4  ht5) (Γ1 := [Blk bo0 (.cells #[.slice A0_0 a0.L.length c0_0] 48 (0, 0)), Row r_ferrymanref05_Hold 64 (.slice A0_0 a0.L.length c0_0) a0.L]) (Γ2 := [Blk b1 (.cells #[.int .u8 a1.Kind, .int .u64 a1.ID] 44 (0, 0))]) S rfl rfl (by rintro _ _ _ ⟨rfl, rfl⟩; exact (flat_cons flat_blk (flat_cons (flat_row (fun _ _ _ _ h => h)) flat_nil))) ?_
  rintro _ w6 _ Γ' E' S ⟨rfl, rfl⟩
  replace E := E.trans E'
  clear E'
  replace S : St w6 M F [Blk bo0 (.cells #[.slice A0_0 a0.L.length c0_0] 48 (0, 0)), Row r_ferrymanref05_Hold 64 (.slice A0_0 a0.L.length c0_0) a0.L, Blk b1 (.cells #[.int .u8 a1.Kind, .int .u64 a1.ID] 44 (0, 0))] := S
  refine W_v (.tuple #[.int .i64 t4.1, .bool t4.2]) (x_move rfl) rfl ?_
  refine W_v (.int .i64 t4.1) (x_extract rfl rfl) rfl ?_
  refine W_v (.bool t4.2) (x_extract rfl rfl) rfl ?_
  refine W_v (.int .i64 t4.1) (x_assign rfl) rfl ?_
  refine W_v (.bool t4.2) (x_assign rfl) rfl ?_
  refine Wl_nil ?_
  refine tn ?_
  refine Wp_seq ?_
  refine Wp_seq ?_
  refine Wp_region_lit ?_
  refine W_v (.bool t4.2) (x_move rfl) rfl ?_
  refine Wl_nil ?_
  refine tn ?_
  rcases iteS H with ⟨hb9, H⟩ | ⟨hb9, H⟩
  · refine Wp_cond_true (congrArg Value.bool hb9) ?_
    refine Wp_seq ?_
    refine Wp_region_lit ?_
    refine W_v (.int .i64 t4.1) (x_move rfl) rfl ?_
    refine W_v (.int .i64 a2) (x_move rfl) rfl ?_
    refine W_v (.bool (t4.1 == a2)) (x_ibin rfl rfl rfl rfl) rfl ?_
    refine W_v (.bool (t4.1 == a2)) (x_assign rfl) rfl ?_
    refine Wl_nil ?_
    refine tn ?_
    refine Wp_ret ?_
    refine tr (?_)
    obtain rfl := Option.some.inj H
    exact ⟨_, _, _, fun w1 e1 => run_resR (vs := [.bool (t4.1 == a2)]) (FA.cons (rfl) (FA.nil)), HM, E, S.pick [0, 1] (by decide), ⟨A0_0, c0_0, rfl, rfl⟩⟩
  refine Wp_cond_false (congrArg Value.bool hb9) ?_
  refine Wp_skip ?_
  refine tn ?_
  refine Wp_seq ?_
  refine Wp_region_lit ?_
  refine W_v (.int .i64 0) (x_assign rfl) rfl ?_
  refine Wl_nil ?_
  refine tn ?_
  refine Wp_seq ?_
  obtain ⟨o143, o143h, o143H⟩ := bindS H
  clear H
  refine Wp_blockJ (fun ρ w' => ∃ (x142 : Int), (x142) = o143 ∧ Agree ρ [(0, .pointer (some ⟨bo0, 0, none⟩)), (2, .int .i64 a2), (4, .pointer (some ⟨b1, 0, none⟩)), (9, .int .i64 x142)] ∧ Ext w w' ∧ St w' M F [Blk bo0 (.cells #[.slice A0_0 a0.L.length c0_0] 48 (0, 0)), Row r_ferrymanref05_Hold 64 (.slice A0_0 a0.L.length c0_0) a0.L, Blk b1 (.cells #[.int .u8 a1.Kind, .int .u64 a1.ID] 44 (0, 0))]) ?_ ?_
  · skip
    refine Wp_loop (fun n ρ w' => ∃ (x98 : Int), ferrymanref05_Latches_Try_PO_l0 a0 a1 n x98 = some o143 ∧ Agree ρ [(0, .pointer (some ⟨bo0, 0, none⟩)), (2, .int .i64 a2), (4, .pointer (some ⟨b1, 0, none⟩)), (9, .int .i64 x98)] ∧ Ext w w' ∧ St w' M F [Blk bo0 (.cells #[.slice A0_0 a0.L.length c0_0] 48 (0, 0)), Row r_ferrymanref05_Hold 64 (.slice A0_0 a0.L.length c0_0) a0.L, Blk b1 (.cells #[.int .u8 a1.Kind, .int .u64 a1.ID] 44 (0, 0))]) k ?_ ?_
    · skip
      exact ⟨(0 : Int), o143h, ⟨rfl, rfl, rfl, rfl, trivial⟩, E, S.pick [0, 1, 2] (by decide)⟩
    · intro n
      rintro ρ w144 ⟨x98, H, hρ, E, S⟩
      rw [agree_eta hρ]
      clear hρ
      cases n with
      | zero => cases H
      | succ k =>
        rw [ferrymanref05_Latches_Try_PO_l0.eq_2] at H
        refine Wp_seq ?_
        refine Wp_seq ?_
        refine Wp_region_any (S := fun w' => ∃ Mx, M.le Mx ∧ St w' Mx F [Blk bo0 (.cells #[.slice A0_0 a0.L.length c0_0] 48 (0, 0)), Row r_ferrymanref05_Hold 64 (.slice A0_0 a0.L.length c0_0) a0.L, Blk b1 (.cells #[.int .u8 a1.Kind, .int .u64 a1.ID] 44 (0, 0))]) (L := 19) mixed ?_
        intro w165 hw166 E'
        replace S := S.heap hw166
        replace E := E.trans E'
        clear E'
        refine Wa_take (i := 0) rfl (by kernel_rfl) rfl rfl (.int .i64 x98) rfl (fun w' h' => x_move rfl) (⟨M, Hp.le_refl M, S.pick [0, 1, 2] (by decide)⟩) ?_
        refine Wa_take (i := 1) rfl (by kernel_rfl) rfl rfl (.pointer (some ⟨bo0, 0, none⟩)) rfl (fun w' h' => x_move rfl) (⟨M, Hp.le_refl M, S.pick [0, 1, 2] (by decide)⟩) ?_
        refine Wa_take (i := 2) rfl (by kernel_rfl) rfl rfl (.pointer (some ⟨bo0, 0, none⟩)) rfl (fun w' h' => x_nilptr rfl) (⟨M, Hp.le_refl M, S.pick [0, 1, 2] (by decide)⟩) ?_
        refine Wa_take (i := 3) rfl (by kernel_rfl) rfl rfl (.pointer (some ⟨bo0, 0, none⟩)) rfl (fun w' h' => x_fieldAddr (o := 0) (off := 0) Try.underlying48 rfl ty46 rfl rfl) (⟨M, Hp.le_refl M, S.pick [0, 1, 2] (by decide)⟩) ?_
        refine Wa_take (i := 4) rfl (by kernel_rfl) rfl rfl (.slice A0_0 a0.L.length c0_0) rfl (fun w' h' => x_load (cls_blk h' 0 rfl) ty46 rfl rfl) (⟨M, Hp.le_refl M, S.pick [0, 1, 2] (by decide)⟩) ?_
        refine Wa_take (i := 5) rfl (by kernel_rfl) rfl rfl (.int .i64 (a0.L.length : Int)) rfl (fun w' h' => x_len_slice (n := a0.L.length) Try.underlying46 rfl) (⟨M, Hp.le_refl M, S.pick [0, 1, 2] (by decide)⟩) ?_
        refine Wa_take (i := 6) rfl (by kernel_rfl) rfl rfl (.bool (decide (x98 < (a0.L.length : Int)))) rfl (fun w' h' => x_ibin rfl rfl rfl rfl) (⟨M, Hp.le_refl M, S.pick [0, 1, 2] (by decide)⟩) ?_
        refine Wa_take (i := 7) rfl (by kernel_rfl) rfl rfl (.bool (decide (x98 < (a0.L.length : Int)))) rfl (fun w' h' => x_move rfl) (⟨M, Hp.le_refl M, S.pick [0, 1, 2] (by decide)⟩) ?_
        obtain ⟨o177, o177h, o177H⟩ := bindS H
        clear H
        refine Wa_join (fun ρ w' => ∃ (x176 : Bool), (x176) = o177 ∧ Agree ρ [(0, .pointer (some ⟨bo0, 0, none⟩)), (2, .int .i64 a2), (4, .pointer (some ⟨b1, 0, none⟩)), (9, .int .i64 x98), (39, .bool x176)] ∧ Ext w w' ∧ St w' M F [Blk bo0 (.cells #[.slice A0_0 a0.L.length c0_0] 48 (0, 0)), Row r_ferrymanref05_Hold 64 (.slice A0_0 a0.L.length c0_0) a0.L, Blk b1 (.cells #[.int .u8 a1.Kind, .int .u64 a1.ID] 44 (0, 0))]) 0 (Ls 19 [0, 1, 2, 3, 4, 5, 6, 7, 8, 9, 10, 11, 12, 13, 14, 15, 16, 17, 18]) ?_ ?_
        rotate_left
        · intro hrest
          have H := o177h
          clear o177h o177H
          rcases iteS H with ⟨hb175, H⟩ | ⟨hb175, H⟩
          · skip
            refine Wa_takeY (i := 8) rfl (by kernel_rfl) rfl rfl (.pointer (some ⟨bo0, 0, none⟩)) rfl (congrArg some hb175) (fun w' h' => x_move rfl) (⟨M, Hp.le_refl M, S.pick [0, 1, 2] (by decide)⟩) ?_
            refine Wa_takeY (i := 9) rfl (by kernel_rfl) rfl rfl (.pointer (some ⟨bo0, 0, none⟩)) rfl (congrArg some hb175) (fun w' h' => x_nilptr rfl) (⟨M, Hp.le_refl M, S.pick [0, 1, 2] (by decide)⟩) ?_
            refine Wa_takeY (i := 10) rfl (by kernel_rfl) rfl rfl (.pointer (some ⟨bo0, 0, none⟩)) rfl (congrArg some hb175) (fun w' h' => x_fieldAddr (o := 0) (off := 0) Try.underlying48 rfl ty46 rfl rfl) (⟨M, Hp.le_refl M, S.pick [0, 1, 2] (by decide)⟩) ?_
            refine Wa_takeY (i := 11) rfl (by kernel_rfl) rfl rfl (.slice A0_0 a0.L.length c0_0) rfl (congrArg some hb175) (fun w' h' => x_load (cls_blk h' 0 rfl) ty46 rfl rfl) (⟨M, Hp.le_refl M, S.pick [0, 1, 2] (by decide)⟩) ?_
            refine Wa_takeY (i := 12) rfl (by kernel_rfl) rfl rfl (.int .i64 x98) rfl (congrArg some hb175) (fun w' h' => x_move rfl) (⟨M, Hp.le_refl M, S.pick [0, 1, 2] (by decide)⟩) ?_
            obtain ⟨⟨p178, p179⟩, H⟩ := chkS H
            obtain ⟨b180, o181, _, _, _, ee182, _⟩ := SlW.at' (S.row_read 1 rfl) p178 p179
            refine Wa_takeY (i := 13) rfl (by kernel_rfl) rfl rfl (.pointer (some ⟨b180, o181 + x98.toNat * 3, none⟩)) rfl (congrArg some hb175) (fun w' h' => x_indexAddr Try.underlying46 ty64 (slA ee182) rfl p178 p179) (⟨M, Hp.le_refl M, S.pick [0, 1, 2] (by decide)⟩) ?_
            refine Wa_takeY (i := 14) rfl (by kernel_rfl) rfl rfl (.pointer (some ⟨b180, o181 + x98.toNat * 3, none⟩)) rfl (congrArg some hb175) (fun w' h' => x_fieldAddr (o := o181 + x98.toNat * 3) (off := 0) Try.underlying64 rfl ty44 rfl rfl) (⟨M, Hp.le_refl M, S.pick [0, 1, 2] (by decide)⟩) ?_
            refine Wa_takeY (i := 15) rfl (by kernel_rfl) rfl rfl (.agg #[.int .u8 ((rd a0.L x98).N.Kind), .int .u64 ((rd a0.L x98).N.ID)]) rfl (congrArg some hb175) (fun w' h' => x_loadA_cls h' 1 rfl ee182 p178 p179 0 (by rintro _ _ rfl; rfl) ty44 rfl rfl rfl) (⟨M, Hp.le_refl M, S.pick [0, 1, 2] (by decide)⟩) ?_
            refine Wa_takeY (i := 16) rfl (by kernel_rfl) rfl rfl (.agg #[.int .u8 a1.Kind, .int .u64 a1.ID]) rfl (congrArg some hb175) (fun w' h' => x_loadA (cls_blk h' 2 rfl) ty44 rfl (sub_of_extract rfl) rfl rfl) (⟨M, Hp.le_refl M, S.pick [0, 1, 2] (by decide)⟩) ?_
            refine Wa_solo (i := 17) rfl (by kernel_rfl) ?_
            refine W_yes (congrArg some hb175) ?_
            obtain ⟨t183, ht184, H⟩ := bindS H
            refine W_callF fn31 (ferrymanref05_less.con k M ((rd a0.L x98).N) a1 t183  ht184) S rfl rfl (by rintro _ _ _ ⟨_, rfl⟩; exact flat_nil) ?_
            rintro _ w185 _ Γ' E' S ⟨rfl, rfl⟩
            replace E := E.trans E'
            clear E'
            refine Wl_nil (on_n ⟨.inr ⟨M, Hp.le_refl M, S.pick [0, 1, 2] (by decide)⟩, ?_⟩)
            refine Wa_take (i := 18) rfl (by kernel_rfl) rfl rfl (.bool t183) rfl (fun w' h' => x_pick (k := true) (congrArg Value.bool hb175) rfl) (⟨M, Hp.le_refl M, S.pick [0, 1, 2] (by decide)⟩) ?_
            exact hrest _ _ ⟨t183, Option.some.inj H, ⟨rfl, rfl, rfl, rfl, rfl, trivial⟩, E, S.pick [0, 1, 2] (by decide)⟩
          · skip
            refine Wa_takeN (i := 8) rfl (by kernel_rfl) rfl rfl rfl (skT hb175) (⟨M, Hp.le_refl M, S.pick [0, 1, 2] (by decide)⟩) ?_
            refine Wa_takeN (i := 9) rfl (by kernel_rfl) rfl rfl rfl (skT hb175) (⟨M, Hp.le_refl M, S.pick [0, 1, 2] (by decide)⟩) ?_
            refine Wa_takeN (i := 10) rfl (by kernel_rfl) rfl rfl rfl (skT hb175) (⟨M, Hp.le_refl M, S.pick [0, 1, 2] (by decide)⟩) ?_
            refine Wa_takeN (i := 11) rfl (by kernel_rfl) rfl rfl rfl (skT hb175) (⟨M, Hp.le_refl M, S.pick [0, 1, 2] (by decide)⟩) ?_
            refine Wa_takeN (i := 12) rfl (by kernel_rfl) rfl rfl rfl (skT hb175) (⟨M, Hp.le_refl M, S.pick [0, 1, 2] (by decide)⟩) ?_
            refine Wa_takeN (i := 13) rfl (by kernel_rfl) rfl rfl rfl (skT hb175) (⟨M, Hp.le_refl M, S.pick [0, 1, 2] (by decide)⟩) ?_
            refine Wa_takeN (i := 14) rfl (by kernel_rfl) rfl rfl rfl (skT hb175) (⟨M, Hp.le_refl M, S.pick [0, 1, 2] (by decide)⟩) ?_
            refine Wa_takeN (i := 15) rfl (by kernel_rfl) rfl rfl rfl (skT hb175) (⟨M, Hp.le_refl M, S.pick [0, 1, 2] (by decide)⟩) ?_
            refine Wa_takeN (i := 16) rfl (by kernel_rfl) rfl rfl rfl (skT hb175) (⟨M, Hp.le_refl M, S.pick [0, 1, 2] (by decide)⟩) ?_
            refine Wa_takeN (i := 17) rfl (by kernel_rfl) rfl rfl rfl (skT hb175) (⟨M, Hp.le_refl M, S.pick [0, 1, 2] (by decide)⟩) ?_
            refine Wa_take (i := 18) rfl (by kernel_rfl) rfl rfl (.bool false) rfl (fun w' h' => x_pick (k := false) (congrArg Value.bool hb175) rfl) (⟨M, Hp.le_refl M, S.pick [0, 1, 2] (by decide)⟩) ?_
            exact hrest _ _ ⟨false, Option.some.inj H, ⟨rfl, rfl, rfl, rfl, rfl, trivial⟩, E, S.pick [0, 1, 2] (by decide)⟩
        clear o177h
        rintro ρ w186 ⟨x176, rfl, hρ, E, S⟩
        rw [agree_eta hρ]
        clear hρ
        have H := o177H
        clear o177H
        refine Wa_done (by kernel_rfl) ?_
        refine tn ?_
        rcases iteS H with ⟨hb187, H⟩ | ⟨hb187, H⟩
        · refine Wp_cond_true (congrArg Value.bool hb187) ?_
          refine Wp_skip ?_
          refine tn ?_
          refine Wp_block ?_
          refine Wp_region_lit ?_
          refine W_v (.int .i64 x98) (x_move rfl) rfl ?_
          refine W_v (.int .i64 (IntKind.i64.wrap (x98 + (1 : Int)))) (x_ibin rfl rfl rfl rfl) rfl ?_
          refine W_v (.int .i64 (IntKind.i64.wrap (x98 + (1 : Int)))) (x_assign rfl) rfl ?_
          refine Wl_nil ?_
          refine bn ?_
          refine tn ?_
          exact ⟨k, Nat.lt_succ_self k, ⟨(IntKind.i64.wrap (x98 + (1 : Int))), H, ⟨rfl, rfl, rfl, rfl, trivial⟩, E, S.pick [0, 1, 2] (by decide)⟩⟩
        refine Wp_cond_false (congrArg Value.bool hb187) ?_
        refine Wp_exit ?_
        refine tx (tx (bsm (?_)))
        refine tn ?_
        exact ⟨x98, Option.some.inj H, ⟨rfl, rfl, rfl, rfl, trivial⟩, E, S.pick [0, 1, 2] (by decide)⟩
  clear o143h
  rintro ρ w188 ⟨x142, rfl, hρ, E, S⟩
  rw [agree_eta hρ]
  clear hρ
  have H := o143H
  clear o143H
  refine tn ?_
  refine Wp_seq ?_
  refine Wp_region_lit ?_
  refine W_bslice S #[] Try.underlying46 ty64 rfl rfl #[] (by kernel_rfl) (by kernel_rfl) rfl ?_
  intro b189 w190 E' S
  replace E := E.trans E'
  clear E'
  replace S := S.blk_row (r := r_ferrymanref05_Hold) (l := ([] : List ferrymanref05_Hold)) 0 rfl 0 (Nat.le_refl 0) rfl Cells.nil
  refine W_v (.pointer (some ⟨bo0, 0, none⟩)) (x_move rfl) rfl ?_
  refine W_v (.pointer (some ⟨bo0, 0, none⟩)) (x_nilptr rfl) rfl ?_
  refine W_v (.pointer (some ⟨bo0, 0, none⟩)) (x_fieldAddr (o := 0) (off := 0) Try.underlying48 rfl ty46 rfl rfl) rfl ?_
  refine W_v (.slice A0_0 a0.L.length c0_0) (x_load (S.blk 1 rfl) ty46 rfl rfl) rfl ?_
  refine W_v (.int .i64 x142) (x_move rfl) rfl ?_
  obtain ⟨M192, hM193, hf194, S⟩ := S.row_freeze 2 rfl
  replace HM := Hp.le_trans HM hM193
  obtain ⟨⟨p195, p196⟩, H⟩ := chkS H
  obtain ⟨A197, c198, hs199, hx200⟩ := sl_lo hf194 p195 p196
  refine W_v (.slice A197 (List.drop x142.toNat a0.L).length c198) (hx200 Try.underlying46 ty64 rfl rfl) rfl ?_
  obtain ⟨p201, H⟩ := chkS H
  obtain ⟨src202, hs203, hC204⟩ := src_of_read (P := Try.prog) (ρ := r_ferrymanref05_Hold) (l := (List.drop x142.toNat a0.L)) (SlR.world hs199 S) (by decide)
  refine W_append S 0 rfl rfl rfl Try.underlying46 (.inl Try.underlying46) ty64 rfl (by decide) (by decide) hs203 hC204 rfl (by omega) rfl ?_
  intro v205 w206 E' S
  replace E := E.trans E'
  clear E'
  obtain ⟨A207, c208, rfl, _⟩ := (S.row_read 0 rfl).form
  refine W_v (.slice A207 (([] : List ferrymanref05_Hold) ++ (List.drop x142.toNat a0.L)).length c208) (x_assign rfl) rfl ?_
  refine Wl_nil ?_
  refine tn ?_
  refine Wp_seq ?_
  refine Wp_region_any (S := fun w' => ∃ Mx, M192.le Mx ∧ St w' Mx F [Row r_ferrymanref05_Hold 64 (.slice A207 (([] : List ferrymanref05_Hold) ++ (List.drop x142.toNat a0.L)).length c208) (([] : List ferrymanref05_Hold) ++ (List.drop x142.toNat a0.L)), Blk bo0 (.cells #[.slice A0_0 a0.L.length c0_0] 48 (0, 0)), Blk b1 (.cells #[.int .u8 a1.Kind, .int .u64 a1.ID] 44 (0, 0))]) (L := 18) mixed ?_
  intro w405 hw406 E'
  replace S := S.heap hw406
  replace E := E.trans E'
  clear E'
  refine Wa_take (i := 0) rfl (by kernel_rfl) rfl rfl (.pointer (some ⟨bo0, 0, none⟩)) rfl (fun w' h' => x_move rfl) (⟨M192, Hp.le_refl M192, S.pick [0, 1, 2] (by decide)⟩) ?_
  refine Wa_take (i := 2) rfl (by kernel_rfl) rfl rfl (.pointer (some ⟨bo0, 0, none⟩)) rfl (fun w' h' => x_move rfl) (⟨M192, Hp.le_refl M192, S.pick [0, 1, 2] (by decide)⟩) ?_
  refine Wa_take (i := 3) rfl (by kernel_rfl) rfl rfl (.pointer (some ⟨bo0, 0, none⟩)) rfl (fun w' h' => x_nilptr rfl) (⟨M192, Hp.le_refl M192, S.pick [0, 1, 2] (by decide)⟩) ?_
  refine Wa_take (i := 4) rfl (by kernel_rfl) rfl rfl (.pointer (some ⟨bo0, 0, none⟩)) rfl (fun w' h' => x_fieldAddr (o := 0) (off := 0) Try.underlying48 rfl ty46 rfl rfl) (⟨M192, Hp.le_refl M192, S.pick [0, 1, 2] (by decide)⟩) ?_
  refine Wa_take (i := 5) rfl (by kernel_rfl) rfl rfl (.slice A0_0 a0.L.length c0_0) rfl (fun w' h' => x_load (cls_blk h' 1 rfl) ty46 rfl rfl) (⟨M192, Hp.le_refl M192, S.pick [0, 1, 2] (by decide)⟩) ?_
  refine Wa_take (i := 6) rfl (by kernel_rfl) rfl rfl (.int .i64 x142) rfl (fun w' h' => x_move rfl) (⟨M192, Hp.le_refl M192, S.pick [0, 1, 2] (by decide)⟩) ?_
  obtain ⟨⟨p407, p408⟩, H⟩ := chkS H
  obtain ⟨hs410, hx411⟩ := sl_hi hf194 p407 p408
  have hs410z := hs410
  refine Wa_take (i := 7) rfl (by kernel_rfl) rfl rfl (.slice A0_0 (List.take x142.toNat a0.L).length c0_0) rfl (fun w' h' => hx411 Try.underlying46 ty64 rfl rfl) (⟨M192, Hp.le_refl M192, S.pick [0, 1, 2] (by decide)⟩) ?_
  refine Wa_take (i := 9) rfl (by kernel_rfl) rfl rfl (.agg #[.int .u8 a1.Kind, .int .u64 a1.ID]) rfl (fun w' h' => x_loadA (cls_blk h' 2 rfl) ty44 rfl (sub_of_extract rfl) rfl rfl) (⟨M192, Hp.le_refl M192, S.pick [0, 1, 2] (by decide)⟩) ?_
  refine Wa_take (i := 10) rfl (by kernel_rfl) rfl rfl (.int .i64 a2) rfl (fun w' h' => x_move rfl) (⟨M192, Hp.le_refl M192, S.pick [0, 1, 2] (by decide)⟩) ?_
  refine Wa_take (i := 11) rfl (by kernel_rfl) rfl rfl (.agg #[.int .u8 a1.Kind, .int .u64 a1.ID, .int .i64 a2]) rfl (fun w' h' => x_build2 (pl := [(0, 2), (2, 1)]) #[.int .u8 a1.Kind, .int .u64 a1.ID, .int .i64 a2] Try.underlying64 ty64 (by kernel_rfl) rfl (by kernel_rfl)) (⟨M192, Hp.le_refl M192, S.pick [0, 1, 2] (by decide)⟩) ?_
  refine Wa_take (i := 14) rfl (by kernel_rfl) rfl rfl (.slice A207 (([] : List ferrymanref05_Hold) ++ (List.drop x142.toNat a0.L)).length c208) rfl (fun w' h' => x_move rfl) (⟨M192, Hp.le_refl M192, S.pick [0, 1, 2] (by decide)⟩) ?_
  obtain ⟨o543, o543h, o543H⟩ := bindS H
  clear H
  refine Wa_join (fun ρ w' => ∃ (x463 : List ferrymanref05_Hold) (x467 : List ferrymanref05_Hold) (A464 : Option Addr) (c465 : Nat) (A468 : Option Addr) (c469 : Nat), (x463, x467) = o543 ∧ Agree ρ [(50, .pointer (some ⟨bo0, 0, none⟩)), (58, .slice A464 x463.length c465), (62, .slice A468 x467.length c469), (64, .slice A207 (([] : List ferrymanref05_Hold) ++ (List.drop x142.toNat a0.L)).length c208)] ∧ Ext w w' ∧ St w' M192 F [Row r_ferrymanref05_Hold 64 (.slice A468 x467.length c469) x467, Row r_ferrymanref05_Hold 64 (.slice A464 x463.length c465) x463, Row r_ferrymanref05_Hold 64 (.slice A207 (([] : List ferrymanref05_Hold) ++ (List.drop x142.toNat a0.L)).length c208) (([] : List ferrymanref05_Hold) ++ (List.drop x142.toNat a0.L)), Blk bo0 (.cells #[.slice A0_0 a0.L.length c0_0] 48 (0, 0)), Blk b1 (.cells #[.int .u8 a1.Kind, .int .u64 a1.ID] 44 (0, 0))]) 5 (Ls 19 [0, 1, 2, 3, 4, 5, 6, 7, 8, 9, 10, 11, 12, 14]) ?_ ?_
  rotate_left
  · intro hq549
    clear o543H
    refine Wa_join (fun ρ w' => ∃ (x447 : List ferrymanref05_Hold) (x451 : List ferrymanref05_Hold) (A448 : Option Addr) (c449 : Nat) (A452 : Option Addr) (c453 : Nat), (if x447.length + (List.take x142.toNat a0.L).length ≤ 5864062014805 then some ((x447 ++ (List.take x142.toNat a0.L)), x451) else none) = some o543 ∧ Agree ρ [(50, .pointer (some ⟨bo0, 0, none⟩)), (51, .slice A448 x447.length c449), (57, .slice A0_0 (List.take x142.toNat a0.L).length c0_0), (62, .slice A452 x451.length c453), (64, .slice A207 (([] : List ferrymanref05_Hold) ++ (List.drop x142.toNat a0.L)).length c208)] ∧ Ext w w' ∧ St w' M192 F [Row r_ferrymanref05_Hold 64 (.slice A452 x451.length c453) x451, Row r_ferrymanref05_Hold 64 (.slice A448 x447.length c449) x447, Row r_ferrymanref05_Hold 64 (.slice A207 (([] : List ferrymanref05_Hold) ++ (List.drop x142.toNat a0.L)).length c208) (([] : List ferrymanref05_Hold) ++ (List.drop x142.toNat a0.L)), Blk bo0 (.cells #[.slice A0_0 a0.L.length c0_0] 48 (0, 0)), Blk b1 (.cells #[.int .u8 a1.Kind, .int .u64 a1.ID] 44 (0, 0))]) 6 (Ls 19 [0, 1, 2, 3, 4, 5, 6, 7, 9, 10, 11, 12, 14]) ?_ ?_
    · clear o543h
      rintro ρ w550 ⟨x447, x451, A448, c449, A452, c453, H, hρ, E, S⟩
      rw [agree_eta hρ]
      clear hρ
      refine Wa_solo (i := 8) rfl (by kernel_rfl) ?_
      obtain ⟨p551, H⟩ := chkS H
      obtain ⟨src552, hs553, hC554⟩ := src_of_read (P := Try.prog) (ρ := r_ferrymanref05_Hold) (l := (List.take x142.toNat a0.L)) (SlR.world hs410 S) (by decide)
      refine W_append S 1 rfl rfl rfl Try.underlying46 (.inl Try.underlying46) ty64 rfl (by decide) (by decide) hs553 hC554 rfl (by omega) rfl ?_
      intro v555 w556 E' S
      replace E := E.trans E'
      clear E'
      obtain ⟨A557, c558, rfl, _⟩ := (S.row_read 1 rfl).form
      refine Wl_nil (on_n ⟨.inr ⟨M192, Hp.le_refl M192, S.pick [2, 3, 4] (by decide)⟩, ?_⟩)
      exact hq549 _ _ ⟨(x447 ++ (List.take x142.toNat a0.L)), x451, A557, c558, A452, c453, Option.some.inj H, ⟨rfl, rfl, rfl, rfl, trivial⟩, E, S.pick [0, 1, 2, 3, 4] (by decide)⟩
    intro hq548
    refine Wa_join (fun ρ w' => ∃ (x440 : List ferrymanref05_Hold) (A441 : Option Addr) (c442 : Nat), some (x440, ([(⟨⟨a1.Kind, a1.ID⟩, a2⟩ : ferrymanref05_Hold)] : List ferrymanref05_Hold)) = some o543 ∧ Agree ρ [(50, .pointer (some ⟨bo0, 0, none⟩)), (58, .slice A441 x440.length c442), (61, .agg #[.int .u8 a1.Kind, .int .u64 a1.ID, .int .i64 a2]), (64, .slice A207 (([] : List ferrymanref05_Hold) ++ (List.drop x142.toNat a0.L)).length c208)] ∧ Ext w w' ∧ St w' M192 F [Row r_ferrymanref05_Hold 64 (.slice A441 x440.length c442) x440, Row r_ferrymanref05_Hold 64 (.slice A207 (([] : List ferrymanref05_Hold) ++ (List.drop x142.toNat a0.L)).length c208) (([] : List ferrymanref05_Hold) ++ (List.drop x142.toNat a0.L)), Blk bo0 (.cells #[.slice A0_0 a0.L.length c0_0] 48 (0, 0)), Blk b1 (.cells #[.int .u8 a1.Kind, .int .u64 a1.ID] 44 (0, 0))]) 6 (Ls 19 [0, 1, 2, 3, 4, 5, 6, 7, 8, 9, 10, 11, 14]) ?_ ?_
    · clear o543h
      rintro ρ w559 ⟨x440, A441, c442, H, hρ, E, S⟩
      rw [agree_eta hρ]
      clear hρ
      refine Wa_solo (i := 12) rfl (by kernel_rfl) ?_
      refine W_bslice S #[.int .u8 a1.Kind, .int .u64 a1.ID, .int .i64 a2] Try.underlying46 ty64 rfl rfl #[.int .u8 0, .int .u64 0, .int .i64 0] (by kernel_rfl) (by kernel_rfl) rfl ?_
      intro b560 w561 E' S
      replace E := E.trans E'
      clear E'
      replace S := S.blk_row (r := r_ferrymanref05_Hold) (l := ([(⟨⟨a1.Kind, a1.ID⟩, a2⟩ : ferrymanref05_Hold)] : List ferrymanref05_Hold)) 0 rfl 1 (Nat.le_refl 1) rfl (Cells.cons (vs := [.int .u8 a1.Kind, .int .u64 a1.ID, .int .i64 a2]) (rfl) Cells.nil)
      refine Wl_nil (on_n ⟨.inr ⟨M192, Hp.le_refl M192, S.pick [2, 3, 4] (by decide)⟩, ?_⟩)
      exact hq549 _ _ ⟨x440, ([(⟨⟨a1.Kind, a1.ID⟩, a2⟩ : ferrymanref05_Hold)] : List ferrymanref05_Hold), A441, c442, (some ⟨b560, 0, none⟩), 1, Option.some.inj H, ⟨rfl, rfl, rfl, rfl, trivial⟩, E, S.pick [0, 1, 2, 3, 4] (by decide)⟩
    intro hq547
    refine Wa_join (fun ρ w' => ∃ (x433 : List ferrymanref05_Hold) (A434 : Option Addr) (c435 : Nat), (if ([] : List ferrymanref05_Hold).length + (List.take x142.toNat a0.L).length ≤ 5864062014805 then some ((([] : List ferrymanref05_Hold) ++ (List.take x142.toNat a0.L)), x433) else none) = some o543 ∧ Agree ρ [(50, .pointer (some ⟨bo0, 0, none⟩)), (57, .slice A0_0 (List.take x142.toNat a0.L).length c0_0), (62, .slice A434 x433.length c435), (64, .slice A207 (([] : List ferrymanref05_Hold) ++ (List.drop x142.toNat a0.L)).length c208)] ∧ Ext w w' ∧ St w' M192 F [Row r_ferrymanref05_Hold 64 (.slice A434 x433.length c435) x433, Row r_ferrymanref05_Hold 64 (.slice A207 (([] : List ferrymanref05_Hold) ++ (List.drop x142.toNat a0.L)).length c208) (([] : List ferrymanref05_Hold) ++ (List.drop x142.toNat a0.L)), Blk bo0 (.cells #[.slice A0_0 a0.L.length c0_0] 48 (0, 0)), Blk b1 (.cells #[.int .u8 a1.Kind, .int .u64 a1.ID] 44 (0, 0))]) 7 (Ls 19 [0, 2, 3, 4, 5, 6, 7, 9, 10, 11, 12, 14]) ?_ ?_
    · clear o543h
      rintro ρ w563 ⟨x433, A434, c435, H, hρ, E, S⟩
      rw [agree_eta hρ]
      clear hρ
      refine Wa_solo (i := 1) rfl (by kernel_rfl) ?_
      refine W_bslice S #[] Try.underlying46 ty64 rfl rfl #[] (by kernel_rfl) (by kernel_rfl) rfl ?_
      intro b564 w565 E' S
      replace E := E.trans E'
      clear E'
      replace S := S.blk_row (r := r_ferrymanref05_Hold) (l := ([] : List ferrymanref05_Hold)) 0 rfl 0 (Nat.le_refl 0) rfl Cells.nil
      refine Wl_nil (on_n ⟨.inr ⟨M192, Hp.le_refl M192, S.pick [2, 3, 4] (by decide)⟩, ?_⟩)
      exact hq548 _ _ ⟨([] : List ferrymanref05_Hold), x433, (some ⟨b564, 0, none⟩), 0, A434, c435, H, ⟨rfl, rfl, rfl, rfl, rfl, trivial⟩, E, S.pick [1, 0, 2, 3, 4] (by decide)⟩
    intro hq546
    refine Wa_join (fun ρ w' => ∃ (x418 : List ferrymanref05_Hold) (A419 : Option Addr) (c420 : Nat), (if x418.length + (List.take x142.toNat a0.L).length ≤ 5864062014805 then some ((x418 ++ (List.take x142.toNat a0.L)), ([(⟨⟨a1.Kind, a1.ID⟩, a2⟩ : ferrymanref05_Hold)] : List ferrymanref05_Hold)) else none) = some o543 ∧ Agree ρ [(50, .pointer (some ⟨bo0, 0, none⟩)), (51, .slice A419 x418.length c420), (57, .slice A0_0 (List.take x142.toNat a0.L).length c0_0), (61, .agg #[.int .u8 a1.Kind, .int .u64 a1.ID, .int .i64 a2]), (64, .slice A207 (([] : List ferrymanref05_Hold) ++ (List.drop x142.toNat a0.L)).length c208)] ∧ Ext w w' ∧ St w' M192 F [Row r_ferrymanref05_Hold 64 (.slice A419 x418.length c420) x418, Row r_ferrymanref05_Hold 64 (.slice A207 (([] : List ferrymanref05_Hold) ++ (List.drop x142.toNat a0.L)).length c208) (([] : List ferrymanref05_Hold) ++ (List.drop x142.toNat a0.L)), Blk bo0 (.cells #[.slice A0_0 a0.L.length c0_0] 48 (0, 0)), Blk b1 (.cells #[.int .u8 a1.Kind, .int .u64 a1.ID] 44 (0, 0))]) 7 (Ls 19 [0, 1, 2, 3, 4, 5, 6, 7, 9, 10, 11, 14]) ?_ ?_
    · clear o543h
      rintro ρ w567 ⟨x418, A419, c420, H, hρ, E, S⟩
      rw [agree_eta hρ]
      clear hρ
      refine Wa_oneOf (rs := [8, 12]) (by kernel_rfl) (by decide) ?_
      simp only [List.forall_mem_cons, List.not_mem_nil, false_implies, implies_true, and_true]
      refine ⟨?_, ?_⟩
      · refine ⟨_, rfl, ?_⟩
        obtain ⟨p568, H⟩ := chkS H
        obtain ⟨src569, hs570, hC571⟩ := src_of_read (P := Try.prog) (ρ := r_ferrymanref05_Hold) (l := (List.take x142.toNat a0.L)) (SlR.world hs410 S) (by decide)
        refine W_append S 0 rfl rfl rfl Try.underlying46 (.inl Try.underlying46) ty64 rfl (by decide) (by decide) hs570 hC571 rfl (by omega) rfl ?_
        intro v572 w573 E' S
        replace E := E.trans E'
        clear E'
        obtain ⟨A574, c575, rfl, _⟩ := (S.row_read 0 rfl).form
        refine Wl_nil (on_n ⟨.inr ⟨M192, Hp.le_refl M192, S.pick [1, 2, 3] (by decide)⟩, ?_⟩)
        exact hq547 _ _ ⟨(x418 ++ (List.take x142.toNat a0.L)), A574, c575, H, ⟨rfl, rfl, rfl, rfl, trivial⟩, E, S.pick [0, 1, 2, 3] (by decide)⟩
      · refine ⟨_, rfl, ?_⟩
        refine W_bslice S #[.int .u8 a1.Kind, .int .u64 a1.ID, .int .i64 a2] Try.underlying46 ty64 rfl rfl #[.int .u8 0, .int .u64 0, .int .i64 0] (by kernel_rfl) (by kernel_rfl) rfl ?_
        intro b576 w577 E' S
        replace E := E.trans E'
        clear E'
        replace S := S.blk_row (r := r_ferrymanref05_Hold) (l := ([(⟨⟨a1.Kind, a1.ID⟩, a2⟩ : ferrymanref05_Hold)] : List ferrymanref05_Hold)) 0 rfl 1 (Nat.le_refl 1) rfl (Cells.cons (vs := [.int .u8 a1.Kind, .int .u64 a1.ID, .int .i64 a2]) (rfl) Cells.nil)
        refine Wl_nil (on_n ⟨.inr ⟨M192, Hp.le_refl M192, S.pick [2, 3, 4] (by decide)⟩, ?_⟩)
        exact hq548 _ _ ⟨x418, ([(⟨⟨a1.Kind, a1.ID⟩, a2⟩ : ferrymanref05_Hold)] : List ferrymanref05_Hold), A419, c420, (some ⟨b576, 0, none⟩), 1, H, ⟨rfl, rfl, rfl, rfl, rfl, trivial⟩, E, S.pick [0, 1, 2, 3, 4] (by decide)⟩
    intro hq545
    have H := o543h
    refine Wa_oneOf (rs := [1, 12]) (by kernel_rfl) (by decide) ?_
    simp only [List.forall_mem_cons, List.not_mem_nil, false_implies, implies_true, and_true]
    refine ⟨?_, ?_⟩
    · refine ⟨_, rfl, ?_⟩
      refine W_bslice S #[] Try.underlying46 ty64 rfl rfl #[] (by kernel_rfl) (by kernel_rfl) rfl ?_
      intro b579 w580 E' S
      replace E := E.trans E'
      clear E'
      replace S := S.blk_row (r := r_ferrymanref05_Hold) (l := ([] : List ferrymanref05_Hold)) 0 rfl 0 (Nat.le_refl 0) rfl Cells.nil
      refine Wl_nil (on_n ⟨.inr ⟨M192, Hp.le_refl M192, S.pick [1, 2, 3] (by decide)⟩, ?_⟩)
      exact hq545 _ _ ⟨([] : List ferrymanref05_Hold), (some ⟨b579, 0, none⟩), 0, H, ⟨rfl, rfl, rfl, rfl, rfl, trivial⟩, E, S.pick [0, 1, 2, 3] (by decide)⟩
    · refine ⟨_, rfl, ?_⟩
      refine W_bslice S #[.int .u8 a1.Kind, .int .u64 a1.ID, .int .i64 a2] Try.underlying46 ty64 rfl rfl #[.int .u8 0, .int .u64 0, .int .i64 0] (by kernel_rfl) (by kernel_rfl) rfl ?_
      intro b582 w583 E' S
      replace E := E.trans E'
      clear E'
      replace S := S.blk_row (r := r_ferrymanref05_Hold) (l := ([(⟨⟨a1.Kind, a1.ID⟩, a2⟩ : ferrymanref05_Hold)] : List ferrymanref05_Hold)) 0 rfl 1 (Nat.le_refl 1) rfl (Cells.cons (vs := [.int .u8 a1.Kind, .int .u64 a1.ID, .int .i64 a2]) (rfl) Cells.nil)
      refine Wl_nil (on_n ⟨.inr ⟨M192, Hp.le_refl M192, S.pick [1, 2, 3] (by decide)⟩, ?_⟩)
      exact hq546 _ _ ⟨([(⟨⟨a1.Kind, a1.ID⟩, a2⟩ : ferrymanref05_Hold)] : List ferrymanref05_Hold), (some ⟨b582, 0, none⟩), 1, H, ⟨rfl, rfl, rfl, rfl, trivial⟩, E, S.pick [0, 1, 2, 3] (by decide)⟩
  clear o543h
  rintro ρ w585 ⟨x463, x467, A464, c465, A468, c469, rfl, hρ, E, S⟩
  rw [agree_eta hρ]
  clear hρ
  have H := o543H
  clear o543H
  refine Wa_solo (i := 13) rfl (by kernel_rfl) ?_
  obtain ⟨p586, H⟩ := chkS H
  obtain ⟨src587, hs588, hC589⟩ := src_of_read (P := Try.prog) (ρ := r_ferrymanref05_Hold) (l := x467) (S.row_read 0 rfl) (by decide)
  refine W_append S 1 rfl rfl rfl Try.underlying46 (.inl Try.underlying46) ty64 rfl (by decide) (by decide) hs588 hC589 rfl (by omega) rfl ?_
  intro v590 w591 E' S
  replace E := E.trans E'
  clear E'
  obtain ⟨A592, c593, rfl, _⟩ := (S.row_read 1 rfl).form
  refine Wl_nil (on_n ⟨.inr ⟨M192, Hp.le_refl M192, S.pick [2, 3, 4] (by decide)⟩, ?_⟩)
  refine Wa_solo (i := 15) rfl (by kernel_rfl) ?_
  obtain ⟨p594, H⟩ := chkS H
  obtain ⟨src595, hs596, hC597⟩ := src_of_read (P := Try.prog) (ρ := r_ferrymanref05_Hold) (l := (([] : List ferrymanref05_Hold) ++ (List.drop x142.toNat a0.L))) (S.row_read 2 rfl) (by decide)
  refine W_append S 1 rfl rfl rfl Try.underlying46 (.inl Try.underlying46) ty64 rfl (by decide) (by decide) hs596 hC597 rfl (by omega) rfl ?_
  intro v598 w599 E' S
  replace E := E.trans E'
  clear E'
  obtain ⟨A600, c601, rfl, _⟩ := (S.row_read 1 rfl).form
  refine Wl_nil (on_n ⟨.inr ⟨M192, Hp.le_refl M192, S.pick [2, 3, 4] (by decide)⟩, ?_⟩)
  refine Wa_take (i := 16) rfl (by kernel_rfl) rfl rfl (.pointer (some ⟨bo0, 0, none⟩)) rfl (fun w' h' => x_nilptr rfl) (⟨M192, Hp.le_refl M192, S.pick [2, 3, 4] (by decide)⟩) ?_
  refine Wa_take (i := 17) rfl (by kernel_rfl) rfl rfl (.pointer (some ⟨bo0, 0, none⟩)) rfl (fun w' h' => x_fieldAddr (o := 0) (off := 0) Try.underlying48 rfl ty46 rfl rfl) (⟨M192, Hp.le_refl M192, S.pick [2, 3, 4] (by decide)⟩) ?_
  refine Wa_solo (i := 18) rfl (by kernel_rfl) ?_
  refine W_store S 3 rfl ty46 rfl rfl [.slice A600 ((x463 ++ x467) ++ (([] : List ferrymanref05_Hold) ++ (List.drop x142.toNat a0.L))).length c601] rfl rfl rfl #[.slice A600 ((x463 ++ x467) ++ (([] : List ferrymanref05_Hold) ++ (List.drop x142.toNat a0.L))).length c601] rfl rfl ?_
  intro w602 E' S
  replace E := E.trans E'
  clear E'
  refine Wl_nil (on_n ⟨.inl rfl, ?_⟩)
  refine Wa_done (by kernel_rfl) ?_
  refine tn ?_
  refine Wp_seq ?_
  refine Wp_region_lit ?_
  refine W_v (.bool true) (x_assign rfl) rfl ?_
  refine Wl_nil ?_
  refine tn ?_
  refine Wp_ret ?_
  obtain rfl := Option.some.inj H
  exact ⟨_, _, _, fun w1 e1 => run_resR (vs := [.bool true]) (FA.cons (rfl) (FA.nil)), HM, E, S.pick [3, 1] (by decide), ⟨A600, c601, rfl, rfl⟩⟩
end Go.Proofs.Ytgnbccjpgoeplaa
