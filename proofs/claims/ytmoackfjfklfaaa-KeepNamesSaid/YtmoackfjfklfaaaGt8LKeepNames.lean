import Derived.Test.YtmoackfjfklfaaaGt8
namespace Go.Proofs.Ytmoackfjfklfaaa
open Go
set_option linter.unusedVariables false
set_option linter.unusedSimpArgs false
/-! ### ferryman/ferrymanlaw11.KeepNames: function 7 -/
def ferrymanlaw11_KeepNames_l0 : Nat → Int → Option ((Bool) ⊕ (Unit))
  | 0, _ => none
  | k + 1, x134 => (if (decide (x134 < (([([(⟨(0 : Int), (0 : Int), false, ([] : Str)⟩ : api_Version)] : List api_Version), ([(⟨(0 : Int), (-1 : Int), false, ([] : Str)⟩ : api_Version)] : List api_Version), ([(⟨(0 : Int), (2 : Int), false, ([] : Str)⟩ : api_Version), (⟨(0 : Int), (2 : Int), false, ([] : Str)⟩ : api_Version)] : List api_Version), ([(⟨(0 : Int), (2 : Int), false, ([] : Str)⟩ : api_Version), (⟨(0 : Int), (3 : Int), false, ([] : Str)⟩ : api_Version)] : List api_Version), ([(⟨(0 : Int), (3 : Int), false, ([] : Str)⟩ : api_Version), (⟨(0 : Int), (2 : Int), false, ([] : Str)⟩ : api_Version), (⟨(0 : Int), (0 : Int), false, ([] : Str)⟩ : api_Version)] : List api_Version)] : List (List api_Version)).length : Int))) = true then (if 0 ≤ x134 ∧ x134 < (([([(⟨(0 : Int), (0 : Int), false, ([] : Str)⟩ : api_Version)] : List api_Version), ([(⟨(0 : Int), (-1 : Int), false, ([] : Str)⟩ : api_Version)] : List api_Version), ([(⟨(0 : Int), (2 : Int), false, ([] : Str)⟩ : api_Version), (⟨(0 : Int), (2 : Int), false, ([] : Str)⟩ : api_Version)] : List api_Version), ([(⟨(0 : Int), (2 : Int), false, ([] : Str)⟩ : api_Version), (⟨(0 : Int), (3 : Int), false, ([] : Str)⟩ : api_Version)] : List api_Version), ([(⟨(0 : Int), (3 : Int), false, ([] : Str)⟩ : api_Version), (⟨(0 : Int), (2 : Int), false, ([] : Str)⟩ : api_Version), (⟨(0 : Int), (0 : Int), false, ([] : Str)⟩ : api_Version)] : List api_Version)] : List (List api_Version)).length : Int) then (Option.bind (keep_Legal k (rd ([([(⟨(0 : Int), (0 : Int), false, ([] : Str)⟩ : api_Version)] : List api_Version), ([(⟨(0 : Int), (-1 : Int), false, ([] : Str)⟩ : api_Version)] : List api_Version), ([(⟨(0 : Int), (2 : Int), false, ([] : Str)⟩ : api_Version), (⟨(0 : Int), (2 : Int), false, ([] : Str)⟩ : api_Version)] : List api_Version), ([(⟨(0 : Int), (2 : Int), false, ([] : Str)⟩ : api_Version), (⟨(0 : Int), (3 : Int), false, ([] : Str)⟩ : api_Version)] : List api_Version), ([(⟨(0 : Int), (3 : Int), false, ([] : Str)⟩ : api_Version), (⟨(0 : Int), (2 : Int), false, ([] : Str)⟩ : api_Version), (⟨(0 : Int), (0 : Int), false, ([] : Str)⟩ : api_Version)] : List api_Version)] : List (List api_Version)) x134)) (fun t171 => (if t171 = true then some (.inl false) else ferrymanlaw11_KeepNames_l0 k (IntKind.i64.wrap (x134 + (1 : Int)))))) else none) else some (.inr ()))
set_option maxHeartbeats 2000000 in
theorem ferrymanlaw11_KeepNames_l0.mono  : ∀ {k : Nat} {x0}, OLe (ferrymanlaw11_KeepNames_l0  k x0) (ferrymanlaw11_KeepNames_l0  (k + 1) x0) := by
  intro k
  induction k with
  | zero => intros; exact OLe.none
  | succ k ih =>
    intros
    rw [ferrymanlaw11_KeepNames_l0.eq_2, ferrymanlaw11_KeepNames_l0.eq_2]
    repeat' (first | exact OLe.none | exact OLe.some | exact keep_Legal.mono | exact ih | refine OLe.bind ?_ (fun _ => ?_) | refine OLe.ite ?_ ?_ | refine OLe.elim (fun _ => ?_) (fun _ => ?_) | split)
def ferrymanlaw11_KeepNames (k : Nat)  : Option (Bool) :=
  (Option.bind (ferrymanlaw11_awake k ) (fun t1 => (Option.bind (α := Bool) (if (!t1) = true then some (true) else (Option.bind (ferrymanlaw11_some k ) (fun t32 => (Option.bind (keep_Legal k t32) (fun t41 => some ((!t41))))))) (fun x29 => (Option.bind (α := Bool) (if x29 = true then some (true) else (Option.bind (keep_Legal k ([] : (List api_Version))) (fun t56 => some ((!t56))))) (fun x54 => (if x54 = true then some false else (Option.bind (ferrymanlaw11_KeepNames_l0 k (0 : Int)) (fun o154o => Sum.elim (fun r' => some r') (fun _ => (Option.bind (keep_Seen k ([] : (List api_Version)) (9223372036854775807 : Int)) (fun t176 => (Option.bind (ferrymanlaw11_some k ) (fun t183 => (Option.bind (keep_Seen k t183 (9223372036854775807 : Int)) (fun t192 => (Option.bind (ferrymanlaw11_some k ) (fun t199 => (Option.bind (keep_Seen k ([(⟨(0 : Int), (3 : Int), false, ([120] : Str)⟩ : api_Version), (⟨(0 : Int), (7 : Int), false, ([121] : Str)⟩ : api_Version)] : List api_Version) (5 : Int)) (fun t211 => (Option.bind (α := Bool) (if ((!t176.2) && t192.2) = true then (if 0 ≤ (0 : Int) ∧ (0 : Int) < (t199.length : Int) then some (((t192.1.Writer == (rd t199 (0 : Int)).Writer) && ((t192.1.TS == (rd t199 (0 : Int)).TS) && ((t192.1.Tomb == (rd t199 (0 : Int)).Tomb) && (t192.1.Value == (rd t199 (0 : Int)).Value))))) else none) else some (false)) (fun x828 => (Option.bind (α := Bool) (if x828 = true then (Option.bind (keep_Kept k ([] : (List api_Version)) (5 : Int)) (fun t1088 => some (((t1088.length : Int) == (0 : Int))))) else some (false)) (fun x838 => (Option.bind (α := Bool) (if x838 = true then (Option.bind (keep_Clash k ([] : (List api_Version)) (-5 : Int)) (fun t1085 => some ((!t1085)))) else some (false)) (fun x845 => (Option.bind (α := Bool) (if x845 = true then (Option.bind (keep_Clash k t199 (-9223372036854775807 : Int)) (fun t1082 => some (t1082))) else some (false)) (fun x852 => (Option.bind (α := Bool) (if x852 = true then (Option.bind (keep_Clash k t199 (9223372036854775807 : Int)) (fun t1079 => some ((!t1079)))) else some (false)) (fun x859 => (Option.bind (α := Bool) (if (x859 && t211.2) = true then (if 0 ≤ (0 : Int) ∧ (0 : Int) < (([(⟨(0 : Int), (3 : Int), false, ([120] : Str)⟩ : api_Version), (⟨(0 : Int), (7 : Int), false, ([121] : Str)⟩ : api_Version)] : List api_Version).length : Int) then some (((t211.1.Writer == (rd ([(⟨(0 : Int), (3 : Int), false, ([120] : Str)⟩ : api_Version), (⟨(0 : Int), (7 : Int), false, ([121] : Str)⟩ : api_Version)] : List api_Version) (0 : Int)).Writer) && ((t211.1.TS == (rd ([(⟨(0 : Int), (3 : Int), false, ([120] : Str)⟩ : api_Version), (⟨(0 : Int), (7 : Int), false, ([121] : Str)⟩ : api_Version)] : List api_Version) (0 : Int)).TS) && ((t211.1.Tomb == (rd ([(⟨(0 : Int), (3 : Int), false, ([120] : Str)⟩ : api_Version), (⟨(0 : Int), (7 : Int), false, ([121] : Str)⟩ : api_Version)] : List api_Version) (0 : Int)).Tomb) && (t211.1.Value == (rd ([(⟨(0 : Int), (3 : Int), false, ([120] : Str)⟩ : api_Version), (⟨(0 : Int), (7 : Int), false, ([121] : Str)⟩ : api_Version)] : List api_Version) (0 : Int)).Value))))) else none) else some (false)) (fun x874 => (Option.bind (α := Bool) (if x874 = true then (if 0 ≤ (1 : Int) ∧ (1 : Int) ≤ (([(⟨(0 : Int), (3 : Int), false, ([120] : Str)⟩ : api_Version), (⟨(0 : Int), (7 : Int), false, ([121] : Str)⟩ : api_Version)] : List api_Version).length : Int) then (Option.bind (keep_Kept k ([(⟨(0 : Int), (3 : Int), false, ([120] : Str)⟩ : api_Version), (⟨(0 : Int), (7 : Int), false, ([121] : Str)⟩ : api_Version)] : List api_Version) (5 : Int)) (fun t1057 => (Option.bind (ferrymanref11_Same k t1057 (List.take (1 : Int).toNat ([(⟨(0 : Int), (3 : Int), false, ([120] : Str)⟩ : api_Version), (⟨(0 : Int), (7 : Int), false, ([121] : Str)⟩ : api_Version)] : List api_Version))) (fun t1066 => some (t1066))))) else none) else some (false)) (fun x895 => (Option.bind (α := Bool) (if x895 = true then (Option.bind (keep_Kept k ([(⟨(0 : Int), (3 : Int), false, ([120] : Str)⟩ : api_Version), (⟨(0 : Int), (7 : Int), false, ([121] : Str)⟩ : api_Version)] : List api_Version) (2 : Int)) (fun t1040 => (Option.bind (ferrymanref11_Same k t1040 ([(⟨(0 : Int), (3 : Int), false, ([120] : Str)⟩ : api_Version), (⟨(0 : Int), (7 : Int), false, ([121] : Str)⟩ : api_Version)] : List api_Version)) (fun t1049 => some (t1049))))) else some (false)) (fun x913 => (Option.bind (α := Bool) (if x913 = true then (Option.bind (keep_Kept k t199 (-9223372036854775808 : Int)) (fun t1027 => (Option.bind (ferrymanref11_Same k t1027 t199) (fun t1036 => some (t1036))))) else some (false)) (fun x931 => (Option.bind (α := Bool) (if x931 = true then (if 0 ≤ (3 : Int) ∧ (3 : Int) ≤ (t199.length : Int) then (Option.bind (keep_Same k t199 (List.take (3 : Int).toNat t199)) (fun t1023 => some ((!t1023)))) else none) else some (false)) (fun x945 => (Option.bind (α := Bool) (if x945 = true then (if 0 ≤ (1 : Int) ∧ (1 : Int) ≤ (t199.length : Int) then (Option.bind (keep_Same k (List.take (1 : Int).toNat t199) ([(⟨(4 : Int), (9 : Int), false, ([99] : Str)⟩ : api_Version)] : List api_Version)) (fun t1015 => some ((!t1015)))) else none) else some (false)) (fun x963 => (Option.bind (α := Bool) (if x963 = true then (if 0 ≤ (1 : Int) ∧ (1 : Int) ≤ (t199.length : Int) then (Option.bind (keep_Same k (List.take (1 : Int).toNat t199) ([(⟨(5 : Int), (9 : Int), false, ([98] : Str)⟩ : api_Version)] : List api_Version)) (fun t1000 => some ((!t1000)))) else none) else some (false)) (fun x983 => some x983))))))))))))))))))))))))))))))))))) o154o)))))))))
set_option maxHeartbeats 2000000 in
theorem ferrymanlaw11_KeepNames.mono {k : Nat}  : OLe (ferrymanlaw11_KeepNames k ) (ferrymanlaw11_KeepNames (k + 1) ) := by
  unfold ferrymanlaw11_KeepNames
  repeat' (first | exact OLe.none | exact OLe.some | exact ferrymanlaw11_KeepNames_l0.mono | exact ferrymanlaw11_awake.mono | exact ferrymanlaw11_some.mono | exact ferrymanref11_Same.mono | exact keep_Clash.mono | exact keep_Kept.mono | exact keep_Legal.mono | exact keep_Same.mono | exact keep_Seen.mono | refine OLe.bind ?_ (fun _ => ?_) | refine OLe.ite ?_ ?_ | refine OLe.elim (fun _ => ?_) (fun _ => ?_) | split)
set_option maxHeartbeats 4000000 in
set_option maxRecDepth 100000 in
theorem ferrymanlaw11_KeepNames.con (k : Nat) (M : Hp)  (r : Bool)  (h : ferrymanlaw11_KeepNames k  = some r) : Con Try.prog 7 #[] M [] (fun v M' Γ' => v = .bool r ∧ Γ' = []) := by
  refine con_of_wp Try.func7 rfl Try.ntmps7 Try.results7 rfl ?_
  intro w F rn S hrn
  have E := Ext.refl w
  have HM := Hp.le_refl M
  have H := h
  unfold ferrymanlaw11_KeepNames at H
  refine Wp_seq ?_
  refine Wp_region_lit ?_
  refine W_v (.bool false) (x_assign rfl) rfl ?_
  refine Wl_nil ?_
  refine tn ?_
  refine Wp_seq ?_
  refine Wp_seq ?_
  refine Wp_region_lit ?_
  obtain ⟨t1, ht2, H⟩ := bindS H
  refine W_callF fn10 (ferrymanlaw11_awake.con k M  t1  ht2) S rfl rfl (by rintro _ _ _ ⟨_, rfl⟩; exact flat_nil) ?_
  rintro _ w3 _ Γ' E' S ⟨rfl, rfl⟩
  replace E := E.trans E'
  clear E'
  refine W_v (.bool (!t1)) (x_not rfl) rfl ?_
  refine W_v (.bool (!t1)) (x_move rfl) rfl ?_
  obtain ⟨o30, o30h, o30H⟩ := bindS H
  clear H
  refine Wl_cutN 4 (fun ρ w' => ∃ (x29 : Bool) (Mj : Hp), (x29) = o30 ∧ Agree ρ [(17, .bool x29)] ∧ M.le Mj ∧ Ext w w' ∧ St w' Mj F []) ?_ ?_
  · have H := o30h
    have LE31 := Hp.le_refl M
    rcases iteS H with ⟨hb28, H⟩ | ⟨hb28, H⟩
    · skip
      refine W_no (skF hb28) rfl ?_
      refine W_no (skF hb28) rfl ?_
      refine W_no (skF hb28) rfl ?_
      refine W_v (.bool true) (x_pick (k := true) (congrArg Value.bool hb28) rfl) rfl ?_
      refine Wl_nil ?_
      exact ⟨true, M, Option.some.inj H, ⟨rfl, trivial⟩, (Hp.le_refl M), E, S.pick [] (by decide)⟩
    · skip
      refine W_yes (congrArg some hb28) ?_
      obtain ⟨t32, ht33, H⟩ := bindS H
      refine W_callF fn16 (ferrymanlaw11_some.con k M  t32  ht33) S rfl rfl (by rintro _ _ _ ⟨_, _, _, rfl⟩; exact (flat_cons (flat_row (fun _ _ _ _ h => h)) flat_nil)) ?_
      rintro _ w37 _ Γ' E' S ⟨A34, c35, rfl, rfl⟩
      replace E := E.trans E'
      clear E'
      refine W_yes (congrArg some hb28) ?_
      obtain ⟨M38, hM39, hf40, S⟩ := S.row_freeze 0 rfl
      replace HM := Hp.le_trans HM hM39
      replace LE31 := Hp.le_trans LE31 hM39
      obtain ⟨t41, ht42, H⟩ := bindS H
      refine W_callF fn14 (keep_Legal.con k M38 A34 c35 t32 t41 hf40 ht42) S rfl rfl (by rintro _ _ _ ⟨_, rfl⟩; exact flat_nil) ?_
      rintro _ w43 _ Γ' E' S ⟨rfl, rfl⟩
      replace E := E.trans E'
      clear E'
      refine W_yes (congrArg some hb28) ?_
      refine W_v (.bool (!t41)) (x_not rfl) rfl ?_
      refine W_v (.bool (!t41)) (x_pick (k := false) (congrArg Value.bool hb28) rfl) rfl ?_
      refine Wl_nil ?_
      exact ⟨(!t41), M38, Option.some.inj H, ⟨rfl, trivial⟩, LE31, E, S.pick [] (by decide)⟩
  · clear o30h
    rintro ρ w44 ⟨x29, M45, rfl, hρ, hM46, E, S⟩
    rw [agree_eta hρ]
    clear hρ
    replace HM := Hp.le_trans HM hM46
    have H := o30H
    clear o30H
    refine W_v (.bool x29) (x_move rfl) rfl ?_
    obtain ⟨o55, o55h, o55H⟩ := bindS H
    clear H
    refine Wl_cutN 3 (fun ρ w' => ∃ (x54 : Bool), (x54) = o55 ∧ Agree ρ [(21, .bool x54)] ∧ Ext w w' ∧ St w' M45 F []) ?_ ?_
    · have H := o55h
      rcases iteS H with ⟨hb53, H⟩ | ⟨hb53, H⟩
      · skip
        refine W_no (skF hb53) rfl ?_
        refine W_no (skF hb53) rfl ?_
        refine W_v (.bool true) (x_pick (k := true) (congrArg Value.bool hb53) rfl) rfl ?_
        refine Wl_nil ?_
        exact ⟨true, Option.some.inj H, ⟨rfl, trivial⟩, E, S.pick [] (by decide)⟩
      · skip
        refine W_yes (congrArg some hb53) ?_
        obtain ⟨t56, ht57, H⟩ := bindS H
        refine W_callF fn14 (keep_Legal.con k M45 none 0 ([] : (List api_Version)) t56 (SlW.nil _ _) ht57) S rfl rfl (by rintro _ _ _ ⟨_, rfl⟩; exact flat_nil) ?_
        rintro _ w58 _ Γ' E' S ⟨rfl, rfl⟩
        replace E := E.trans E'
        clear E'
        refine W_yes (congrArg some hb53) ?_
        refine W_v (.bool (!t56)) (x_not rfl) rfl ?_
        refine W_v (.bool (!t56)) (x_pick (k := false) (congrArg Value.bool hb53) rfl) rfl ?_
        refine Wl_nil ?_
        exact ⟨(!t56), Option.some.inj H, ⟨rfl, trivial⟩, E, S.pick [] (by decide)⟩
    · clear o55h
      rintro ρ w59 ⟨x54, rfl, hρ, E, S⟩
      rw [agree_eta hρ]
      clear hρ
      have H := o55H
      clear o55H
      refine Wl_nil ?_
      refine tn ?_
      rcases iteS H with ⟨hb60, H⟩ | ⟨hb60, H⟩
      · refine Wp_cond_true (congrArg Value.bool hb60) ?_
        refine Wp_seq ?_
        refine Wp_region_lit ?_
        refine W_v (.bool false) (x_assign rfl) rfl ?_
        refine Wl_nil ?_
        refine tn ?_
        refine Wp_ret ?_
        refine tr (?_)
        obtain rfl := Option.some.inj H
        exact ⟨_, _, _, fun w1 e1 => run_resR (vs := [.bool false]) (FA.cons (rfl) (FA.nil)), HM, E, S.pick [] (by decide), ⟨rfl, rfl⟩⟩
      · refine Wp_cond_false (congrArg Value.bool hb60) ?_
        refine Wp_skip ?_
        refine tn ?_
        refine Wp_seq ?_
        refine Wp_seq ?_
        refine Wp_region_lit ?_
        refine W_v (.agg #[.int .i64 0, .int .i64 0, .bool false, .string (bs ([] : Str))]) (x_build #[.int .i64 0, .int .i64 0, .bool false, .string (bs ([] : Str))] Try.underlying27 ty27 (by simp [IsTy.sizeOf ty3, IsTy.sizeOf ty4, IsTy.sizeOf ty9]; rfl) rfl rfl) rfl ?_
        refine W_bslice S #[.int .i64 0, .int .i64 0, .bool false, .string (bs ([] : Str))] Try.underlying22 ty27 rfl rfl #[.int .i64 0, .int .i64 0, .bool false, .string (bs ([] : Str))] (by kernel_rfl) (by kernel_rfl) rfl ?_
        intro b61 w62 E' S
        replace E := E.trans E'
        clear E'
        replace S := S.blk_row (r := r_api_Version) (l := ([(⟨(0 : Int), (0 : Int), false, ([] : Str)⟩ : api_Version)] : List api_Version)) 0 rfl 1 (Nat.le_refl 1) rfl (Cells.cons (vs := [.int .i64 0, .int .i64 0, .bool false, .string (bs ([] : Str))]) (rfl) Cells.nil)
        refine W_v (.agg #[.int .i64 0, .int .i64 (-1), .bool false, .string (bs ([] : Str))]) (x_build #[.int .i64 0, .int .i64 (-1), .bool false, .string (bs ([] : Str))] Try.underlying27 ty27 (by simp [IsTy.sizeOf ty3, IsTy.sizeOf ty4, IsTy.sizeOf ty9]; rfl) rfl rfl) rfl ?_
        refine W_bslice S #[.int .i64 0, .int .i64 (-1), .bool false, .string (bs ([] : Str))] Try.underlying22 ty27 rfl rfl #[.int .i64 0, .int .i64 0, .bool false, .string (bs ([] : Str))] (by kernel_rfl) (by kernel_rfl) rfl ?_
        intro b64 w65 E' S
        replace E := E.trans E'
        clear E'
        replace S := S.blk_row (r := r_api_Version) (l := ([(⟨(0 : Int), (-1 : Int), false, ([] : Str)⟩ : api_Version)] : List api_Version)) 0 rfl 1 (Nat.le_refl 1) rfl (Cells.cons (vs := [.int .i64 0, .int .i64 (-1), .bool false, .string (bs ([] : Str))]) (rfl) Cells.nil)
        refine W_v (.agg #[.int .i64 0, .int .i64 2, .bool false, .string (bs ([] : Str))]) (x_build #[.int .i64 0, .int .i64 2, .bool false, .string (bs ([] : Str))] Try.underlying27 ty27 (by simp [IsTy.sizeOf ty3, IsTy.sizeOf ty4, IsTy.sizeOf ty9]; rfl) rfl rfl) rfl ?_
        refine W_v (.agg #[.int .i64 0, .int .i64 2, .bool false, .string (bs ([] : Str))]) (x_build #[.int .i64 0, .int .i64 2, .bool false, .string (bs ([] : Str))] Try.underlying27 ty27 (by simp [IsTy.sizeOf ty3, IsTy.sizeOf ty4, IsTy.sizeOf ty9]; rfl) rfl rfl) rfl ?_
        refine W_bslice S #[.int .i64 0, .int .i64 2, .bool false, .string (bs ([] : Str)), .int .i64 0, .int .i64 2, .bool false, .string (bs ([] : Str))] Try.underlying22 ty27 rfl rfl #[.int .i64 0, .int .i64 0, .bool false, .string (bs ([] : Str)), .int .i64 0, .int .i64 0, .bool false, .string (bs ([] : Str))] (by kernel_rfl) (by kernel_rfl) rfl ?_
        intro b67 w68 E' S
        replace E := E.trans E'
        clear E'
        replace S := S.blk_row (r := r_api_Version) (l := ([(⟨(0 : Int), (2 : Int), false, ([] : Str)⟩ : api_Version), (⟨(0 : Int), (2 : Int), false, ([] : Str)⟩ : api_Version)] : List api_Version)) 0 rfl 2 (Nat.le_refl 2) rfl (Cells.cons (vs := [.int .i64 0, .int .i64 2, .bool false, .string (bs ([] : Str))]) (rfl) (Cells.cons (vs := [.int .i64 0, .int .i64 2, .bool false, .string (bs ([] : Str))]) (rfl) Cells.nil))
        refine W_v (.agg #[.int .i64 0, .int .i64 2, .bool false, .string (bs ([] : Str))]) (x_build #[.int .i64 0, .int .i64 2, .bool false, .string (bs ([] : Str))] Try.underlying27 ty27 (by simp [IsTy.sizeOf ty3, IsTy.sizeOf ty4, IsTy.sizeOf ty9]; rfl) rfl rfl) rfl ?_
        refine W_v (.agg #[.int .i64 0, .int .i64 3, .bool false, .string (bs ([] : Str))]) (x_build #[.int .i64 0, .int .i64 3, .bool false, .string (bs ([] : Str))] Try.underlying27 ty27 (by simp [IsTy.sizeOf ty3, IsTy.sizeOf ty4, IsTy.sizeOf ty9]; rfl) rfl rfl) rfl ?_
        refine W_bslice S #[.int .i64 0, .int .i64 2, .bool false, .string (bs ([] : Str)), .int .i64 0, .int .i64 3, .bool false, .string (bs ([] : Str))] Try.underlying22 ty27 rfl rfl #[.int .i64 0, .int .i64 0, .bool false, .string (bs ([] : Str)), .int .i64 0, .int .i64 0, .bool false, .string (bs ([] : Str))] (by kernel_rfl) (by kernel_rfl) rfl ?_
        intro b70 w71 E' S
        replace E := E.trans E'
        clear E'
        replace S := S.blk_row (r := r_api_Version) (l := ([(⟨(0 : Int), (2 : Int), false, ([] : Str)⟩ : api_Version), (⟨(0 : Int), (3 : Int), false, ([] : Str)⟩ : api_Version)] : List api_Version)) 0 rfl 2 (Nat.le_refl 2) rfl (Cells.cons (vs := [.int .i64 0, .int .i64 2, .bool false, .string (bs ([] : Str))]) (rfl) (Cells.cons (vs := [.int .i64 0, .int .i64 3, .bool false, .string (bs ([] : Str))]) (rfl) Cells.nil))
        refine W_v (.agg #[.int .i64 0, .int .i64 3, .bool false, .string (bs ([] : Str))]) (x_build #[.int .i64 0, .int .i64 3, .bool false, .string (bs ([] : Str))] Try.underlying27 ty27 (by simp [IsTy.sizeOf ty3, IsTy.sizeOf ty4, IsTy.sizeOf ty9]; rfl) rfl rfl) rfl ?_
        refine W_v (.agg #[.int .i64 0, .int .i64 2, .bool false, .string (bs ([] : Str))]) (x_build #[.int .i64 0, .int .i64 2, .bool false, .string (bs ([] : Str))] Try.underlying27 ty27 (by simp [IsTy.sizeOf ty3, IsTy.sizeOf ty4, IsTy.sizeOf ty9]; rfl) rfl rfl) rfl ?_
        refine W_v (.agg #[.int .i64 0, .int .i64 0, .bool false, .string (bs ([] : Str))]) (x_build #[.int .i64 0, .int .i64 0, .bool false, .string (bs ([] : Str))] Try.underlying27 ty27 (by simp [IsTy.sizeOf ty3, IsTy.sizeOf ty4, IsTy.sizeOf ty9]; rfl) rfl rfl) rfl ?_
        refine W_bslice S #[.int .i64 0, .int .i64 3, .bool false, .string (bs ([] : Str)), .int .i64 0, .int .i64 2, .bool false, .string (bs ([] : Str)), .int .i64 0, .int .i64 0, .bool false, .string (bs ([] : Str))] Try.underlying22 ty27 rfl rfl #[.int .i64 0, .int .i64 0, .bool false, .string (bs ([] : Str)), .int .i64 0, .int .i64 0, .bool false, .string (bs ([] : Str)), .int .i64 0, .int .i64 0, .bool false, .string (bs ([] : Str))] (by kernel_rfl) (by kernel_rfl) rfl ?_
        intro b73 w74 E' S
        replace E := E.trans E'
        clear E'
        replace S := S.blk_row (r := r_api_Version) (l := ([(⟨(0 : Int), (3 : Int), false, ([] : Str)⟩ : api_Version), (⟨(0 : Int), (2 : Int), false, ([] : Str)⟩ : api_Version), (⟨(0 : Int), (0 : Int), false, ([] : Str)⟩ : api_Version)] : List api_Version)) 0 rfl 3 (Nat.le_refl 3) rfl (Cells.cons (vs := [.int .i64 0, .int .i64 3, .bool false, .string (bs ([] : Str))]) (rfl) (Cells.cons (vs := [.int .i64 0, .int .i64 2, .bool false, .string (bs ([] : Str))]) (rfl) (Cells.cons (vs := [.int .i64 0, .int .i64 0, .bool false, .string (bs ([] : Str))]) (rfl) Cells.nil)))
        obtain ⟨M76, hM77, hf78, S⟩ := S.row_freeze 4 rfl
        replace HM := Hp.le_trans HM hM77
        replace hM46 := Hp.le_trans hM46 hM77
        obtain ⟨M79, hM80, hf81, S⟩ := S.row_freeze 3 rfl
        replace HM := Hp.le_trans HM hM80
        replace hM46 := Hp.le_trans hM46 hM80
        replace hf78 := SlR.mono hf78 hM80
        obtain ⟨M82, hM83, hf84, S⟩ := S.row_freeze 2 rfl
        replace HM := Hp.le_trans HM hM83
        replace hM46 := Hp.le_trans hM46 hM83
        replace hf78 := SlR.mono hf78 hM83
        replace hf81 := SlR.mono hf81 hM83
        obtain ⟨M85, hM86, hf87, S⟩ := S.row_freeze 1 rfl
        replace HM := Hp.le_trans HM hM86
        replace hM46 := Hp.le_trans hM46 hM86
        replace hf78 := SlR.mono hf78 hM86
        replace hf81 := SlR.mono hf81 hM86
        replace hf84 := SlR.mono hf84 hM86
        obtain ⟨M88, hM89, hf90, S⟩ := S.row_freeze 0 rfl
        replace HM := Hp.le_trans HM hM89
        replace hM46 := Hp.le_trans hM46 hM89
        replace hf78 := SlR.mono hf78 hM89
        replace hf81 := SlR.mono hf81 hM89
        replace hf84 := SlR.mono hf84 hM89
        replace hf87 := SlR.mono hf87 hM89
        refine W_bslice S #[.slice (some ⟨b61, 0, none⟩) ([(⟨(0 : Int), (0 : Int), false, ([] : Str)⟩ : api_Version)] : List api_Version).length 1, .slice (some ⟨b64, 0, none⟩) ([(⟨(0 : Int), (-1 : Int), false, ([] : Str)⟩ : api_Version)] : List api_Version).length 1, .slice (some ⟨b67, 0, none⟩) ([(⟨(0 : Int), (2 : Int), false, ([] : Str)⟩ : api_Version), (⟨(0 : Int), (2 : Int), false, ([] : Str)⟩ : api_Version)] : List api_Version).length 2, .slice (some ⟨b70, 0, none⟩) ([(⟨(0 : Int), (2 : Int), false, ([] : Str)⟩ : api_Version), (⟨(0 : Int), (3 : Int), false, ([] : Str)⟩ : api_Version)] : List api_Version).length 2, .slice (some ⟨b73, 0, none⟩) ([(⟨(0 : Int), (3 : Int), false, ([] : Str)⟩ : api_Version), (⟨(0 : Int), (2 : Int), false, ([] : Str)⟩ : api_Version), (⟨(0 : Int), (0 : Int), false, ([] : Str)⟩ : api_Version)] : List api_Version).length 3] Try.underlying35 ty22 rfl rfl #[.slice none 0 0, .slice none 0 0, .slice none 0 0, .slice none 0 0, .slice none 0 0] (by kernel_rfl) (by kernel_rfl) rfl ?_
        intro b91 w92 E' S
        replace E := E.trans E'
        clear E'
        replace S := S.blk_row (r := (rSl r_api_Version)) (l := ([([(⟨(0 : Int), (0 : Int), false, ([] : Str)⟩ : api_Version)] : List api_Version), ([(⟨(0 : Int), (-1 : Int), false, ([] : Str)⟩ : api_Version)] : List api_Version), ([(⟨(0 : Int), (2 : Int), false, ([] : Str)⟩ : api_Version), (⟨(0 : Int), (2 : Int), false, ([] : Str)⟩ : api_Version)] : List api_Version), ([(⟨(0 : Int), (2 : Int), false, ([] : Str)⟩ : api_Version), (⟨(0 : Int), (3 : Int), false, ([] : Str)⟩ : api_Version)] : List api_Version), ([(⟨(0 : Int), (3 : Int), false, ([] : Str)⟩ : api_Version), (⟨(0 : Int), (2 : Int), false, ([] : Str)⟩ : api_Version), (⟨(0 : Int), (0 : Int), false, ([] : Str)⟩ : api_Version)] : List api_Version)] : List (List api_Version))) 0 rfl 5 (Nat.le_refl 5) rfl (Cells.cons (vs := [.slice (some ⟨b61, 0, none⟩) ([(⟨(0 : Int), (0 : Int), false, ([] : Str)⟩ : api_Version)] : List api_Version).length 1]) (⟨_, hf78, rfl⟩) (Cells.cons (vs := [.slice (some ⟨b64, 0, none⟩) ([(⟨(0 : Int), (-1 : Int), false, ([] : Str)⟩ : api_Version)] : List api_Version).length 1]) (⟨_, hf81, rfl⟩) (Cells.cons (vs := [.slice (some ⟨b67, 0, none⟩) ([(⟨(0 : Int), (2 : Int), false, ([] : Str)⟩ : api_Version), (⟨(0 : Int), (2 : Int), false, ([] : Str)⟩ : api_Version)] : List api_Version).length 2]) (⟨_, hf84, rfl⟩) (Cells.cons (vs := [.slice (some ⟨b70, 0, none⟩) ([(⟨(0 : Int), (2 : Int), false, ([] : Str)⟩ : api_Version), (⟨(0 : Int), (3 : Int), false, ([] : Str)⟩ : api_Version)] : List api_Version).length 2]) (⟨_, hf87, rfl⟩) (Cells.cons (vs := [.slice (some ⟨b73, 0, none⟩) ([(⟨(0 : Int), (3 : Int), false, ([] : Str)⟩ : api_Version), (⟨(0 : Int), (2 : Int), false, ([] : Str)⟩ : api_Version), (⟨(0 : Int), (0 : Int), false, ([] : Str)⟩ : api_Version)] : List api_Version).length 3]) (⟨_, hf90, rfl⟩) Cells.nil)))))
        refine W_v (.int .i64 (([([(⟨(0 : Int), (0 : Int), false, ([] : Str)⟩ : api_Version)] : List api_Version), ([(⟨(0 : Int), (-1 : Int), false, ([] : Str)⟩ : api_Version)] : List api_Version), ([(⟨(0 : Int), (2 : Int), false, ([] : Str)⟩ : api_Version), (⟨(0 : Int), (2 : Int), false, ([] : Str)⟩ : api_Version)] : List api_Version), ([(⟨(0 : Int), (2 : Int), false, ([] : Str)⟩ : api_Version), (⟨(0 : Int), (3 : Int), false, ([] : Str)⟩ : api_Version)] : List api_Version), ([(⟨(0 : Int), (3 : Int), false, ([] : Str)⟩ : api_Version), (⟨(0 : Int), (2 : Int), false, ([] : Str)⟩ : api_Version), (⟨(0 : Int), (0 : Int), false, ([] : Str)⟩ : api_Version)] : List api_Version)] : List (List api_Version)).length : Int)) (x_len_slice (n := ([([(⟨(0 : Int), (0 : Int), false, ([] : Str)⟩ : api_Version)] : List api_Version), ([(⟨(0 : Int), (-1 : Int), false, ([] : Str)⟩ : api_Version)] : List api_Version), ([(⟨(0 : Int), (2 : Int), false, ([] : Str)⟩ : api_Version), (⟨(0 : Int), (2 : Int), false, ([] : Str)⟩ : api_Version)] : List api_Version), ([(⟨(0 : Int), (2 : Int), false, ([] : Str)⟩ : api_Version), (⟨(0 : Int), (3 : Int), false, ([] : Str)⟩ : api_Version)] : List api_Version), ([(⟨(0 : Int), (3 : Int), false, ([] : Str)⟩ : api_Version), (⟨(0 : Int), (2 : Int), false, ([] : Str)⟩ : api_Version), (⟨(0 : Int), (0 : Int), false, ([] : Str)⟩ : api_Version)] : List api_Version)] : List (List api_Version)).length) Try.underlying35 rfl) rfl ?_
        refine W_v (.int .i64 0) (x_move rfl) rfl ?_
        refine Wl_nil ?_
        refine tn ?_
        obtain ⟨o154, o154h, o154H⟩ := bindS H
        clear H
        refine Wp_blockJ (fun ρ w' => .inr () = o154 ∧ Agree ρ [] ∧ Ext w w' ∧ St w' M88 F []) ?_ ?_
        · skip
          refine Wp_loop (fun n ρ w' => ∃ (x134 : Int), ferrymanlaw11_KeepNames_l0 n x134 = some o154 ∧ Agree ρ [(36, .slice (some ⟨b91, 0, none⟩) ([([(⟨(0 : Int), (0 : Int), false, ([] : Str)⟩ : api_Version)] : List api_Version), ([(⟨(0 : Int), (-1 : Int), false, ([] : Str)⟩ : api_Version)] : List api_Version), ([(⟨(0 : Int), (2 : Int), false, ([] : Str)⟩ : api_Version), (⟨(0 : Int), (2 : Int), false, ([] : Str)⟩ : api_Version)] : List api_Version), ([(⟨(0 : Int), (2 : Int), false, ([] : Str)⟩ : api_Version), (⟨(0 : Int), (3 : Int), false, ([] : Str)⟩ : api_Version)] : List api_Version), ([(⟨(0 : Int), (3 : Int), false, ([] : Str)⟩ : api_Version), (⟨(0 : Int), (2 : Int), false, ([] : Str)⟩ : api_Version), (⟨(0 : Int), (0 : Int), false, ([] : Str)⟩ : api_Version)] : List api_Version)] : List (List api_Version)).length 5), (37, .int .i64 (([([(⟨(0 : Int), (0 : Int), false, ([] : Str)⟩ : api_Version)] : List api_Version), ([(⟨(0 : Int), (-1 : Int), false, ([] : Str)⟩ : api_Version)] : List api_Version), ([(⟨(0 : Int), (2 : Int), false, ([] : Str)⟩ : api_Version), (⟨(0 : Int), (2 : Int), false, ([] : Str)⟩ : api_Version)] : List api_Version), ([(⟨(0 : Int), (2 : Int), false, ([] : Str)⟩ : api_Version), (⟨(0 : Int), (3 : Int), false, ([] : Str)⟩ : api_Version)] : List api_Version), ([(⟨(0 : Int), (3 : Int), false, ([] : Str)⟩ : api_Version), (⟨(0 : Int), (2 : Int), false, ([] : Str)⟩ : api_Version), (⟨(0 : Int), (0 : Int), false, ([] : Str)⟩ : api_Version)] : List api_Version)] : List (List api_Version)).length : Int)), (38, .int .i64 x134)] ∧ Ext w w' ∧ St w' M88 F [Row (rSl r_api_Version) 22 (.slice (some ⟨b91, 0, none⟩) ([([(⟨(0 : Int), (0 : Int), false, ([] : Str)⟩ : api_Version)] : List api_Version), ([(⟨(0 : Int), (-1 : Int), false, ([] : Str)⟩ : api_Version)] : List api_Version), ([(⟨(0 : Int), (2 : Int), false, ([] : Str)⟩ : api_Version), (⟨(0 : Int), (2 : Int), false, ([] : Str)⟩ : api_Version)] : List api_Version), ([(⟨(0 : Int), (2 : Int), false, ([] : Str)⟩ : api_Version), (⟨(0 : Int), (3 : Int), false, ([] : Str)⟩ : api_Version)] : List api_Version), ([(⟨(0 : Int), (3 : Int), false, ([] : Str)⟩ : api_Version), (⟨(0 : Int), (2 : Int), false, ([] : Str)⟩ : api_Version), (⟨(0 : Int), (0 : Int), false, ([] : Str)⟩ : api_Version)] : List api_Version)] : List (List api_Version)).length 5) ([([(⟨(0 : Int), (0 : Int), false, ([] : Str)⟩ : api_Version)] : List api_Version), ([(⟨(0 : Int), (-1 : Int), false, ([] : Str)⟩ : api_Version)] : List api_Version), ([(⟨(0 : Int), (2 : Int), false, ([] : Str)⟩ : api_Version), (⟨(0 : Int), (2 : Int), false, ([] : Str)⟩ : api_Version)] : List api_Version), ([(⟨(0 : Int), (2 : Int), false, ([] : Str)⟩ : api_Version), (⟨(0 : Int), (3 : Int), false, ([] : Str)⟩ : api_Version)] : List api_Version), ([(⟨(0 : Int), (3 : Int), false, ([] : Str)⟩ : api_Version), (⟨(0 : Int), (2 : Int), false, ([] : Str)⟩ : api_Version), (⟨(0 : Int), (0 : Int), false, ([] : Str)⟩ : api_Version)] : List api_Version)] : List (List api_Version))]) k ?_ ?_
          · skip
            exact ⟨(0 : Int), o154h, ⟨rfl, rfl, rfl, trivial⟩, E, S.pick [0] (by decide)⟩
          · intro n
            rintro ρ w155 ⟨x134, H, hρ, E, S⟩
            rw [agree_eta hρ]
            clear hρ
            cases n with
            | zero => cases H
            | succ k =>
              rw [ferrymanlaw11_KeepNames_l0.eq_2] at H
              refine Wp_seq ?_
              refine Wp_region_lit ?_
              refine W_v (.bool (decide (x134 < (([([(⟨(0 : Int), (0 : Int), false, ([] : Str)⟩ : api_Version)] : List api_Version), ([(⟨(0 : Int), (-1 : Int), false, ([] : Str)⟩ : api_Version)] : List api_Version), ([(⟨(0 : Int), (2 : Int), false, ([] : Str)⟩ : api_Version), (⟨(0 : Int), (2 : Int), false, ([] : Str)⟩ : api_Version)] : List api_Version), ([(⟨(0 : Int), (2 : Int), false, ([] : Str)⟩ : api_Version), (⟨(0 : Int), (3 : Int), false, ([] : Str)⟩ : api_Version)] : List api_Version), ([(⟨(0 : Int), (3 : Int), false, ([] : Str)⟩ : api_Version), (⟨(0 : Int), (2 : Int), false, ([] : Str)⟩ : api_Version), (⟨(0 : Int), (0 : Int), false, ([] : Str)⟩ : api_Version)] : List api_Version)] : List (List api_Version)).length : Int)))) (x_ibin rfl rfl rfl rfl) rfl ?_
              refine Wl_nil ?_
              refine tn ?_
              refine Wp_seq ?_
              rcases iteS H with ⟨hb156, H⟩ | ⟨hb156, H⟩
              · refine Wp_cond_true (congrArg Value.bool hb156) ?_
                refine Wp_skip ?_
                refine tn ?_
                refine Wp_seq ?_
                refine Wp_block ?_
                refine Wp_seq ?_
                refine Wp_region_lit ?_
                obtain ⟨⟨p157, p158⟩, H⟩ := chkS H
                obtain ⟨b159, o160, cs161, _, _, ee166, hb162, vs163, hR164, hc165⟩ := SlW.at' (S.row_read 0 rfl) p157 p158
                obtain ⟨v170, hs169, rfl⟩ := hR164
                obtain ⟨A167, c168, rfl, _⟩ := hs169.form
                refine W_v (.pointer (some ⟨b159, o160 + x134.toNat * 1, none⟩)) (x_indexAddr Try.underlying35 ty22 (slA ee166) rfl p157 p158) rfl ?_
                refine W_v (.slice A167 (rd ([([(⟨(0 : Int), (0 : Int), false, ([] : Str)⟩ : api_Version)] : List api_Version), ([(⟨(0 : Int), (-1 : Int), false, ([] : Str)⟩ : api_Version)] : List api_Version), ([(⟨(0 : Int), (2 : Int), false, ([] : Str)⟩ : api_Version), (⟨(0 : Int), (2 : Int), false, ([] : Str)⟩ : api_Version)] : List api_Version), ([(⟨(0 : Int), (2 : Int), false, ([] : Str)⟩ : api_Version), (⟨(0 : Int), (3 : Int), false, ([] : Str)⟩ : api_Version)] : List api_Version), ([(⟨(0 : Int), (3 : Int), false, ([] : Str)⟩ : api_Version), (⟨(0 : Int), (2 : Int), false, ([] : Str)⟩ : api_Version), (⟨(0 : Int), (0 : Int), false, ([] : Str)⟩ : api_Version)] : List api_Version)] : List (List api_Version)) x134).length c168) (x_load (Hp.of_get hb162) ty22 rfl (hc165 0 _ rfl)) rfl ?_
                refine W_v (.slice A167 (rd ([([(⟨(0 : Int), (0 : Int), false, ([] : Str)⟩ : api_Version)] : List api_Version), ([(⟨(0 : Int), (-1 : Int), false, ([] : Str)⟩ : api_Version)] : List api_Version), ([(⟨(0 : Int), (2 : Int), false, ([] : Str)⟩ : api_Version), (⟨(0 : Int), (2 : Int), false, ([] : Str)⟩ : api_Version)] : List api_Version), ([(⟨(0 : Int), (2 : Int), false, ([] : Str)⟩ : api_Version), (⟨(0 : Int), (3 : Int), false, ([] : Str)⟩ : api_Version)] : List api_Version), ([(⟨(0 : Int), (3 : Int), false, ([] : Str)⟩ : api_Version), (⟨(0 : Int), (2 : Int), false, ([] : Str)⟩ : api_Version), (⟨(0 : Int), (0 : Int), false, ([] : Str)⟩ : api_Version)] : List api_Version)] : List (List api_Version)) x134).length c168) (x_assign rfl) rfl ?_
                refine Wl_nil ?_
                refine tn ?_
                refine Wp_seq ?_
                refine Wp_region_lit ?_
                refine W_v (.slice A167 (rd ([([(⟨(0 : Int), (0 : Int), false, ([] : Str)⟩ : api_Version)] : List api_Version), ([(⟨(0 : Int), (-1 : Int), false, ([] : Str)⟩ : api_Version)] : List api_Version), ([(⟨(0 : Int), (2 : Int), false, ([] : Str)⟩ : api_Version), (⟨(0 : Int), (2 : Int), false, ([] : Str)⟩ : api_Version)] : List api_Version), ([(⟨(0 : Int), (2 : Int), false, ([] : Str)⟩ : api_Version), (⟨(0 : Int), (3 : Int), false, ([] : Str)⟩ : api_Version)] : List api_Version), ([(⟨(0 : Int), (3 : Int), false, ([] : Str)⟩ : api_Version), (⟨(0 : Int), (2 : Int), false, ([] : Str)⟩ : api_Version), (⟨(0 : Int), (0 : Int), false, ([] : Str)⟩ : api_Version)] : List api_Version)] : List (List api_Version)) x134).length c168) (x_move rfl) rfl ?_
                obtain ⟨t171, ht172, H⟩ := bindS H
                refine W_callF fn14 (keep_Legal.con k M88 A167 c168 (rd ([([(⟨(0 : Int), (0 : Int), false, ([] : Str)⟩ : api_Version)] : List api_Version), ([(⟨(0 : Int), (-1 : Int), false, ([] : Str)⟩ : api_Version)] : List api_Version), ([(⟨(0 : Int), (2 : Int), false, ([] : Str)⟩ : api_Version), (⟨(0 : Int), (2 : Int), false, ([] : Str)⟩ : api_Version)] : List api_Version), ([(⟨(0 : Int), (2 : Int), false, ([] : Str)⟩ : api_Version), (⟨(0 : Int), (3 : Int), false, ([] : Str)⟩ : api_Version)] : List api_Version), ([(⟨(0 : Int), (3 : Int), false, ([] : Str)⟩ : api_Version), (⟨(0 : Int), (2 : Int), false, ([] : Str)⟩ : api_Version), (⟨(0 : Int), (0 : Int), false, ([] : Str)⟩ : api_Version)] : List api_Version)] : List (List api_Version)) x134) t171 hs169 ht172) S rfl rfl (by rintro _ _ _ ⟨_, rfl⟩; exact flat_nil) ?_
                rintro _ w173 _ Γ' E' S ⟨rfl, rfl⟩
                replace E := E.trans E'
                clear E'
                refine Wl_nil ?_
                refine tn ?_
                rcases iteS H with ⟨hb174, H⟩ | ⟨hb174, H⟩
                · refine Wp_cond_true (congrArg Value.bool hb174) ?_
                  refine Wp_seq ?_
                  refine Wp_region_lit ?_
                  refine W_v (.bool false) (x_assign rfl) rfl ?_
                  refine Wl_nil ?_
                  refine tn ?_
                  refine Wp_ret ?_
                  refine br (tr (tr (br (tr (tr (?_))))))
                  obtain rfl := Option.some.inj H
                  have H := o154H
                  replace H := elimL H
                  obtain rfl := Option.some.inj H
                  exact ⟨_, _, _, fun w1 e1 => run_resR (vs := [.bool false]) (FA.cons (rfl) (FA.nil)), HM, E, S.pick [] (by decide), ⟨rfl, rfl⟩⟩
                · refine Wp_cond_false (congrArg Value.bool hb174) ?_
                  refine Wp_skip ?_
                  refine bn ?_
                  refine tn ?_
                  refine Wp_region_lit ?_
                  refine W_v (.int .i64 (IntKind.i64.wrap (x134 + (1 : Int)))) (x_ibin rfl rfl rfl rfl) rfl ?_
                  refine W_v (.int .i64 (IntKind.i64.wrap (x134 + (1 : Int)))) (x_move rfl) rfl ?_
                  refine Wl_nil ?_
                  refine tn ?_
                  exact ⟨k, Nat.lt_succ_self k, ⟨(IntKind.i64.wrap (x134 + (1 : Int))), H, ⟨rfl, rfl, rfl, trivial⟩, E, S.pick [0] (by decide)⟩⟩
              · refine Wp_cond_false (congrArg Value.bool hb156) ?_
                refine Wp_exit ?_
                refine tx (tx (bsm (?_)))
                refine tn ?_
                exact ⟨Option.some.inj H, trivial, E, S.pick [] (by decide)⟩
        · clear o154h
          rintro ρ w175 ⟨rfl, hρ, E, S⟩
          rw [agree_eta hρ]
          clear hρ
          have H := o154H
          clear o154H
          replace H := elimR H
          refine tn ?_
          refine Wp_seq ?_
          refine Wp_region_lit ?_
          obtain ⟨t176, ht177, H⟩ := bindS H
          refine W_callF fn12 (keep_Seen.con k M88 none 0 ([] : (List api_Version)) (9223372036854775807 : Int) t176 (SlW.nil _ _) ht177) S rfl rfl (by rintro _ _ _ ⟨_, rfl⟩; exact flat_nil) ?_
          rintro _ w178 _ Γ' E' S ⟨rfl, rfl⟩
          replace E := E.trans E'
          clear E'
          refine W_v (.tuple #[.agg #[.int .i64 t176.1.Writer, .int .i64 t176.1.TS, .bool t176.1.Tomb, .string (bs t176.1.Value)], .bool t176.2]) (x_move rfl) rfl ?_
          refine W_v (.agg #[.int .i64 t176.1.Writer, .int .i64 t176.1.TS, .bool t176.1.Tomb, .string (bs t176.1.Value)]) (x_extract rfl rfl) rfl ?_
          refine W_v (.bool t176.2) (x_extract rfl rfl) rfl ?_
          refine W_alloc S #[.int .i64 0, .int .i64 0, .bool false, .string (bs ([] : Str))] ty27 rfl rfl ?_
          intro b179 w180 E' S
          replace E := E.trans E'
          clear E'
          refine W_store S 0 rfl ty27 rfl rfl [.int .i64 t176.1.Writer, .int .i64 t176.1.TS, .bool t176.1.Tomb, .string (bs t176.1.Value)] rfl rfl rfl #[.int .i64 t176.1.Writer, .int .i64 t176.1.TS, .bool t176.1.Tomb, .string (bs t176.1.Value)] rfl rfl ?_
          intro w182 E' S
          replace E := E.trans E'
          clear E'
          refine W_v (.bool t176.2) (x_assign rfl) rfl ?_
          refine Wl_nil ?_
          refine tn ?_
          refine Wp_seq ?_
          refine Wp_region_lit ?_
          obtain ⟨t183, ht184, H⟩ := bindS H
          refine W_callF fn16 (ferrymanlaw11_some.con k M88  t183  ht184) S rfl rfl (by rintro _ _ _ ⟨_, _, _, rfl⟩; exact (flat_cons (flat_row (fun _ _ _ _ h => h)) flat_nil)) ?_
          rintro _ w188 _ Γ' E' S ⟨A185, c186, rfl, rfl⟩
          replace E := E.trans E'
          clear E'
          obtain ⟨M189, hM190, hf191, S⟩ := S.row_freeze 0 rfl
          replace HM := Hp.le_trans HM hM190
          replace hM46 := Hp.le_trans hM46 hM190
          replace hf78 := SlR.mono hf78 hM190
          replace hf81 := SlR.mono hf81 hM190
          replace hf84 := SlR.mono hf84 hM190
          replace hf87 := SlR.mono hf87 hM190
          replace hf90 := SlR.mono hf90 hM190
          obtain ⟨t192, ht193, H⟩ := bindS H
          refine W_callF fn12 (keep_Seen.con k M189 A185 c186 t183 (9223372036854775807 : Int) t192 hf191 ht193) S rfl rfl (by rintro _ _ _ ⟨_, rfl⟩; exact flat_nil) ?_
          rintro _ w194 _ Γ' E' S ⟨rfl, rfl⟩
          replace E := E.trans E'
          clear E'
          refine W_v (.tuple #[.agg #[.int .i64 t192.1.Writer, .int .i64 t192.1.TS, .bool t192.1.Tomb, .string (bs t192.1.Value)], .bool t192.2]) (x_move rfl) rfl ?_
          refine W_v (.agg #[.int .i64 t192.1.Writer, .int .i64 t192.1.TS, .bool t192.1.Tomb, .string (bs t192.1.Value)]) (x_extract rfl rfl) rfl ?_
          refine W_v (.bool t192.2) (x_extract rfl rfl) rfl ?_
          refine W_alloc S #[.int .i64 0, .int .i64 0, .bool false, .string (bs ([] : Str))] ty27 rfl rfl ?_
          intro b195 w196 E' S
          replace E := E.trans E'
          clear E'
          refine W_store S 0 rfl ty27 rfl rfl [.int .i64 t192.1.Writer, .int .i64 t192.1.TS, .bool t192.1.Tomb, .string (bs t192.1.Value)] rfl rfl rfl #[.int .i64 t192.1.Writer, .int .i64 t192.1.TS, .bool t192.1.Tomb, .string (bs t192.1.Value)] rfl rfl ?_
          intro w198 E' S
          replace E := E.trans E'
          clear E'
          refine W_v (.bool t192.2) (x_assign rfl) rfl ?_
          refine Wl_nil ?_
          refine tn ?_
          refine Wp_seq ?_
          refine Wp_region_lit ?_
          obtain ⟨t199, ht200, H⟩ := bindS H
          refine W_callF fn16 (ferrymanlaw11_some.con k M189  t199  ht200) S rfl rfl (by rintro _ _ _ ⟨_, _, _, rfl⟩; exact (flat_cons (flat_row (fun _ _ _ _ h => h)) flat_nil)) ?_
          rintro _ w204 _ Γ' E' S ⟨A201, c202, rfl, rfl⟩
          replace E := E.trans E'
          clear E'
          refine W_v (.slice A201 t199.length c202) (x_assign rfl) rfl ?_
          refine Wl_nil ?_
          refine tn ?_
          refine Wp_seq ?_
          refine Wp_region_lit ?_
          refine W_v (.agg #[.int .i64 0, .int .i64 3, .bool false, .string (bs ([120] : Str))]) (x_build #[.int .i64 0, .int .i64 3, .bool false, .string (bs ([120] : Str))] Try.underlying27 ty27 (by simp [IsTy.sizeOf ty3, IsTy.sizeOf ty4, IsTy.sizeOf ty9]; rfl) rfl rfl) rfl ?_
          refine W_v (.agg #[.int .i64 0, .int .i64 7, .bool false, .string (bs ([121] : Str))]) (x_build #[.int .i64 0, .int .i64 7, .bool false, .string (bs ([121] : Str))] Try.underlying27 ty27 (by simp [IsTy.sizeOf ty3, IsTy.sizeOf ty4, IsTy.sizeOf ty9]; rfl) rfl rfl) rfl ?_
          refine W_bslice S #[.int .i64 0, .int .i64 3, .bool false, .string (bs ([120] : Str)), .int .i64 0, .int .i64 7, .bool false, .string (bs ([121] : Str))] Try.underlying22 ty27 rfl rfl #[.int .i64 0, .int .i64 0, .bool false, .string (bs ([] : Str)), .int .i64 0, .int .i64 0, .bool false, .string (bs ([] : Str))] (by kernel_rfl) (by kernel_rfl) rfl ?_
          intro b205 w206 E' S
          replace E := E.trans E'
          clear E'
          replace S := S.blk_row (r := r_api_Version) (l := ([(⟨(0 : Int), (3 : Int), false, ([120] : Str)⟩ : api_Version), (⟨(0 : Int), (7 : Int), false, ([121] : Str)⟩ : api_Version)] : List api_Version)) 0 rfl 2 (Nat.le_refl 2) rfl (Cells.cons (vs := [.int .i64 0, .int .i64 3, .bool false, .string (bs ([120] : Str))]) (rfl) (Cells.cons (vs := [.int .i64 0, .int .i64 7, .bool false, .string (bs ([121] : Str))]) (rfl) Cells.nil))
          refine W_v (.slice (some ⟨b205, 0, none⟩) ([(⟨(0 : Int), (3 : Int), false, ([120] : Str)⟩ : api_Version), (⟨(0 : Int), (7 : Int), false, ([121] : Str)⟩ : api_Version)] : List api_Version).length 2) (x_assign rfl) rfl ?_
          refine Wl_nil ?_
          refine tn ?_
          refine Wp_seq ?_
          refine Wp_region_lit ?_
          refine W_v (.slice (some ⟨b205, 0, none⟩) ([(⟨(0 : Int), (3 : Int), false, ([120] : Str)⟩ : api_Version), (⟨(0 : Int), (7 : Int), false, ([121] : Str)⟩ : api_Version)] : List api_Version).length 2) (x_move rfl) rfl ?_
          obtain ⟨M208, hM209, hf210, S⟩ := S.row_freeze 0 rfl
          replace HM := Hp.le_trans HM hM209
          replace hM46 := Hp.le_trans hM46 hM209
          replace hf78 := SlR.mono hf78 hM209
          replace hf81 := SlR.mono hf81 hM209
          replace hf84 := SlR.mono hf84 hM209
          replace hf87 := SlR.mono hf87 hM209
          replace hf90 := SlR.mono hf90 hM209
          replace hf191 := SlR.mono hf191 hM209
          obtain ⟨t211, ht212, H⟩ := bindS H
          refine W_callF fn12 (keep_Seen.con k M208 (some ⟨b205, 0, none⟩) 2 ([(⟨(0 : Int), (3 : Int), false, ([120] : Str)⟩ : api_Version), (⟨(0 : Int), (7 : Int), false, ([121] : Str)⟩ : api_Version)] : List api_Version) (5 : Int) t211 hf210 ht212) S rfl rfl (by rintro _ _ _ ⟨_, rfl⟩; exact flat_nil) ?_
          rintro _ w213 _ Γ' E' S ⟨rfl, rfl⟩
          replace E := E.trans E'
          clear E'
          refine W_v (.tuple #[.agg #[.int .i64 t211.1.Writer, .int .i64 t211.1.TS, .bool t211.1.Tomb, .string (bs t211.1.Value)], .bool t211.2]) (x_move rfl) rfl ?_
          refine W_v (.agg #[.int .i64 t211.1.Writer, .int .i64 t211.1.TS, .bool t211.1.Tomb, .string (bs t211.1.Value)]) (x_extract rfl rfl) rfl ?_
          refine W_v (.bool t211.2) (x_extract rfl rfl) rfl ?_
          refine W_alloc S #[.int .i64 0, .int .i64 0, .bool false, .string (bs ([] : Str))] ty27 rfl rfl ?_
          intro b214 w215 E' S
          replace E := E.trans E'
          clear E'
          refine W_store S 0 rfl ty27 rfl rfl [.int .i64 t211.1.Writer, .int .i64 t211.1.TS, .bool t211.1.Tomb, .string (bs t211.1.Value)] rfl rfl rfl #[.int .i64 t211.1.Writer, .int .i64 t211.1.TS, .bool t211.1.Tomb, .string (bs t211.1.Value)] rfl rfl ?_
          intro w217 E' S
          replace E := E.trans E'
          clear E'
          refine W_v (.bool t211.2) (x_assign rfl) rfl ?_
          refine Wl_nil ?_
          refine tn ?_
          refine Wp_seq ?_
          obtain ⟨M522, hM523, hf524, S⟩ := S.row_freeze 1 rfl
          replace HM := Hp.le_trans HM hM523
          replace hM46 := Hp.le_trans hM46 hM523
          replace hf78 := SlR.mono hf78 hM523
          replace hf81 := SlR.mono hf81 hM523
          replace hf84 := SlR.mono hf84 hM523
          replace hf87 := SlR.mono hf87 hM523
          replace hf90 := SlR.mono hf90 hM523
          replace hf191 := SlR.mono hf191 hM523
          replace hf210 := SlR.mono hf210 hM523
          have LE813 := Hp.le_refl M522
          refine Wp_region_any (S := fun w' => ∃ Mx, M522.le Mx ∧ St w' Mx F [Blk b214 (.cells #[.int .i64 t211.1.Writer, .int .i64 t211.1.TS, .bool t211.1.Tomb, .string (bs t211.1.Value)] 27 (0, 0)), Blk b195 (.cells #[.int .i64 t192.1.Writer, .int .i64 t192.1.TS, .bool t192.1.Tomb, .string (bs t192.1.Value)] 27 (0, 0)), Blk b179 (.cells #[.int .i64 t176.1.Writer, .int .i64 t176.1.TS, .bool t176.1.Tomb, .string (bs t176.1.Value)] 27 (0, 0))]) mixed ?_
          intro w814 hw815 E'
          replace S := S.heap hw815
          replace E := E.trans E'
          clear E'
          have hf78z := hf78
          have hf81z := hf81
          have hf84z := hf84
          have hf87z := hf87
          have hf90z := hf90
          have hf191z := hf191
          have hf210z := hf210
          have hf524z := hf524
          refine Wa_take (i := 0) rfl (by kernel_rfl) rfl rfl (.bool t176.2) rfl (fun w' h' => x_move rfl) (⟨M522, Hp.le_refl M522, S.pick [0, 1, 2] (by decide)⟩) ?_
          refine Wa_take (i := 1) rfl (by kernel_rfl) rfl rfl (.bool (!t176.2)) rfl (fun w' h' => x_not rfl) (⟨M522, Hp.le_refl M522, S.pick [0, 1, 2] (by decide)⟩) ?_
          refine Wa_take (i := 2) rfl (by kernel_rfl) rfl rfl (.bool (!t176.2)) rfl (fun w' h' => x_move rfl) (⟨M522, Hp.le_refl M522, S.pick [0, 1, 2] (by decide)⟩) ?_
          refine Wa_join (fun ρ w' => Agree ρ [(5, .pointer (some ⟨b195, 0, none⟩)), (7, .slice A201 t199.length c202), (8, .slice (some ⟨b205, 0, none⟩) ([(⟨(0 : Int), (3 : Int), false, ([120] : Str)⟩ : api_Version), (⟨(0 : Int), (7 : Int), false, ([121] : Str)⟩ : api_Version)] : List api_Version).length 2), (9, .pointer (some ⟨b214, 0, none⟩)), (10, .bool t211.2), (67, .bool ((!t176.2) && t192.2))] ∧ w814 = w') 78 (Ls 83 [0, 1, 2, 3, 4]) ?_ ?_
          · rintro ρ _ ⟨hρ, rfl⟩
            rw [agree_eta hρ]
            clear hρ
            refine Wa_take (i := 5) rfl (by kernel_rfl) rfl rfl (.bool ((!t176.2) && t192.2)) rfl (fun w' h' => x_move rfl) (⟨M522, Hp.le_refl M522, S.pick [0, 1, 2] (by decide)⟩) ?_
            obtain ⟨o829, o829h, o829H⟩ := bindS H
            clear H
            refine Wa_join (fun ρ w' => ∃ (x828 : Bool), (x828) = o829 ∧ Agree ρ [(7, .slice A201 t199.length c202), (8, .slice (some ⟨b205, 0, none⟩) ([(⟨(0 : Int), (3 : Int), false, ([120] : Str)⟩ : api_Version), (⟨(0 : Int), (7 : Int), false, ([121] : Str)⟩ : api_Version)] : List api_Version).length 2), (9, .pointer (some ⟨b214, 0, none⟩)), (10, .bool t211.2), (74, .bool x828)] ∧ Ext w w' ∧ St w' M522 F [Blk b214 (.cells #[.int .i64 t211.1.Writer, .int .i64 t211.1.TS, .bool t211.1.Tomb, .string (bs t211.1.Value)] 27 (0, 0)), Blk b195 (.cells #[.int .i64 t192.1.Writer, .int .i64 t192.1.TS, .bool t192.1.Tomb, .string (bs t192.1.Value)] 27 (0, 0)), Blk b179 (.cells #[.int .i64 t176.1.Writer, .int .i64 t176.1.TS, .bool t176.1.Tomb, .string (bs t176.1.Value)] 27 (0, 0))]) 71 (Ls 83 [0, 1, 2, 3, 4, 5, 6, 7, 8, 9, 10, 11]) ?_ ?_
            · clear o829h
              rintro ρ w830 ⟨x828, rfl, hρ, E, S⟩
              rw [agree_eta hρ]
              clear hρ
              have H := o829H
              clear o829H
              refine Wa_take (i := 12) rfl (by kernel_rfl) rfl rfl (.bool x828) rfl (fun w' h' => x_move rfl) (⟨M522, Hp.le_refl M522, S.pick [0, 1, 2] (by decide)⟩) ?_
              obtain ⟨o839, o839h, o839H⟩ := bindS H
              clear H
              refine Wa_join (fun ρ w' => ∃ (x838 : Bool), (x838) = o839 ∧ Agree ρ [(7, .slice A201 t199.length c202), (8, .slice (some ⟨b205, 0, none⟩) ([(⟨(0 : Int), (3 : Int), false, ([120] : Str)⟩ : api_Version), (⟨(0 : Int), (7 : Int), false, ([121] : Str)⟩ : api_Version)] : List api_Version).length 2), (9, .pointer (some ⟨b214, 0, none⟩)), (10, .bool t211.2), (79, .bool x838)] ∧ Ext w w' ∧ St w' M522 F [Blk b214 (.cells #[.int .i64 t211.1.Writer, .int .i64 t211.1.TS, .bool t211.1.Tomb, .string (bs t211.1.Value)] 27 (0, 0)), Blk b195 (.cells #[.int .i64 t192.1.Writer, .int .i64 t192.1.TS, .bool t192.1.Tomb, .string (bs t192.1.Value)] 27 (0, 0)), Blk b179 (.cells #[.int .i64 t176.1.Writer, .int .i64 t176.1.TS, .bool t176.1.Tomb, .string (bs t176.1.Value)] 27 (0, 0))]) 66 (Ls 83 [0, 1, 2, 3, 4, 5, 6, 7, 8, 9, 10, 11, 12, 13, 14, 15, 16]) ?_ ?_
              · clear o839h
                rintro ρ w840 ⟨x838, rfl, hρ, E, S⟩
                rw [agree_eta hρ]
                clear hρ
                have H := o839H
                clear o839H
                refine Wa_take (i := 17) rfl (by kernel_rfl) rfl rfl (.bool x838) rfl (fun w' h' => x_move rfl) (⟨M522, Hp.le_refl M522, S.pick [0, 1, 2] (by decide)⟩) ?_
                obtain ⟨o846, o846h, o846H⟩ := bindS H
                clear H
                refine Wa_join (fun ρ w' => ∃ (x845 : Bool), (x845) = o846 ∧ Agree ρ [(7, .slice A201 t199.length c202), (8, .slice (some ⟨b205, 0, none⟩) ([(⟨(0 : Int), (3 : Int), false, ([120] : Str)⟩ : api_Version), (⟨(0 : Int), (7 : Int), false, ([121] : Str)⟩ : api_Version)] : List api_Version).length 2), (9, .pointer (some ⟨b214, 0, none⟩)), (10, .bool t211.2), (83, .bool x845)] ∧ Ext w w' ∧ St w' M522 F [Blk b214 (.cells #[.int .i64 t211.1.Writer, .int .i64 t211.1.TS, .bool t211.1.Tomb, .string (bs t211.1.Value)] 27 (0, 0)), Blk b195 (.cells #[.int .i64 t192.1.Writer, .int .i64 t192.1.TS, .bool t192.1.Tomb, .string (bs t192.1.Value)] 27 (0, 0)), Blk b179 (.cells #[.int .i64 t176.1.Writer, .int .i64 t176.1.TS, .bool t176.1.Tomb, .string (bs t176.1.Value)] 27 (0, 0))]) 62 (Ls 83 [0, 1, 2, 3, 4, 5, 6, 7, 8, 9, 10, 11, 12, 13, 14, 15, 16, 17, 18, 19, 20]) ?_ ?_
                · clear o846h
                  rintro ρ w847 ⟨x845, rfl, hρ, E, S⟩
                  rw [agree_eta hρ]
                  clear hρ
                  have H := o846H
                  clear o846H
                  refine Wa_take (i := 21) rfl (by kernel_rfl) rfl rfl (.bool x845) rfl (fun w' h' => x_move rfl) (⟨M522, Hp.le_refl M522, S.pick [0, 1, 2] (by decide)⟩) ?_
                  obtain ⟨o853, o853h, o853H⟩ := bindS H
                  clear H
                  refine Wa_join (fun ρ w' => ∃ (x852 : Bool), (x852) = o853 ∧ Agree ρ [(7, .slice A201 t199.length c202), (8, .slice (some ⟨b205, 0, none⟩) ([(⟨(0 : Int), (3 : Int), false, ([120] : Str)⟩ : api_Version), (⟨(0 : Int), (7 : Int), false, ([121] : Str)⟩ : api_Version)] : List api_Version).length 2), (9, .pointer (some ⟨b214, 0, none⟩)), (10, .bool t211.2), (87, .bool x852)] ∧ Ext w w' ∧ St w' M522 F [Blk b214 (.cells #[.int .i64 t211.1.Writer, .int .i64 t211.1.TS, .bool t211.1.Tomb, .string (bs t211.1.Value)] 27 (0, 0)), Blk b195 (.cells #[.int .i64 t192.1.Writer, .int .i64 t192.1.TS, .bool t192.1.Tomb, .string (bs t192.1.Value)] 27 (0, 0)), Blk b179 (.cells #[.int .i64 t176.1.Writer, .int .i64 t176.1.TS, .bool t176.1.Tomb, .string (bs t176.1.Value)] 27 (0, 0))]) 58 (Ls 83 [0, 1, 2, 3, 4, 5, 6, 7, 8, 9, 10, 11, 12, 13, 14, 15, 16, 17, 18, 19, 20, 21, 22, 23, 24]) ?_ ?_
                  · clear o853h
                    rintro ρ w854 ⟨x852, rfl, hρ, E, S⟩
                    rw [agree_eta hρ]
                    clear hρ
                    have H := o853H
                    clear o853H
                    refine Wa_take (i := 25) rfl (by kernel_rfl) rfl rfl (.bool x852) rfl (fun w' h' => x_move rfl) (⟨M522, Hp.le_refl M522, S.pick [0, 1, 2] (by decide)⟩) ?_
                    obtain ⟨o860, o860h, o860H⟩ := bindS H
                    clear H
                    refine Wa_join (fun ρ w' => ∃ (x859 : Bool), (x859) = o860 ∧ Agree ρ [(7, .slice A201 t199.length c202), (8, .slice (some ⟨b205, 0, none⟩) ([(⟨(0 : Int), (3 : Int), false, ([120] : Str)⟩ : api_Version), (⟨(0 : Int), (7 : Int), false, ([121] : Str)⟩ : api_Version)] : List api_Version).length 2), (9, .pointer (some ⟨b214, 0, none⟩)), (10, .bool t211.2), (92, .bool x859)] ∧ Ext w w' ∧ St w' M522 F [Blk b214 (.cells #[.int .i64 t211.1.Writer, .int .i64 t211.1.TS, .bool t211.1.Tomb, .string (bs t211.1.Value)] 27 (0, 0)), Blk b195 (.cells #[.int .i64 t192.1.Writer, .int .i64 t192.1.TS, .bool t192.1.Tomb, .string (bs t192.1.Value)] 27 (0, 0)), Blk b179 (.cells #[.int .i64 t176.1.Writer, .int .i64 t176.1.TS, .bool t176.1.Tomb, .string (bs t176.1.Value)] 27 (0, 0))]) 53 (Ls 83 [0, 1, 2, 3, 4, 5, 6, 7, 8, 9, 10, 11, 12, 13, 14, 15, 16, 17, 18, 19, 20, 21, 22, 23, 24, 25, 26, 27, 28, 29]) ?_ ?_
                    · clear o860h
                      rintro ρ w861 ⟨x859, rfl, hρ, E, S⟩
                      rw [agree_eta hρ]
                      clear hρ
                      have H := o860H
                      clear o860H
                      refine Wa_take (i := 30) rfl (by kernel_rfl) rfl rfl (.bool x859) rfl (fun w' h' => x_move rfl) (⟨M522, Hp.le_refl M522, S.pick [0, 1, 2] (by decide)⟩) ?_
                      refine Wa_join (fun ρ w' => Agree ρ [(7, .slice A201 t199.length c202), (8, .slice (some ⟨b205, 0, none⟩) ([(⟨(0 : Int), (3 : Int), false, ([120] : Str)⟩ : api_Version), (⟨(0 : Int), (7 : Int), false, ([121] : Str)⟩ : api_Version)] : List api_Version).length 2), (9, .pointer (some ⟨b214, 0, none⟩)), (95, .bool (x859 && t211.2))] ∧ w861 = w') 50 (Ls 83 [0, 1, 2, 3, 4, 5, 6, 7, 8, 9, 10, 11, 12, 13, 14, 15, 16, 17, 18, 19, 20, 21, 22, 23, 24, 25, 26, 27, 28, 29, 30, 31, 32]) ?_ ?_
                      · rintro ρ _ ⟨hρ, rfl⟩
                        rw [agree_eta hρ]
                        clear hρ
                        refine Wa_take (i := 33) rfl (by kernel_rfl) rfl rfl (.bool (x859 && t211.2)) rfl (fun w' h' => x_move rfl) (⟨M522, Hp.le_refl M522, S.pick [0, 1, 2] (by decide)⟩) ?_
                        obtain ⟨o875, o875h, o875H⟩ := bindS H
                        clear H
                        refine Wa_join (fun ρ w' => ∃ (x874 : Bool), (x874) = o875 ∧ Agree ρ [(7, .slice A201 t199.length c202), (8, .slice (some ⟨b205, 0, none⟩) ([(⟨(0 : Int), (3 : Int), false, ([120] : Str)⟩ : api_Version), (⟨(0 : Int), (7 : Int), false, ([121] : Str)⟩ : api_Version)] : List api_Version).length 2), (102, .bool x874)] ∧ Ext w w' ∧ St w' M522 F [Blk b214 (.cells #[.int .i64 t211.1.Writer, .int .i64 t211.1.TS, .bool t211.1.Tomb, .string (bs t211.1.Value)] 27 (0, 0)), Blk b195 (.cells #[.int .i64 t192.1.Writer, .int .i64 t192.1.TS, .bool t192.1.Tomb, .string (bs t192.1.Value)] 27 (0, 0)), Blk b179 (.cells #[.int .i64 t176.1.Writer, .int .i64 t176.1.TS, .bool t176.1.Tomb, .string (bs t176.1.Value)] 27 (0, 0))]) 43 (Ls 83 [0, 1, 2, 3, 4, 5, 6, 7, 8, 9, 10, 11, 12, 13, 14, 15, 16, 17, 18, 19, 20, 21, 22, 23, 24, 25, 26, 27, 28, 29, 30, 31, 32, 33, 34, 35, 36, 37, 38, 39]) ?_ ?_
                        · clear o875h
                          rintro ρ w876 ⟨x874, rfl, hρ, E, S⟩
                          rw [agree_eta hρ]
                          clear hρ
                          have H := o875H
                          clear o875H
                          refine Wa_take (i := 40) rfl (by kernel_rfl) rfl rfl (.bool x874) rfl (fun w' h' => x_move rfl) (⟨M522, Hp.le_refl M522, S.pick [0, 1, 2] (by decide)⟩) ?_
                          obtain ⟨o896, o896h, o896H⟩ := bindS H
                          clear H
                          refine Wa_join (fun ρ w' => ∃ (x895 : Bool) (Mj : Hp), (x895) = o896 ∧ Agree ρ [(7, .slice A201 t199.length c202), (8, .slice (some ⟨b205, 0, none⟩) ([(⟨(0 : Int), (3 : Int), false, ([120] : Str)⟩ : api_Version), (⟨(0 : Int), (7 : Int), false, ([121] : Str)⟩ : api_Version)] : List api_Version).length 2), (109, .bool x895)] ∧ M522.le Mj ∧ Ext w w' ∧ St w' Mj F [Blk b214 (.cells #[.int .i64 t211.1.Writer, .int .i64 t211.1.TS, .bool t211.1.Tomb, .string (bs t211.1.Value)] 27 (0, 0)), Blk b195 (.cells #[.int .i64 t192.1.Writer, .int .i64 t192.1.TS, .bool t192.1.Tomb, .string (bs t192.1.Value)] 27 (0, 0)), Blk b179 (.cells #[.int .i64 t176.1.Writer, .int .i64 t176.1.TS, .bool t176.1.Tomb, .string (bs t176.1.Value)] 27 (0, 0))]) 36 (Ls 83 [0, 1, 2, 3, 4, 5, 6, 7, 8, 9, 10, 11, 12, 13, 14, 15, 16, 17, 18, 19, 20, 21, 22, 23, 24, 25, 26, 27, 28, 29, 30, 31, 32, 33, 34, 35, 36, 37, 38, 39, 40, 41, 43, 44, 42, 45, 46]) ?_ ?_
                          · clear o896h
                            rintro ρ w897 ⟨x895, M898, rfl, hρ, hM899, E, S⟩
                            rw [agree_eta hρ]
                            clear hρ
                            replace HM := Hp.le_trans HM hM899
                            replace hM46 := Hp.le_trans hM46 hM899
                            replace LE813 := Hp.le_trans LE813 hM899
                            replace hf78 := SlR.mono hf78 hM899
                            replace hf81 := SlR.mono hf81 hM899
                            replace hf84 := SlR.mono hf84 hM899
                            replace hf87 := SlR.mono hf87 hM899
                            replace hf90 := SlR.mono hf90 hM899
                            replace hf191 := SlR.mono hf191 hM899
                            replace hf210 := SlR.mono hf210 hM899
                            replace hf524 := SlR.mono hf524 hM899
                            have H := o896H
                            clear o896H
                            refine Wa_take (i := 47) rfl (by kernel_rfl) rfl rfl (.bool x895) rfl (fun w' h' => x_move rfl) (⟨M898, hM899, S.pick [0, 1, 2] (by decide)⟩) ?_
                            obtain ⟨o914, o914h, o914H⟩ := bindS H
                            clear H
                            refine Wa_join (fun ρ w' => ∃ (x913 : Bool) (Mj : Hp), (x913) = o914 ∧ Agree ρ [(7, .slice A201 t199.length c202), (115, .bool x913)] ∧ M898.le Mj ∧ Ext w w' ∧ St w' Mj F [Blk b214 (.cells #[.int .i64 t211.1.Writer, .int .i64 t211.1.TS, .bool t211.1.Tomb, .string (bs t211.1.Value)] 27 (0, 0)), Blk b195 (.cells #[.int .i64 t192.1.Writer, .int .i64 t192.1.TS, .bool t192.1.Tomb, .string (bs t192.1.Value)] 27 (0, 0)), Blk b179 (.cells #[.int .i64 t176.1.Writer, .int .i64 t176.1.TS, .bool t176.1.Tomb, .string (bs t176.1.Value)] 27 (0, 0))]) 30 (Ls 83 [0, 1, 2, 3, 4, 5, 6, 7, 8, 9, 10, 11, 12, 13, 14, 15, 16, 17, 18, 19, 20, 21, 22, 23, 24, 25, 26, 27, 28, 29, 30, 31, 32, 33, 34, 35, 36, 37, 38, 39, 40, 41, 43, 44, 42, 45, 46, 47, 48, 50, 49, 51, 52]) ?_ ?_
                            · clear o914h
                              rintro ρ w915 ⟨x913, M916, rfl, hρ, hM917, E, S⟩
                              rw [agree_eta hρ]
                              clear hρ
                              replace HM := Hp.le_trans HM hM917
                              replace hM46 := Hp.le_trans hM46 hM917
                              replace hM899 := Hp.le_trans hM899 hM917
                              replace hf78 := SlR.mono hf78 hM917
                              replace hf81 := SlR.mono hf81 hM917
                              replace hf84 := SlR.mono hf84 hM917
                              replace hf87 := SlR.mono hf87 hM917
                              replace hf90 := SlR.mono hf90 hM917
                              replace hf191 := SlR.mono hf191 hM917
                              replace hf210 := SlR.mono hf210 hM917
                              replace hf524 := SlR.mono hf524 hM917
                              have H := o914H
                              clear o914H
                              refine Wa_take (i := 53) rfl (by kernel_rfl) rfl rfl (.bool x913) rfl (fun w' h' => x_move rfl) (⟨M916, hM899, S.pick [0, 1, 2] (by decide)⟩) ?_
                              obtain ⟨o932, o932h, o932H⟩ := bindS H
                              clear H
                              refine Wa_join (fun ρ w' => ∃ (x931 : Bool) (Mj : Hp), (x931) = o932 ∧ Agree ρ [(7, .slice A201 t199.length c202), (121, .bool x931)] ∧ M916.le Mj ∧ Ext w w' ∧ St w' Mj F [Blk b214 (.cells #[.int .i64 t211.1.Writer, .int .i64 t211.1.TS, .bool t211.1.Tomb, .string (bs t211.1.Value)] 27 (0, 0)), Blk b195 (.cells #[.int .i64 t192.1.Writer, .int .i64 t192.1.TS, .bool t192.1.Tomb, .string (bs t192.1.Value)] 27 (0, 0)), Blk b179 (.cells #[.int .i64 t176.1.Writer, .int .i64 t176.1.TS, .bool t176.1.Tomb, .string (bs t176.1.Value)] 27 (0, 0))]) 24 (Ls 83 [0, 1, 2, 3, 4, 5, 6, 7, 8, 9, 10, 11, 12, 13, 14, 15, 16, 17, 18, 19, 20, 21, 22, 23, 24, 25, 26, 27, 28, 29, 30, 31, 32, 33, 34, 35, 36, 37, 38, 39, 40, 41, 43, 44, 42, 45, 46, 47, 48, 50, 49, 51, 52, 53, 54, 56, 55, 57, 58]) ?_ ?_
                              · clear o932h
                                rintro ρ w933 ⟨x931, M934, rfl, hρ, hM935, E, S⟩
                                rw [agree_eta hρ]
                                clear hρ
                                replace HM := Hp.le_trans HM hM935
                                replace hM46 := Hp.le_trans hM46 hM935
                                replace hM899 := Hp.le_trans hM899 hM935
                                replace hM917 := Hp.le_trans hM917 hM935
                                replace hf78 := SlR.mono hf78 hM935
                                replace hf81 := SlR.mono hf81 hM935
                                replace hf84 := SlR.mono hf84 hM935
                                replace hf87 := SlR.mono hf87 hM935
                                replace hf90 := SlR.mono hf90 hM935
                                replace hf191 := SlR.mono hf191 hM935
                                replace hf210 := SlR.mono hf210 hM935
                                replace hf524 := SlR.mono hf524 hM935
                                have H := o932H
                                clear o932H
                                refine Wa_take (i := 59) rfl (by kernel_rfl) rfl rfl (.bool x931) rfl (fun w' h' => x_move rfl) (⟨M934, hM899, S.pick [0, 1, 2] (by decide)⟩) ?_
                                obtain ⟨o946, o946h, o946H⟩ := bindS H
                                clear H
                                refine Wa_join (fun ρ w' => ∃ (x945 : Bool), (x945) = o946 ∧ Agree ρ [(7, .slice A201 t199.length c202), (128, .bool x945)] ∧ Ext w w' ∧ St w' M934 F [Blk b214 (.cells #[.int .i64 t211.1.Writer, .int .i64 t211.1.TS, .bool t211.1.Tomb, .string (bs t211.1.Value)] 27 (0, 0)), Blk b195 (.cells #[.int .i64 t192.1.Writer, .int .i64 t192.1.TS, .bool t192.1.Tomb, .string (bs t192.1.Value)] 27 (0, 0)), Blk b179 (.cells #[.int .i64 t176.1.Writer, .int .i64 t176.1.TS, .bool t176.1.Tomb, .string (bs t176.1.Value)] 27 (0, 0))]) 17 (Ls 83 [0, 1, 2, 3, 4, 5, 6, 7, 8, 9, 10, 11, 12, 13, 14, 15, 16, 17, 18, 19, 20, 21, 22, 23, 24, 25, 26, 27, 28, 29, 30, 31, 32, 33, 34, 35, 36, 37, 38, 39, 40, 41, 43, 44, 42, 45, 46, 47, 48, 50, 49, 51, 52, 53, 54, 56, 55, 57, 58, 59, 60, 61, 62, 63, 64, 65]) ?_ ?_
                                · clear o946h
                                  rintro ρ w947 ⟨x945, rfl, hρ, E, S⟩
                                  rw [agree_eta hρ]
                                  clear hρ
                                  have H := o946H
                                  clear o946H
                                  refine Wa_take (i := 66) rfl (by kernel_rfl) rfl rfl (.bool x945) rfl (fun w' h' => x_move rfl) (⟨M934, hM899, S.pick [0, 1, 2] (by decide)⟩) ?_
                                  obtain ⟨o964, o964h, o964H⟩ := bindS H
                                  clear H
                                  refine Wa_join (fun ρ w' => ∃ (x963 : Bool) (Mj : Hp), (x963) = o964 ∧ Agree ρ [(7, .slice A201 t199.length c202), (136, .bool x963)] ∧ M934.le Mj ∧ Ext w w' ∧ St w' Mj F [Blk b214 (.cells #[.int .i64 t211.1.Writer, .int .i64 t211.1.TS, .bool t211.1.Tomb, .string (bs t211.1.Value)] 27 (0, 0)), Blk b195 (.cells #[.int .i64 t192.1.Writer, .int .i64 t192.1.TS, .bool t192.1.Tomb, .string (bs t192.1.Value)] 27 (0, 0)), Blk b179 (.cells #[.int .i64 t176.1.Writer, .int .i64 t176.1.TS, .bool t176.1.Tomb, .string (bs t176.1.Value)] 27 (0, 0))]) 9 (Ls 83 [0, 1, 2, 3, 4, 5, 6, 7, 8, 9, 10, 11, 12, 13, 14, 15, 16, 17, 18, 19, 20, 21, 22, 23, 24, 25, 26, 27, 28, 29, 30, 31, 32, 33, 34, 35, 36, 37, 38, 39, 40, 41, 43, 44, 42, 45, 46, 47, 48, 50, 49, 51, 52, 53, 54, 56, 55, 57, 58, 59, 60, 61, 62, 63, 64, 65, 66, 67, 68, 69, 70, 71, 72, 73]) ?_ ?_
                                  · clear o964h
                                    rintro ρ w965 ⟨x963, M966, rfl, hρ, hM967, E, S⟩
                                    rw [agree_eta hρ]
                                    clear hρ
                                    replace HM := Hp.le_trans HM hM967
                                    replace hM46 := Hp.le_trans hM46 hM967
                                    replace hM899 := Hp.le_trans hM899 hM967
                                    replace hM917 := Hp.le_trans hM917 hM967
                                    replace hM935 := Hp.le_trans hM935 hM967
                                    replace hf78 := SlR.mono hf78 hM967
                                    replace hf81 := SlR.mono hf81 hM967
                                    replace hf84 := SlR.mono hf84 hM967
                                    replace hf87 := SlR.mono hf87 hM967
                                    replace hf90 := SlR.mono hf90 hM967
                                    replace hf191 := SlR.mono hf191 hM967
                                    replace hf210 := SlR.mono hf210 hM967
                                    replace hf524 := SlR.mono hf524 hM967
                                    have H := o964H
                                    clear o964H
                                    refine Wa_take (i := 74) rfl (by kernel_rfl) rfl rfl (.bool x963) rfl (fun w' h' => x_move rfl) (⟨M966, hM899, S.pick [0, 1, 2] (by decide)⟩) ?_
                                    obtain ⟨o984, o984h, o984H⟩ := bindS H
                                    clear H
                                    refine Wa_join (fun ρ w' => ∃ (x983 : Bool) (Mj : Hp), (x983) = o984 ∧ Agree ρ [(144, .bool x983)] ∧ M966.le Mj ∧ Ext w w' ∧ St w' Mj F [Blk b214 (.cells #[.int .i64 t211.1.Writer, .int .i64 t211.1.TS, .bool t211.1.Tomb, .string (bs t211.1.Value)] 27 (0, 0)), Blk b195 (.cells #[.int .i64 t192.1.Writer, .int .i64 t192.1.TS, .bool t192.1.Tomb, .string (bs t192.1.Value)] 27 (0, 0)), Blk b179 (.cells #[.int .i64 t176.1.Writer, .int .i64 t176.1.TS, .bool t176.1.Tomb, .string (bs t176.1.Value)] 27 (0, 0))]) 1 (Ls 83 [0, 1, 2, 3, 4, 5, 6, 7, 8, 9, 10, 11, 12, 13, 14, 15, 16, 17, 18, 19, 20, 21, 22, 23, 24, 25, 26, 27, 28, 29, 30, 31, 32, 33, 34, 35, 36, 37, 38, 39, 40, 41, 43, 44, 42, 45, 46, 47, 48, 50, 49, 51, 52, 53, 54, 56, 55, 57, 58, 59, 60, 61, 62, 63, 64, 65, 66, 67, 68, 69, 70, 71, 72, 73, 74, 75, 76, 77, 78, 79, 80, 81]) ?_ ?_
                                    · clear o984h
                                      rintro ρ w985 ⟨x983, M986, rfl, hρ, hM987, E, S⟩
                                      rw [agree_eta hρ]
                                      clear hρ
                                      replace HM := Hp.le_trans HM hM987
                                      replace hM46 := Hp.le_trans hM46 hM987
                                      replace hM899 := Hp.le_trans hM899 hM987
                                      replace hM917 := Hp.le_trans hM917 hM987
                                      replace hM935 := Hp.le_trans hM935 hM987
                                      replace hM967 := Hp.le_trans hM967 hM987
                                      replace hf78 := SlR.mono hf78 hM987
                                      replace hf81 := SlR.mono hf81 hM987
                                      replace hf84 := SlR.mono hf84 hM987
                                      replace hf87 := SlR.mono hf87 hM987
                                      replace hf90 := SlR.mono hf90 hM987
                                      replace hf191 := SlR.mono hf191 hM987
                                      replace hf210 := SlR.mono hf210 hM987
                                      replace hf524 := SlR.mono hf524 hM987
                                      have H := o984H
                                      clear o984H
                                      refine Wa_take (i := 82) rfl (by kernel_rfl) rfl rfl (.bool x983) rfl (fun w' h' => x_assign rfl) (⟨M986, hM899, S.pick [0, 1, 2] (by decide)⟩) ?_
                                      refine Wa_done (by kernel_rfl) ?_
                                      refine tn ?_
                                      refine Wp_ret ?_
                                      obtain rfl := Option.some.inj H
                                      exact ⟨_, _, _, fun w1 e1 => run_resR (vs := [.bool x983]) (FA.cons (rfl) (FA.nil)), HM, E, S.pick [] (by decide), ⟨rfl, rfl⟩⟩
                                    · intro hrest
                                      have H := o984h
                                      clear o984h o984H
                                      have LE988 := Hp.le_refl M966
                                      rcases iteS H with ⟨hb982, H⟩ | ⟨hb982, H⟩
                                      · skip
                                        refine Wa_takeY (i := 75) rfl (by kernel_rfl) rfl rfl (.slice A201 t199.length c202) rfl (congrArg some hb982) (fun w' h' => x_move rfl) (⟨M966, hM899, S.pick [0, 1, 2] (by decide)⟩) ?_
                                        obtain ⟨⟨p989, p990⟩, H⟩ := chkS H
                                        obtain ⟨hs992, hx993⟩ := sl_hi hf524z p989 p990
                                        have hs992z := hs992
                                        replace hs992 := SlR.mono hs992 hM899
                                        refine Wa_takeY (i := 76) rfl (by kernel_rfl) rfl rfl (.slice A201 (List.take (1 : Int).toNat t199).length c202) rfl (congrArg some hb982) (fun w' h' => hx993 Try.underlying22 ty27 rfl rfl) (⟨M966, hM899, S.pick [0, 1, 2] (by decide)⟩) ?_
                                        refine Wa_takeY (i := 77) rfl (by kernel_rfl) rfl rfl (.agg #[.int .i64 5, .int .i64 9, .bool false, .string (bs ([98] : Str))]) rfl (congrArg some hb982) (fun w' h' => x_build #[.int .i64 5, .int .i64 9, .bool false, .string (bs ([98] : Str))] Try.underlying27 ty27 (by simp [IsTy.sizeOf ty3, IsTy.sizeOf ty4, IsTy.sizeOf ty9]; rfl) rfl rfl) (⟨M966, hM899, S.pick [0, 1, 2] (by decide)⟩) ?_
                                        refine Wa_solo (i := 78) rfl (by kernel_rfl) ?_
                                        refine W_yes (congrArg some hb982) ?_
                                        refine W_bslice S #[.int .i64 5, .int .i64 9, .bool false, .string (bs ([98] : Str))] Try.underlying22 ty27 rfl rfl #[.int .i64 0, .int .i64 0, .bool false, .string (bs ([] : Str))] (by kernel_rfl) (by kernel_rfl) rfl ?_
                                        intro b994 w995 E' S
                                        replace E := E.trans E'
                                        clear E'
                                        replace S := S.blk_row (r := r_api_Version) (l := ([(⟨(5 : Int), (9 : Int), false, ([98] : Str)⟩ : api_Version)] : List api_Version)) 0 rfl 1 (Nat.le_refl 1) rfl (Cells.cons (vs := [.int .i64 5, .int .i64 9, .bool false, .string (bs ([98] : Str))]) (rfl) Cells.nil)
                                        refine Wl_nil (on_n ⟨⟨M966, hM899, S.pick [1, 2, 3] (by decide)⟩, ?_⟩)
                                        refine Wa_solo (i := 79) rfl (by kernel_rfl) ?_
                                        refine W_yes (congrArg some hb982) ?_
                                        obtain ⟨M997, hM998, hf999, S⟩ := S.row_freeze 0 rfl
                                        replace HM := Hp.le_trans HM hM998
                                        replace hM46 := Hp.le_trans hM46 hM998
                                        replace hM899 := Hp.le_trans hM899 hM998
                                        replace hM917 := Hp.le_trans hM917 hM998
                                        replace hM935 := Hp.le_trans hM935 hM998
                                        replace hM967 := Hp.le_trans hM967 hM998
                                        replace LE988 := Hp.le_trans LE988 hM998
                                        replace hf78 := SlR.mono hf78 hM998
                                        replace hf81 := SlR.mono hf81 hM998
                                        replace hf84 := SlR.mono hf84 hM998
                                        replace hf87 := SlR.mono hf87 hM998
                                        replace hf90 := SlR.mono hf90 hM998
                                        replace hf191 := SlR.mono hf191 hM998
                                        replace hf210 := SlR.mono hf210 hM998
                                        replace hf524 := SlR.mono hf524 hM998
                                        replace hs992 := SlR.mono hs992 hM998
                                        obtain ⟨t1000, ht1001, H⟩ := bindS H
                                        refine W_callF fn17 (keep_Same.con k M997 A201 c202 (List.take (1 : Int).toNat t199) (some ⟨b994, 0, none⟩) 1 ([(⟨(5 : Int), (9 : Int), false, ([98] : Str)⟩ : api_Version)] : List api_Version) t1000 hs992 hf999 ht1001) S rfl rfl (by rintro _ _ _ ⟨_, rfl⟩; exact flat_nil) ?_
                                        rintro _ w1002 _ Γ' E' S ⟨rfl, rfl⟩
                                        replace E := E.trans E'
                                        clear E'
                                        refine Wl_nil (on_n ⟨⟨M997, hM899, S.pick [0, 1, 2] (by decide)⟩, ?_⟩)
                                        refine Wa_takeY (i := 80) rfl (by kernel_rfl) rfl rfl (.bool (!t1000)) rfl (congrArg some hb982) (fun w' h' => x_not rfl) (⟨M997, hM899, S.pick [0, 1, 2] (by decide)⟩) ?_
                                        refine Wa_take (i := 81) rfl (by kernel_rfl) rfl rfl (.bool (!t1000)) rfl (fun w' h' => x_pick (k := true) (congrArg Value.bool hb982) rfl) (⟨M997, hM899, S.pick [0, 1, 2] (by decide)⟩) ?_
                                        exact hrest _ _ ⟨(!t1000), M997, Option.some.inj H, ⟨rfl, trivial⟩, LE988, E, S.pick [0, 1, 2] (by decide)⟩
                                      · skip
                                        refine Wa_takeN (i := 75) rfl (by kernel_rfl) rfl rfl rfl (skT hb982) (⟨M966, hM899, S.pick [0, 1, 2] (by decide)⟩) ?_
                                        refine Wa_takeN (i := 76) rfl (by kernel_rfl) rfl rfl rfl (skT hb982) (⟨M966, hM899, S.pick [0, 1, 2] (by decide)⟩) ?_
                                        refine Wa_takeN (i := 77) rfl (by kernel_rfl) rfl rfl rfl (skT hb982) (⟨M966, hM899, S.pick [0, 1, 2] (by decide)⟩) ?_
                                        refine Wa_takeN (i := 78) rfl (by kernel_rfl) rfl rfl rfl (skT hb982) (⟨M966, hM899, S.pick [0, 1, 2] (by decide)⟩) ?_
                                        refine Wa_takeN (i := 79) rfl (by kernel_rfl) rfl rfl rfl (skT hb982) (⟨M966, hM899, S.pick [0, 1, 2] (by decide)⟩) ?_
                                        refine Wa_takeN (i := 80) rfl (by kernel_rfl) rfl rfl rfl (skT hb982) (⟨M966, hM899, S.pick [0, 1, 2] (by decide)⟩) ?_
                                        refine Wa_take (i := 81) rfl (by kernel_rfl) rfl rfl (.bool false) rfl (fun w' h' => x_pick (k := false) (congrArg Value.bool hb982) rfl) (⟨M966, hM899, S.pick [0, 1, 2] (by decide)⟩) ?_
                                        exact hrest _ _ ⟨false, M966, Option.some.inj H, ⟨rfl, trivial⟩, (Hp.le_refl M966), E, S.pick [0, 1, 2] (by decide)⟩
                                  · intro hrest
                                    have H := o964h
                                    clear o964h o964H
                                    have LE1003 := Hp.le_refl M934
                                    rcases iteS H with ⟨hb962, H⟩ | ⟨hb962, H⟩
                                    · skip
                                      refine Wa_takeY (i := 67) rfl (by kernel_rfl) rfl rfl (.slice A201 t199.length c202) rfl (congrArg some hb962) (fun w' h' => x_move rfl) (⟨M934, hM899, S.pick [0, 1, 2] (by decide)⟩) ?_
                                      obtain ⟨⟨p1004, p1005⟩, H⟩ := chkS H
                                      obtain ⟨hs1007, hx1008⟩ := sl_hi hf524z p1004 p1005
                                      have hs1007z := hs1007
                                      replace hs1007 := SlR.mono hs1007 hM899
                                      refine Wa_takeY (i := 68) rfl (by kernel_rfl) rfl rfl (.slice A201 (List.take (1 : Int).toNat t199).length c202) rfl (congrArg some hb962) (fun w' h' => hx1008 Try.underlying22 ty27 rfl rfl) (⟨M934, hM899, S.pick [0, 1, 2] (by decide)⟩) ?_
                                      refine Wa_takeY (i := 69) rfl (by kernel_rfl) rfl rfl (.agg #[.int .i64 4, .int .i64 9, .bool false, .string (bs ([99] : Str))]) rfl (congrArg some hb962) (fun w' h' => x_build #[.int .i64 4, .int .i64 9, .bool false, .string (bs ([99] : Str))] Try.underlying27 ty27 (by simp [IsTy.sizeOf ty3, IsTy.sizeOf ty4, IsTy.sizeOf ty9]; rfl) rfl rfl) (⟨M934, hM899, S.pick [0, 1, 2] (by decide)⟩) ?_
                                      refine Wa_solo (i := 70) rfl (by kernel_rfl) ?_
                                      refine W_yes (congrArg some hb962) ?_
                                      refine W_bslice S #[.int .i64 4, .int .i64 9, .bool false, .string (bs ([99] : Str))] Try.underlying22 ty27 rfl rfl #[.int .i64 0, .int .i64 0, .bool false, .string (bs ([] : Str))] (by kernel_rfl) (by kernel_rfl) rfl ?_
                                      intro b1009 w1010 E' S
                                      replace E := E.trans E'
                                      clear E'
                                      replace S := S.blk_row (r := r_api_Version) (l := ([(⟨(4 : Int), (9 : Int), false, ([99] : Str)⟩ : api_Version)] : List api_Version)) 0 rfl 1 (Nat.le_refl 1) rfl (Cells.cons (vs := [.int .i64 4, .int .i64 9, .bool false, .string (bs ([99] : Str))]) (rfl) Cells.nil)
                                      refine Wl_nil (on_n ⟨⟨M934, hM899, S.pick [1, 2, 3] (by decide)⟩, ?_⟩)
                                      refine Wa_solo (i := 71) rfl (by kernel_rfl) ?_
                                      refine W_yes (congrArg some hb962) ?_
                                      obtain ⟨M1012, hM1013, hf1014, S⟩ := S.row_freeze 0 rfl
                                      replace HM := Hp.le_trans HM hM1013
                                      replace hM46 := Hp.le_trans hM46 hM1013
                                      replace hM899 := Hp.le_trans hM899 hM1013
                                      replace hM917 := Hp.le_trans hM917 hM1013
                                      replace hM935 := Hp.le_trans hM935 hM1013
                                      replace LE1003 := Hp.le_trans LE1003 hM1013
                                      replace hf78 := SlR.mono hf78 hM1013
                                      replace hf81 := SlR.mono hf81 hM1013
                                      replace hf84 := SlR.mono hf84 hM1013
                                      replace hf87 := SlR.mono hf87 hM1013
                                      replace hf90 := SlR.mono hf90 hM1013
                                      replace hf191 := SlR.mono hf191 hM1013
                                      replace hf210 := SlR.mono hf210 hM1013
                                      replace hf524 := SlR.mono hf524 hM1013
                                      replace hs1007 := SlR.mono hs1007 hM1013
                                      obtain ⟨t1015, ht1016, H⟩ := bindS H
                                      refine W_callF fn17 (keep_Same.con k M1012 A201 c202 (List.take (1 : Int).toNat t199) (some ⟨b1009, 0, none⟩) 1 ([(⟨(4 : Int), (9 : Int), false, ([99] : Str)⟩ : api_Version)] : List api_Version) t1015 hs1007 hf1014 ht1016) S rfl rfl (by rintro _ _ _ ⟨_, rfl⟩; exact flat_nil) ?_
                                      rintro _ w1017 _ Γ' E' S ⟨rfl, rfl⟩
                                      replace E := E.trans E'
                                      clear E'
                                      refine Wl_nil (on_n ⟨⟨M1012, hM899, S.pick [0, 1, 2] (by decide)⟩, ?_⟩)
                                      refine Wa_takeY (i := 72) rfl (by kernel_rfl) rfl rfl (.bool (!t1015)) rfl (congrArg some hb962) (fun w' h' => x_not rfl) (⟨M1012, hM899, S.pick [0, 1, 2] (by decide)⟩) ?_
                                      refine Wa_take (i := 73) rfl (by kernel_rfl) rfl rfl (.bool (!t1015)) rfl (fun w' h' => x_pick (k := true) (congrArg Value.bool hb962) rfl) (⟨M1012, hM899, S.pick [0, 1, 2] (by decide)⟩) ?_
                                      exact hrest _ _ ⟨(!t1015), M1012, Option.some.inj H, ⟨rfl, rfl, trivial⟩, LE1003, E, S.pick [0, 1, 2] (by decide)⟩
                                    · skip
                                      refine Wa_takeN (i := 67) rfl (by kernel_rfl) rfl rfl rfl (skT hb962) (⟨M934, hM899, S.pick [0, 1, 2] (by decide)⟩) ?_
                                      refine Wa_takeN (i := 68) rfl (by kernel_rfl) rfl rfl rfl (skT hb962) (⟨M934, hM899, S.pick [0, 1, 2] (by decide)⟩) ?_
                                      refine Wa_takeN (i := 69) rfl (by kernel_rfl) rfl rfl rfl (skT hb962) (⟨M934, hM899, S.pick [0, 1, 2] (by decide)⟩) ?_
                                      refine Wa_takeN (i := 70) rfl (by kernel_rfl) rfl rfl rfl (skT hb962) (⟨M934, hM899, S.pick [0, 1, 2] (by decide)⟩) ?_
                                      refine Wa_takeN (i := 71) rfl (by kernel_rfl) rfl rfl rfl (skT hb962) (⟨M934, hM899, S.pick [0, 1, 2] (by decide)⟩) ?_
                                      refine Wa_takeN (i := 72) rfl (by kernel_rfl) rfl rfl rfl (skT hb962) (⟨M934, hM899, S.pick [0, 1, 2] (by decide)⟩) ?_
                                      refine Wa_take (i := 73) rfl (by kernel_rfl) rfl rfl (.bool false) rfl (fun w' h' => x_pick (k := false) (congrArg Value.bool hb962) rfl) (⟨M934, hM899, S.pick [0, 1, 2] (by decide)⟩) ?_
                                      exact hrest _ _ ⟨false, M934, Option.some.inj H, ⟨rfl, rfl, trivial⟩, (Hp.le_refl M934), E, S.pick [0, 1, 2] (by decide)⟩
                                · intro hrest
                                  have H := o946h
                                  clear o946h o946H
                                  rcases iteS H with ⟨hb944, H⟩ | ⟨hb944, H⟩
                                  · skip
                                    refine Wa_takeY (i := 60) rfl (by kernel_rfl) rfl rfl (.slice A201 t199.length c202) rfl (congrArg some hb944) (fun w' h' => x_move rfl) (⟨M934, hM899, S.pick [0, 1, 2] (by decide)⟩) ?_
                                    refine Wa_takeY (i := 61) rfl (by kernel_rfl) rfl rfl (.slice A201 t199.length c202) rfl (congrArg some hb944) (fun w' h' => x_move rfl) (⟨M934, hM899, S.pick [0, 1, 2] (by decide)⟩) ?_
                                    obtain ⟨⟨p1018, p1019⟩, H⟩ := chkS H
                                    obtain ⟨hs1021, hx1022⟩ := sl_hi hf524z p1018 p1019
                                    have hs1021z := hs1021
                                    replace hs1021 := SlR.mono hs1021 hM899
                                    refine Wa_takeY (i := 62) rfl (by kernel_rfl) rfl rfl (.slice A201 (List.take (3 : Int).toNat t199).length c202) rfl (congrArg some hb944) (fun w' h' => hx1022 Try.underlying22 ty27 rfl rfl) (⟨M934, hM899, S.pick [0, 1, 2] (by decide)⟩) ?_
                                    refine Wa_solo (i := 63) rfl (by kernel_rfl) ?_
                                    refine W_yes (congrArg some hb944) ?_
                                    obtain ⟨t1023, ht1024, H⟩ := bindS H
                                    refine W_callF fn17 (keep_Same.con k M934 A201 c202 t199 A201 c202 (List.take (3 : Int).toNat t199) t1023 hf524 hs1021 ht1024) S rfl rfl (by rintro _ _ _ ⟨_, rfl⟩; exact flat_nil) ?_
                                    rintro _ w1025 _ Γ' E' S ⟨rfl, rfl⟩
                                    replace E := E.trans E'
                                    clear E'
                                    refine Wl_nil (on_n ⟨⟨M934, hM899, S.pick [0, 1, 2] (by decide)⟩, ?_⟩)
                                    refine Wa_takeY (i := 64) rfl (by kernel_rfl) rfl rfl (.bool (!t1023)) rfl (congrArg some hb944) (fun w' h' => x_not rfl) (⟨M934, hM899, S.pick [0, 1, 2] (by decide)⟩) ?_
                                    refine Wa_take (i := 65) rfl (by kernel_rfl) rfl rfl (.bool (!t1023)) rfl (fun w' h' => x_pick (k := true) (congrArg Value.bool hb944) rfl) (⟨M934, hM899, S.pick [0, 1, 2] (by decide)⟩) ?_
                                    exact hrest _ _ ⟨(!t1023), Option.some.inj H, ⟨rfl, rfl, trivial⟩, E, S.pick [0, 1, 2] (by decide)⟩
                                  · skip
                                    refine Wa_takeN (i := 60) rfl (by kernel_rfl) rfl rfl rfl (skT hb944) (⟨M934, hM899, S.pick [0, 1, 2] (by decide)⟩) ?_
                                    refine Wa_takeN (i := 61) rfl (by kernel_rfl) rfl rfl rfl (skT hb944) (⟨M934, hM899, S.pick [0, 1, 2] (by decide)⟩) ?_
                                    refine Wa_takeN (i := 62) rfl (by kernel_rfl) rfl rfl rfl (skT hb944) (⟨M934, hM899, S.pick [0, 1, 2] (by decide)⟩) ?_
                                    refine Wa_takeN (i := 63) rfl (by kernel_rfl) rfl rfl rfl (skT hb944) (⟨M934, hM899, S.pick [0, 1, 2] (by decide)⟩) ?_
                                    refine Wa_takeN (i := 64) rfl (by kernel_rfl) rfl rfl rfl (skT hb944) (⟨M934, hM899, S.pick [0, 1, 2] (by decide)⟩) ?_
                                    refine Wa_take (i := 65) rfl (by kernel_rfl) rfl rfl (.bool false) rfl (fun w' h' => x_pick (k := false) (congrArg Value.bool hb944) rfl) (⟨M934, hM899, S.pick [0, 1, 2] (by decide)⟩) ?_
                                    exact hrest _ _ ⟨false, Option.some.inj H, ⟨rfl, rfl, trivial⟩, E, S.pick [0, 1, 2] (by decide)⟩
                              · intro hrest
                                have H := o932h
                                clear o932h o932H
                                have LE1026 := Hp.le_refl M916
                                rcases iteS H with ⟨hb930, H⟩ | ⟨hb930, H⟩
                                · skip
                                  refine Wa_takeY (i := 54) rfl (by kernel_rfl) rfl rfl (.slice A201 t199.length c202) rfl (congrArg some hb930) (fun w' h' => x_move rfl) (⟨M916, hM899, S.pick [0, 1, 2] (by decide)⟩) ?_
                                  refine Wa_takeY (i := 56) rfl (by kernel_rfl) rfl rfl (.slice A201 t199.length c202) rfl (congrArg some hb930) (fun w' h' => x_move rfl) (⟨M916, hM899, S.pick [0, 1, 2] (by decide)⟩) ?_
                                  refine Wa_solo (i := 55) rfl (by kernel_rfl) ?_
                                  refine W_yes (congrArg some hb930) ?_
                                  obtain ⟨t1027, ht1028, H⟩ := bindS H
                                  refine W_callF fn11 (keep_Kept.con k M916 A201 c202 t199 (-9223372036854775808 : Int) t1027 hf524 ht1028) S rfl rfl (by rintro _ _ _ ⟨_, _, _, rfl⟩; exact (flat_cons (flat_row (fun _ _ _ _ h => h)) flat_nil)) ?_
                                  rintro _ w1032 _ Γ' E' S ⟨A1029, c1030, rfl, rfl⟩
                                  replace E := E.trans E'
                                  clear E'
                                  refine Wl_nil (on_n ⟨⟨M916, hM899, S.pick [1, 2, 3] (by decide)⟩, ?_⟩)
                                  refine Wa_solo (i := 57) rfl (by kernel_rfl) ?_
                                  refine W_yes (congrArg some hb930) ?_
                                  obtain ⟨M1033, hM1034, hf1035, S⟩ := S.row_freeze 0 rfl
                                  replace HM := Hp.le_trans HM hM1034
                                  replace hM46 := Hp.le_trans hM46 hM1034
                                  replace hM899 := Hp.le_trans hM899 hM1034
                                  replace hM917 := Hp.le_trans hM917 hM1034
                                  replace LE1026 := Hp.le_trans LE1026 hM1034
                                  replace hf78 := SlR.mono hf78 hM1034
                                  replace hf81 := SlR.mono hf81 hM1034
                                  replace hf84 := SlR.mono hf84 hM1034
                                  replace hf87 := SlR.mono hf87 hM1034
                                  replace hf90 := SlR.mono hf90 hM1034
                                  replace hf191 := SlR.mono hf191 hM1034
                                  replace hf210 := SlR.mono hf210 hM1034
                                  replace hf524 := SlR.mono hf524 hM1034
                                  obtain ⟨t1036, ht1037, H⟩ := bindS H
                                  refine W_callF fn15 (ferrymanref11_Same.con k M1033 A1029 c1030 t1027 A201 c202 t199 t1036 hf1035 hf524 ht1037) S rfl rfl (by rintro _ _ _ ⟨_, rfl⟩; exact flat_nil) ?_
                                  rintro _ w1038 _ Γ' E' S ⟨rfl, rfl⟩
                                  replace E := E.trans E'
                                  clear E'
                                  refine Wl_nil (on_n ⟨⟨M1033, hM899, S.pick [0, 1, 2] (by decide)⟩, ?_⟩)
                                  refine Wa_take (i := 58) rfl (by kernel_rfl) rfl rfl (.bool t1036) rfl (fun w' h' => x_pick (k := true) (congrArg Value.bool hb930) rfl) (⟨M1033, hM899, S.pick [0, 1, 2] (by decide)⟩) ?_
                                  exact hrest _ _ ⟨t1036, M1033, Option.some.inj H, ⟨rfl, rfl, trivial⟩, LE1026, E, S.pick [0, 1, 2] (by decide)⟩
                                · skip
                                  refine Wa_takeN (i := 54) rfl (by kernel_rfl) rfl rfl rfl (skT hb930) (⟨M916, hM899, S.pick [0, 1, 2] (by decide)⟩) ?_
                                  refine Wa_takeN (i := 55) rfl (by kernel_rfl) rfl rfl rfl (skT hb930) (⟨M916, hM899, S.pick [0, 1, 2] (by decide)⟩) ?_
                                  refine Wa_takeN (i := 56) rfl (by kernel_rfl) rfl rfl rfl (skT hb930) (⟨M916, hM899, S.pick [0, 1, 2] (by decide)⟩) ?_
                                  refine Wa_takeN (i := 57) rfl (by kernel_rfl) rfl rfl rfl (skT hb930) (⟨M916, hM899, S.pick [0, 1, 2] (by decide)⟩) ?_
                                  refine Wa_take (i := 58) rfl (by kernel_rfl) rfl rfl (.bool false) rfl (fun w' h' => x_pick (k := false) (congrArg Value.bool hb930) rfl) (⟨M916, hM899, S.pick [0, 1, 2] (by decide)⟩) ?_
                                  exact hrest _ _ ⟨false, M916, Option.some.inj H, ⟨rfl, rfl, trivial⟩, (Hp.le_refl M916), E, S.pick [0, 1, 2] (by decide)⟩
                            · intro hrest
                              have H := o914h
                              clear o914h o914H
                              have LE1039 := Hp.le_refl M898
                              rcases iteS H with ⟨hb912, H⟩ | ⟨hb912, H⟩
                              · skip
                                refine Wa_takeY (i := 48) rfl (by kernel_rfl) rfl rfl (.slice (some ⟨b205, 0, none⟩) ([(⟨(0 : Int), (3 : Int), false, ([120] : Str)⟩ : api_Version), (⟨(0 : Int), (7 : Int), false, ([121] : Str)⟩ : api_Version)] : List api_Version).length 2) rfl (congrArg some hb912) (fun w' h' => x_move rfl) (⟨M898, hM899, S.pick [0, 1, 2] (by decide)⟩) ?_
                                refine Wa_takeY (i := 50) rfl (by kernel_rfl) rfl rfl (.slice (some ⟨b205, 0, none⟩) ([(⟨(0 : Int), (3 : Int), false, ([120] : Str)⟩ : api_Version), (⟨(0 : Int), (7 : Int), false, ([121] : Str)⟩ : api_Version)] : List api_Version).length 2) rfl (congrArg some hb912) (fun w' h' => x_move rfl) (⟨M898, hM899, S.pick [0, 1, 2] (by decide)⟩) ?_
                                refine Wa_solo (i := 49) rfl (by kernel_rfl) ?_
                                refine W_yes (congrArg some hb912) ?_
                                obtain ⟨t1040, ht1041, H⟩ := bindS H
                                refine W_callF fn11 (keep_Kept.con k M898 (some ⟨b205, 0, none⟩) 2 ([(⟨(0 : Int), (3 : Int), false, ([120] : Str)⟩ : api_Version), (⟨(0 : Int), (7 : Int), false, ([121] : Str)⟩ : api_Version)] : List api_Version) (2 : Int) t1040 hf210 ht1041) S rfl rfl (by rintro _ _ _ ⟨_, _, _, rfl⟩; exact (flat_cons (flat_row (fun _ _ _ _ h => h)) flat_nil)) ?_
                                rintro _ w1045 _ Γ' E' S ⟨A1042, c1043, rfl, rfl⟩
                                replace E := E.trans E'
                                clear E'
                                refine Wl_nil (on_n ⟨⟨M898, hM899, S.pick [1, 2, 3] (by decide)⟩, ?_⟩)
                                refine Wa_solo (i := 51) rfl (by kernel_rfl) ?_
                                refine W_yes (congrArg some hb912) ?_
                                obtain ⟨M1046, hM1047, hf1048, S⟩ := S.row_freeze 0 rfl
                                replace HM := Hp.le_trans HM hM1047
                                replace hM46 := Hp.le_trans hM46 hM1047
                                replace hM899 := Hp.le_trans hM899 hM1047
                                replace LE1039 := Hp.le_trans LE1039 hM1047
                                replace hf78 := SlR.mono hf78 hM1047
                                replace hf81 := SlR.mono hf81 hM1047
                                replace hf84 := SlR.mono hf84 hM1047
                                replace hf87 := SlR.mono hf87 hM1047
                                replace hf90 := SlR.mono hf90 hM1047
                                replace hf191 := SlR.mono hf191 hM1047
                                replace hf210 := SlR.mono hf210 hM1047
                                replace hf524 := SlR.mono hf524 hM1047
                                obtain ⟨t1049, ht1050, H⟩ := bindS H
                                refine W_callF fn15 (ferrymanref11_Same.con k M1046 A1042 c1043 t1040 (some ⟨b205, 0, none⟩) 2 ([(⟨(0 : Int), (3 : Int), false, ([120] : Str)⟩ : api_Version), (⟨(0 : Int), (7 : Int), false, ([121] : Str)⟩ : api_Version)] : List api_Version) t1049 hf1048 hf210 ht1050) S rfl rfl (by rintro _ _ _ ⟨_, rfl⟩; exact flat_nil) ?_
                                rintro _ w1051 _ Γ' E' S ⟨rfl, rfl⟩
                                replace E := E.trans E'
                                clear E'
                                refine Wl_nil (on_n ⟨⟨M1046, hM899, S.pick [0, 1, 2] (by decide)⟩, ?_⟩)
                                refine Wa_take (i := 52) rfl (by kernel_rfl) rfl rfl (.bool t1049) rfl (fun w' h' => x_pick (k := true) (congrArg Value.bool hb912) rfl) (⟨M1046, hM899, S.pick [0, 1, 2] (by decide)⟩) ?_
                                exact hrest _ _ ⟨t1049, M1046, Option.some.inj H, ⟨rfl, rfl, trivial⟩, LE1039, E, S.pick [0, 1, 2] (by decide)⟩
                              · skip
                                refine Wa_takeN (i := 48) rfl (by kernel_rfl) rfl rfl rfl (skT hb912) (⟨M898, hM899, S.pick [0, 1, 2] (by decide)⟩) ?_
                                refine Wa_takeN (i := 49) rfl (by kernel_rfl) rfl rfl rfl (skT hb912) (⟨M898, hM899, S.pick [0, 1, 2] (by decide)⟩) ?_
                                refine Wa_takeN (i := 50) rfl (by kernel_rfl) rfl rfl rfl (skT hb912) (⟨M898, hM899, S.pick [0, 1, 2] (by decide)⟩) ?_
                                refine Wa_takeN (i := 51) rfl (by kernel_rfl) rfl rfl rfl (skT hb912) (⟨M898, hM899, S.pick [0, 1, 2] (by decide)⟩) ?_
                                refine Wa_take (i := 52) rfl (by kernel_rfl) rfl rfl (.bool false) rfl (fun w' h' => x_pick (k := false) (congrArg Value.bool hb912) rfl) (⟨M898, hM899, S.pick [0, 1, 2] (by decide)⟩) ?_
                                exact hrest _ _ ⟨false, M898, Option.some.inj H, ⟨rfl, rfl, trivial⟩, (Hp.le_refl M898), E, S.pick [0, 1, 2] (by decide)⟩
                          · intro hrest
                            have H := o896h
                            clear o896h o896H
                            rcases iteS H with ⟨hb894, H⟩ | ⟨hb894, H⟩
                            · skip
                              refine Wa_takeY (i := 41) rfl (by kernel_rfl) rfl rfl (.slice (some ⟨b205, 0, none⟩) ([(⟨(0 : Int), (3 : Int), false, ([120] : Str)⟩ : api_Version), (⟨(0 : Int), (7 : Int), false, ([121] : Str)⟩ : api_Version)] : List api_Version).length 2) rfl (congrArg some hb894) (fun w' h' => x_move rfl) (⟨M522, Hp.le_refl M522, S.pick [0, 1, 2] (by decide)⟩) ?_
                              refine Wa_takeY (i := 43) rfl (by kernel_rfl) rfl rfl (.slice (some ⟨b205, 0, none⟩) ([(⟨(0 : Int), (3 : Int), false, ([120] : Str)⟩ : api_Version), (⟨(0 : Int), (7 : Int), false, ([121] : Str)⟩ : api_Version)] : List api_Version).length 2) rfl (congrArg some hb894) (fun w' h' => x_move rfl) (⟨M522, Hp.le_refl M522, S.pick [0, 1, 2] (by decide)⟩) ?_
                              obtain ⟨⟨p1052, p1053⟩, H⟩ := chkS H
                              obtain ⟨hs1055, hx1056⟩ := sl_hi hf210z p1052 p1053
                              have hs1055z := hs1055
                              refine Wa_takeY (i := 44) rfl (by kernel_rfl) rfl rfl (.slice (some ⟨b205, 0, none⟩) (List.take (1 : Int).toNat ([(⟨(0 : Int), (3 : Int), false, ([120] : Str)⟩ : api_Version), (⟨(0 : Int), (7 : Int), false, ([121] : Str)⟩ : api_Version)] : List api_Version)).length 2) rfl (congrArg some hb894) (fun w' h' => hx1056 Try.underlying22 ty27 rfl rfl) (⟨M522, Hp.le_refl M522, S.pick [0, 1, 2] (by decide)⟩) ?_
                              refine Wa_solo (i := 42) rfl (by kernel_rfl) ?_
                              refine W_yes (congrArg some hb894) ?_
                              obtain ⟨t1057, ht1058, H⟩ := bindS H
                              refine W_callF fn11 (keep_Kept.con k M522 (some ⟨b205, 0, none⟩) 2 ([(⟨(0 : Int), (3 : Int), false, ([120] : Str)⟩ : api_Version), (⟨(0 : Int), (7 : Int), false, ([121] : Str)⟩ : api_Version)] : List api_Version) (5 : Int) t1057 hf210 ht1058) S rfl rfl (by rintro _ _ _ ⟨_, _, _, rfl⟩; exact (flat_cons (flat_row (fun _ _ _ _ h => h)) flat_nil)) ?_
                              rintro _ w1062 _ Γ' E' S ⟨A1059, c1060, rfl, rfl⟩
                              replace E := E.trans E'
                              clear E'
                              refine Wl_nil (on_n ⟨⟨M522, Hp.le_refl M522, S.pick [1, 2, 3] (by decide)⟩, ?_⟩)
                              refine Wa_solo (i := 45) rfl (by kernel_rfl) ?_
                              refine W_yes (congrArg some hb894) ?_
                              obtain ⟨M1063, hM1064, hf1065, S⟩ := S.row_freeze 0 rfl
                              replace HM := Hp.le_trans HM hM1064
                              replace hM46 := Hp.le_trans hM46 hM1064
                              replace LE813 := Hp.le_trans LE813 hM1064
                              replace hf78 := SlR.mono hf78 hM1064
                              replace hf81 := SlR.mono hf81 hM1064
                              replace hf84 := SlR.mono hf84 hM1064
                              replace hf87 := SlR.mono hf87 hM1064
                              replace hf90 := SlR.mono hf90 hM1064
                              replace hf191 := SlR.mono hf191 hM1064
                              replace hf210 := SlR.mono hf210 hM1064
                              replace hf524 := SlR.mono hf524 hM1064
                              replace hs1055 := SlR.mono hs1055 hM1064
                              obtain ⟨t1066, ht1067, H⟩ := bindS H
                              refine W_callF fn15 (ferrymanref11_Same.con k M1063 A1059 c1060 t1057 (some ⟨b205, 0, none⟩) 2 (List.take (1 : Int).toNat ([(⟨(0 : Int), (3 : Int), false, ([120] : Str)⟩ : api_Version), (⟨(0 : Int), (7 : Int), false, ([121] : Str)⟩ : api_Version)] : List api_Version)) t1066 hf1065 hs1055 ht1067) S rfl rfl (by rintro _ _ _ ⟨_, rfl⟩; exact flat_nil) ?_
                              rintro _ w1068 _ Γ' E' S ⟨rfl, rfl⟩
                              replace E := E.trans E'
                              clear E'
                              refine Wl_nil (on_n ⟨⟨M1063, LE813, S.pick [0, 1, 2] (by decide)⟩, ?_⟩)
                              refine Wa_take (i := 46) rfl (by kernel_rfl) rfl rfl (.bool t1066) rfl (fun w' h' => x_pick (k := true) (congrArg Value.bool hb894) rfl) (⟨M1063, LE813, S.pick [0, 1, 2] (by decide)⟩) ?_
                              exact hrest _ _ ⟨t1066, M1063, Option.some.inj H, ⟨rfl, rfl, rfl, trivial⟩, LE813, E, S.pick [0, 1, 2] (by decide)⟩
                            · skip
                              refine Wa_takeN (i := 41) rfl (by kernel_rfl) rfl rfl rfl (skT hb894) (⟨M522, Hp.le_refl M522, S.pick [0, 1, 2] (by decide)⟩) ?_
                              refine Wa_takeN (i := 42) rfl (by kernel_rfl) rfl rfl rfl (skT hb894) (⟨M522, Hp.le_refl M522, S.pick [0, 1, 2] (by decide)⟩) ?_
                              refine Wa_takeN (i := 43) rfl (by kernel_rfl) rfl rfl rfl (skT hb894) (⟨M522, Hp.le_refl M522, S.pick [0, 1, 2] (by decide)⟩) ?_
                              refine Wa_takeN (i := 44) rfl (by kernel_rfl) rfl rfl rfl (skT hb894) (⟨M522, Hp.le_refl M522, S.pick [0, 1, 2] (by decide)⟩) ?_
                              refine Wa_takeN (i := 45) rfl (by kernel_rfl) rfl rfl rfl (skT hb894) (⟨M522, Hp.le_refl M522, S.pick [0, 1, 2] (by decide)⟩) ?_
                              refine Wa_take (i := 46) rfl (by kernel_rfl) rfl rfl (.bool false) rfl (fun w' h' => x_pick (k := false) (congrArg Value.bool hb894) rfl) (⟨M522, Hp.le_refl M522, S.pick [0, 1, 2] (by decide)⟩) ?_
                              exact hrest _ _ ⟨false, M522, Option.some.inj H, ⟨rfl, rfl, rfl, trivial⟩, (Hp.le_refl M522), E, S.pick [0, 1, 2] (by decide)⟩
                        · intro hrest
                          have H := o875h
                          clear o875h o875H
                          rcases iteS H with ⟨hb873, H⟩ | ⟨hb873, H⟩
                          · skip
                            refine Wa_takeY (i := 34) rfl (by kernel_rfl) rfl rfl (.agg #[.int .i64 t211.1.Writer, .int .i64 t211.1.TS, .bool t211.1.Tomb, .string (bs t211.1.Value)]) rfl (congrArg some hb873) (fun w' h' => x_loadA (cls_blk h' 0 rfl) ty27 rfl (sub_of_extract rfl) rfl rfl) (⟨M522, Hp.le_refl M522, S.pick [0, 1, 2] (by decide)⟩) ?_
                            refine Wa_takeY (i := 35) rfl (by kernel_rfl) rfl rfl (.slice (some ⟨b205, 0, none⟩) ([(⟨(0 : Int), (3 : Int), false, ([120] : Str)⟩ : api_Version), (⟨(0 : Int), (7 : Int), false, ([121] : Str)⟩ : api_Version)] : List api_Version).length 2) rfl (congrArg some hb873) (fun w' h' => x_move rfl) (⟨M522, Hp.le_refl M522, S.pick [0, 1, 2] (by decide)⟩) ?_
                            obtain ⟨⟨p1069, p1070⟩, H⟩ := chkS H
                            obtain ⟨b1071, o1072, cs1073, _, _, ee1078, hb1074, vs1075, hR1076, hc1077⟩ := SlW.at' hf210z p1069 p1070
                            obtain rfl : vs1075 = _ := hR1076
                            refine Wa_takeY (i := 36) rfl (by kernel_rfl) rfl rfl (.pointer (some ⟨b1071, o1072 + (0 : Int).toNat * 4, none⟩)) rfl (congrArg some hb873) (fun w' h' => x_indexAddr Try.underlying22 ty27 (slA ee1078) rfl p1069 p1070) (⟨M522, Hp.le_refl M522, S.pick [0, 1, 2] (by decide)⟩) ?_
                            refine Wa_takeY (i := 37) rfl (by kernel_rfl) rfl rfl (.agg #[.int .i64 ((rd ([(⟨(0 : Int), (3 : Int), false, ([120] : Str)⟩ : api_Version), (⟨(0 : Int), (7 : Int), false, ([121] : Str)⟩ : api_Version)] : List api_Version) (0 : Int)).Writer), .int .i64 ((rd ([(⟨(0 : Int), (3 : Int), false, ([120] : Str)⟩ : api_Version), (⟨(0 : Int), (7 : Int), false, ([121] : Str)⟩ : api_Version)] : List api_Version) (0 : Int)).TS), .bool ((rd ([(⟨(0 : Int), (3 : Int), false, ([120] : Str)⟩ : api_Version), (⟨(0 : Int), (7 : Int), false, ([121] : Str)⟩ : api_Version)] : List api_Version) (0 : Int)).Tomb), .string (bs ((rd ([(⟨(0 : Int), (3 : Int), false, ([120] : Str)⟩ : api_Version), (⟨(0 : Int), (7 : Int), false, ([121] : Str)⟩ : api_Version)] : List api_Version) (0 : Int)).Value))]) rfl (congrArg some hb873) (fun w' h' => x_loadA (cls_frz h' hb1074) ty27 rfl (sub_el hc1077 0 rfl) rfl rfl) (⟨M522, Hp.le_refl M522, S.pick [0, 1, 2] (by decide)⟩) ?_
                            refine Wa_takeY (i := 38) rfl (by kernel_rfl) rfl rfl (.bool ((t211.1.Writer == (rd ([(⟨(0 : Int), (3 : Int), false, ([120] : Str)⟩ : api_Version), (⟨(0 : Int), (7 : Int), false, ([121] : Str)⟩ : api_Version)] : List api_Version) (0 : Int)).Writer) && ((t211.1.TS == (rd ([(⟨(0 : Int), (3 : Int), false, ([120] : Str)⟩ : api_Version), (⟨(0 : Int), (7 : Int), false, ([121] : Str)⟩ : api_Version)] : List api_Version) (0 : Int)).TS) && ((t211.1.Tomb == (rd ([(⟨(0 : Int), (3 : Int), false, ([120] : Str)⟩ : api_Version), (⟨(0 : Int), (7 : Int), false, ([121] : Str)⟩ : api_Version)] : List api_Version) (0 : Int)).Tomb) && (t211.1.Value == (rd ([(⟨(0 : Int), (3 : Int), false, ([120] : Str)⟩ : api_Version), (⟨(0 : Int), (7 : Int), false, ([121] : Str)⟩ : api_Version)] : List api_Version) (0 : Int)).Value))))) rfl (congrArg some hb873) (fun w' h' => x_eq_of (eg27 _ _ _ _) rfl (eq27 _ t211.1.Writer t211.1.TS t211.1.Tomb t211.1.Value ((rd ([(⟨(0 : Int), (3 : Int), false, ([120] : Str)⟩ : api_Version), (⟨(0 : Int), (7 : Int), false, ([121] : Str)⟩ : api_Version)] : List api_Version) (0 : Int)).Writer) ((rd ([(⟨(0 : Int), (3 : Int), false, ([120] : Str)⟩ : api_Version), (⟨(0 : Int), (7 : Int), false, ([121] : Str)⟩ : api_Version)] : List api_Version) (0 : Int)).TS) ((rd ([(⟨(0 : Int), (3 : Int), false, ([120] : Str)⟩ : api_Version), (⟨(0 : Int), (7 : Int), false, ([121] : Str)⟩ : api_Version)] : List api_Version) (0 : Int)).Tomb) ((rd ([(⟨(0 : Int), (3 : Int), false, ([120] : Str)⟩ : api_Version), (⟨(0 : Int), (7 : Int), false, ([121] : Str)⟩ : api_Version)] : List api_Version) (0 : Int)).Value))) (⟨M522, Hp.le_refl M522, S.pick [0, 1, 2] (by decide)⟩) ?_
                            refine Wa_take (i := 39) rfl (by kernel_rfl) rfl rfl (.bool ((t211.1.Writer == (rd ([(⟨(0 : Int), (3 : Int), false, ([120] : Str)⟩ : api_Version), (⟨(0 : Int), (7 : Int), false, ([121] : Str)⟩ : api_Version)] : List api_Version) (0 : Int)).Writer) && ((t211.1.TS == (rd ([(⟨(0 : Int), (3 : Int), false, ([120] : Str)⟩ : api_Version), (⟨(0 : Int), (7 : Int), false, ([121] : Str)⟩ : api_Version)] : List api_Version) (0 : Int)).TS) && ((t211.1.Tomb == (rd ([(⟨(0 : Int), (3 : Int), false, ([120] : Str)⟩ : api_Version), (⟨(0 : Int), (7 : Int), false, ([121] : Str)⟩ : api_Version)] : List api_Version) (0 : Int)).Tomb) && (t211.1.Value == (rd ([(⟨(0 : Int), (3 : Int), false, ([120] : Str)⟩ : api_Version), (⟨(0 : Int), (7 : Int), false, ([121] : Str)⟩ : api_Version)] : List api_Version) (0 : Int)).Value))))) rfl (fun w' h' => x_pick (k := true) (congrArg Value.bool hb873) rfl) (⟨M522, Hp.le_refl M522, S.pick [0, 1, 2] (by decide)⟩) ?_
                            exact hrest _ _ ⟨((t211.1.Writer == (rd ([(⟨(0 : Int), (3 : Int), false, ([120] : Str)⟩ : api_Version), (⟨(0 : Int), (7 : Int), false, ([121] : Str)⟩ : api_Version)] : List api_Version) (0 : Int)).Writer) && ((t211.1.TS == (rd ([(⟨(0 : Int), (3 : Int), false, ([120] : Str)⟩ : api_Version), (⟨(0 : Int), (7 : Int), false, ([121] : Str)⟩ : api_Version)] : List api_Version) (0 : Int)).TS) && ((t211.1.Tomb == (rd ([(⟨(0 : Int), (3 : Int), false, ([120] : Str)⟩ : api_Version), (⟨(0 : Int), (7 : Int), false, ([121] : Str)⟩ : api_Version)] : List api_Version) (0 : Int)).Tomb) && (t211.1.Value == (rd ([(⟨(0 : Int), (3 : Int), false, ([120] : Str)⟩ : api_Version), (⟨(0 : Int), (7 : Int), false, ([121] : Str)⟩ : api_Version)] : List api_Version) (0 : Int)).Value)))), Option.some.inj H, ⟨rfl, rfl, rfl, trivial⟩, E, S.pick [0, 1, 2] (by decide)⟩
                          · skip
                            refine Wa_takeN (i := 34) rfl (by kernel_rfl) rfl rfl rfl (skT hb873) (⟨M522, Hp.le_refl M522, S.pick [0, 1, 2] (by decide)⟩) ?_
                            refine Wa_takeN (i := 35) rfl (by kernel_rfl) rfl rfl rfl (skT hb873) (⟨M522, Hp.le_refl M522, S.pick [0, 1, 2] (by decide)⟩) ?_
                            refine Wa_takeN (i := 36) rfl (by kernel_rfl) rfl rfl rfl (skT hb873) (⟨M522, Hp.le_refl M522, S.pick [0, 1, 2] (by decide)⟩) ?_
                            refine Wa_takeN (i := 37) rfl (by kernel_rfl) rfl rfl rfl (skT hb873) (⟨M522, Hp.le_refl M522, S.pick [0, 1, 2] (by decide)⟩) ?_
                            refine Wa_takeN (i := 38) rfl (by kernel_rfl) rfl rfl rfl (skT hb873) (⟨M522, Hp.le_refl M522, S.pick [0, 1, 2] (by decide)⟩) ?_
                            refine Wa_take (i := 39) rfl (by kernel_rfl) rfl rfl (.bool false) rfl (fun w' h' => x_pick (k := false) (congrArg Value.bool hb873) rfl) (⟨M522, Hp.le_refl M522, S.pick [0, 1, 2] (by decide)⟩) ?_
                            exact hrest _ _ ⟨false, Option.some.inj H, ⟨rfl, rfl, rfl, trivial⟩, E, S.pick [0, 1, 2] (by decide)⟩
                      · intro hrest
                        rcases boolCases x859 with hb862 | hb862
                        · skip
                          refine Wa_takeN (i := 31) rfl (by kernel_rfl) rfl rfl rfl (skT hb862) (⟨M522, Hp.le_refl M522, S.pick [0, 1, 2] (by decide)⟩) ?_
                          refine Wa_take (i := 32) rfl (by kernel_rfl) rfl rfl (.bool false) rfl (fun w' h' => x_pick (k := false) (congrArg Value.bool hb862) rfl) (⟨M522, Hp.le_refl M522, S.pick [0, 1, 2] (by decide)⟩) ?_
                          exact hrest _ _ ⟨⟨rfl, rfl, rfl, (by first | rfl | (rw [hb862]; rfl) | (simp only [hb862]; rfl)), trivial⟩, rfl⟩
                        · skip
                          refine Wa_takeY (i := 31) rfl (by kernel_rfl) rfl rfl (.bool t211.2) rfl (congrArg some hb862) (fun w' h' => x_move rfl) (⟨M522, Hp.le_refl M522, S.pick [0, 1, 2] (by decide)⟩) ?_
                          refine Wa_take (i := 32) rfl (by kernel_rfl) rfl rfl (.bool t211.2) rfl (fun w' h' => x_pick (k := true) (congrArg Value.bool hb862) rfl) (⟨M522, Hp.le_refl M522, S.pick [0, 1, 2] (by decide)⟩) ?_
                          exact hrest _ _ ⟨⟨rfl, rfl, rfl, (by first | rfl | (rw [hb862]; rfl) | (simp only [hb862]; rfl)), trivial⟩, rfl⟩
                    · intro hrest
                      have H := o860h
                      clear o860h o860H
                      rcases iteS H with ⟨hb858, H⟩ | ⟨hb858, H⟩
                      · skip
                        refine Wa_takeY (i := 26) rfl (by kernel_rfl) rfl rfl (.slice A201 t199.length c202) rfl (congrArg some hb858) (fun w' h' => x_move rfl) (⟨M522, Hp.le_refl M522, S.pick [0, 1, 2] (by decide)⟩) ?_
                        refine Wa_solo (i := 27) rfl (by kernel_rfl) ?_
                        refine W_yes (congrArg some hb858) ?_
                        obtain ⟨t1079, ht1080, H⟩ := bindS H
                        refine W_callF fn13 (keep_Clash.con k M522 A201 c202 t199 (9223372036854775807 : Int) t1079 hf524 ht1080) S rfl rfl (by rintro _ _ _ ⟨_, rfl⟩; exact flat_nil) ?_
                        rintro _ w1081 _ Γ' E' S ⟨rfl, rfl⟩
                        replace E := E.trans E'
                        clear E'
                        refine Wl_nil (on_n ⟨⟨M522, Hp.le_refl M522, S.pick [0, 1, 2] (by decide)⟩, ?_⟩)
                        refine Wa_takeY (i := 28) rfl (by kernel_rfl) rfl rfl (.bool (!t1079)) rfl (congrArg some hb858) (fun w' h' => x_not rfl) (⟨M522, Hp.le_refl M522, S.pick [0, 1, 2] (by decide)⟩) ?_
                        refine Wa_take (i := 29) rfl (by kernel_rfl) rfl rfl (.bool (!t1079)) rfl (fun w' h' => x_pick (k := true) (congrArg Value.bool hb858) rfl) (⟨M522, Hp.le_refl M522, S.pick [0, 1, 2] (by decide)⟩) ?_
                        exact hrest _ _ ⟨(!t1079), Option.some.inj H, ⟨rfl, rfl, rfl, rfl, rfl, trivial⟩, E, S.pick [0, 1, 2] (by decide)⟩
                      · skip
                        refine Wa_takeN (i := 26) rfl (by kernel_rfl) rfl rfl rfl (skT hb858) (⟨M522, Hp.le_refl M522, S.pick [0, 1, 2] (by decide)⟩) ?_
                        refine Wa_takeN (i := 27) rfl (by kernel_rfl) rfl rfl rfl (skT hb858) (⟨M522, Hp.le_refl M522, S.pick [0, 1, 2] (by decide)⟩) ?_
                        refine Wa_takeN (i := 28) rfl (by kernel_rfl) rfl rfl rfl (skT hb858) (⟨M522, Hp.le_refl M522, S.pick [0, 1, 2] (by decide)⟩) ?_
                        refine Wa_take (i := 29) rfl (by kernel_rfl) rfl rfl (.bool false) rfl (fun w' h' => x_pick (k := false) (congrArg Value.bool hb858) rfl) (⟨M522, Hp.le_refl M522, S.pick [0, 1, 2] (by decide)⟩) ?_
                        exact hrest _ _ ⟨false, Option.some.inj H, ⟨rfl, rfl, rfl, rfl, rfl, trivial⟩, E, S.pick [0, 1, 2] (by decide)⟩
                  · intro hrest
                    have H := o853h
                    clear o853h o853H
                    rcases iteS H with ⟨hb851, H⟩ | ⟨hb851, H⟩
                    · skip
                      refine Wa_takeY (i := 22) rfl (by kernel_rfl) rfl rfl (.slice A201 t199.length c202) rfl (congrArg some hb851) (fun w' h' => x_move rfl) (⟨M522, Hp.le_refl M522, S.pick [0, 1, 2] (by decide)⟩) ?_
                      refine Wa_solo (i := 23) rfl (by kernel_rfl) ?_
                      refine W_yes (congrArg some hb851) ?_
                      obtain ⟨t1082, ht1083, H⟩ := bindS H
                      refine W_callF fn13 (keep_Clash.con k M522 A201 c202 t199 (-9223372036854775807 : Int) t1082 hf524 ht1083) S rfl rfl (by rintro _ _ _ ⟨_, rfl⟩; exact flat_nil) ?_
                      rintro _ w1084 _ Γ' E' S ⟨rfl, rfl⟩
                      replace E := E.trans E'
                      clear E'
                      refine Wl_nil (on_n ⟨⟨M522, Hp.le_refl M522, S.pick [0, 1, 2] (by decide)⟩, ?_⟩)
                      refine Wa_take (i := 24) rfl (by kernel_rfl) rfl rfl (.bool t1082) rfl (fun w' h' => x_pick (k := true) (congrArg Value.bool hb851) rfl) (⟨M522, Hp.le_refl M522, S.pick [0, 1, 2] (by decide)⟩) ?_
                      exact hrest _ _ ⟨t1082, Option.some.inj H, ⟨rfl, rfl, rfl, rfl, rfl, trivial⟩, E, S.pick [0, 1, 2] (by decide)⟩
                    · skip
                      refine Wa_takeN (i := 22) rfl (by kernel_rfl) rfl rfl rfl (skT hb851) (⟨M522, Hp.le_refl M522, S.pick [0, 1, 2] (by decide)⟩) ?_
                      refine Wa_takeN (i := 23) rfl (by kernel_rfl) rfl rfl rfl (skT hb851) (⟨M522, Hp.le_refl M522, S.pick [0, 1, 2] (by decide)⟩) ?_
                      refine Wa_take (i := 24) rfl (by kernel_rfl) rfl rfl (.bool false) rfl (fun w' h' => x_pick (k := false) (congrArg Value.bool hb851) rfl) (⟨M522, Hp.le_refl M522, S.pick [0, 1, 2] (by decide)⟩) ?_
                      exact hrest _ _ ⟨false, Option.some.inj H, ⟨rfl, rfl, rfl, rfl, rfl, trivial⟩, E, S.pick [0, 1, 2] (by decide)⟩
                · intro hrest
                  have H := o846h
                  clear o846h o846H
                  rcases iteS H with ⟨hb844, H⟩ | ⟨hb844, H⟩
                  · skip
                    refine Wa_solo (i := 18) rfl (by kernel_rfl) ?_
                    refine W_yes (congrArg some hb844) ?_
                    obtain ⟨t1085, ht1086, H⟩ := bindS H
                    refine W_callF fn13 (keep_Clash.con k M522 none 0 ([] : (List api_Version)) (-5 : Int) t1085 (SlW.nil _ _) ht1086) S rfl rfl (by rintro _ _ _ ⟨_, rfl⟩; exact flat_nil) ?_
                    rintro _ w1087 _ Γ' E' S ⟨rfl, rfl⟩
                    replace E := E.trans E'
                    clear E'
                    refine Wl_nil (on_n ⟨⟨M522, Hp.le_refl M522, S.pick [0, 1, 2] (by decide)⟩, ?_⟩)
                    refine Wa_takeY (i := 19) rfl (by kernel_rfl) rfl rfl (.bool (!t1085)) rfl (congrArg some hb844) (fun w' h' => x_not rfl) (⟨M522, Hp.le_refl M522, S.pick [0, 1, 2] (by decide)⟩) ?_
                    refine Wa_take (i := 20) rfl (by kernel_rfl) rfl rfl (.bool (!t1085)) rfl (fun w' h' => x_pick (k := true) (congrArg Value.bool hb844) rfl) (⟨M522, Hp.le_refl M522, S.pick [0, 1, 2] (by decide)⟩) ?_
                    exact hrest _ _ ⟨(!t1085), Option.some.inj H, ⟨rfl, rfl, rfl, rfl, rfl, trivial⟩, E, S.pick [0, 1, 2] (by decide)⟩
                  · skip
                    refine Wa_takeN (i := 18) rfl (by kernel_rfl) rfl rfl rfl (skT hb844) (⟨M522, Hp.le_refl M522, S.pick [0, 1, 2] (by decide)⟩) ?_
                    refine Wa_takeN (i := 19) rfl (by kernel_rfl) rfl rfl rfl (skT hb844) (⟨M522, Hp.le_refl M522, S.pick [0, 1, 2] (by decide)⟩) ?_
                    refine Wa_take (i := 20) rfl (by kernel_rfl) rfl rfl (.bool false) rfl (fun w' h' => x_pick (k := false) (congrArg Value.bool hb844) rfl) (⟨M522, Hp.le_refl M522, S.pick [0, 1, 2] (by decide)⟩) ?_
                    exact hrest _ _ ⟨false, Option.some.inj H, ⟨rfl, rfl, rfl, rfl, rfl, trivial⟩, E, S.pick [0, 1, 2] (by decide)⟩
              · intro hrest
                have H := o839h
                clear o839h o839H
                rcases iteS H with ⟨hb837, H⟩ | ⟨hb837, H⟩
                · skip
                  refine Wa_solo (i := 13) rfl (by kernel_rfl) ?_
                  refine W_yes (congrArg some hb837) ?_
                  obtain ⟨t1088, ht1089, H⟩ := bindS H
                  refine W_callF fn11 (keep_Kept.con k M522 none 0 ([] : (List api_Version)) (5 : Int) t1088 (SlW.nil _ _) ht1089) S rfl rfl (by rintro _ _ _ ⟨_, _, _, rfl⟩; exact (flat_cons (flat_row (fun _ _ _ _ h => h)) flat_nil)) ?_
                  rintro _ w1093 _ Γ' E' S ⟨A1090, c1091, rfl, rfl⟩
                  replace E := E.trans E'
                  clear E'
                  refine Wl_nil (on_n ⟨⟨M522, Hp.le_refl M522, S.pick [1, 2, 3] (by decide)⟩, ?_⟩)
                  refine Wa_takeY (i := 14) rfl (by kernel_rfl) rfl rfl (.int .i64 (t1088.length : Int)) rfl (congrArg some hb837) (fun w' h' => x_len_slice (n := t1088.length) Try.underlying22 rfl) (⟨M522, Hp.le_refl M522, S.pick [1, 2, 3] (by decide)⟩) ?_
                  refine Wa_takeY (i := 15) rfl (by kernel_rfl) rfl rfl (.bool ((t1088.length : Int) == (0 : Int))) rfl (congrArg some hb837) (fun w' h' => x_ibin rfl rfl rfl rfl) (⟨M522, Hp.le_refl M522, S.pick [1, 2, 3] (by decide)⟩) ?_
                  refine Wa_take (i := 16) rfl (by kernel_rfl) rfl rfl (.bool ((t1088.length : Int) == (0 : Int))) rfl (fun w' h' => x_pick (k := true) (congrArg Value.bool hb837) rfl) (⟨M522, Hp.le_refl M522, S.pick [1, 2, 3] (by decide)⟩) ?_
                  exact hrest _ _ ⟨((t1088.length : Int) == (0 : Int)), Option.some.inj H, ⟨rfl, rfl, rfl, rfl, rfl, trivial⟩, E, S.pick [1, 2, 3] (by decide)⟩
                · skip
                  refine Wa_takeN (i := 13) rfl (by kernel_rfl) rfl rfl rfl (skT hb837) (⟨M522, Hp.le_refl M522, S.pick [0, 1, 2] (by decide)⟩) ?_
                  refine Wa_takeN (i := 14) rfl (by kernel_rfl) rfl rfl rfl (skT hb837) (⟨M522, Hp.le_refl M522, S.pick [0, 1, 2] (by decide)⟩) ?_
                  refine Wa_takeN (i := 15) rfl (by kernel_rfl) rfl rfl rfl (skT hb837) (⟨M522, Hp.le_refl M522, S.pick [0, 1, 2] (by decide)⟩) ?_
                  refine Wa_take (i := 16) rfl (by kernel_rfl) rfl rfl (.bool false) rfl (fun w' h' => x_pick (k := false) (congrArg Value.bool hb837) rfl) (⟨M522, Hp.le_refl M522, S.pick [0, 1, 2] (by decide)⟩) ?_
                  exact hrest _ _ ⟨false, Option.some.inj H, ⟨rfl, rfl, rfl, rfl, rfl, trivial⟩, E, S.pick [0, 1, 2] (by decide)⟩
            · intro hrest
              have H := o829h
              clear o829h o829H
              rcases iteS H with ⟨hb827, H⟩ | ⟨hb827, H⟩
              · skip
                refine Wa_takeY (i := 6) rfl (by kernel_rfl) rfl rfl (.agg #[.int .i64 t192.1.Writer, .int .i64 t192.1.TS, .bool t192.1.Tomb, .string (bs t192.1.Value)]) rfl (congrArg some hb827) (fun w' h' => x_loadA (cls_blk h' 1 rfl) ty27 rfl (sub_of_extract rfl) rfl rfl) (⟨M522, Hp.le_refl M522, S.pick [0, 1, 2] (by decide)⟩) ?_
                refine Wa_takeY (i := 7) rfl (by kernel_rfl) rfl rfl (.slice A201 t199.length c202) rfl (congrArg some hb827) (fun w' h' => x_move rfl) (⟨M522, Hp.le_refl M522, S.pick [0, 1, 2] (by decide)⟩) ?_
                obtain ⟨⟨p1094, p1095⟩, H⟩ := chkS H
                obtain ⟨b1096, o1097, cs1098, _, _, ee1103, hb1099, vs1100, hR1101, hc1102⟩ := SlW.at' hf524z p1094 p1095
                obtain rfl : vs1100 = _ := hR1101
                refine Wa_takeY (i := 8) rfl (by kernel_rfl) rfl rfl (.pointer (some ⟨b1096, o1097 + (0 : Int).toNat * 4, none⟩)) rfl (congrArg some hb827) (fun w' h' => x_indexAddr Try.underlying22 ty27 (slA ee1103) rfl p1094 p1095) (⟨M522, Hp.le_refl M522, S.pick [0, 1, 2] (by decide)⟩) ?_
                refine Wa_takeY (i := 9) rfl (by kernel_rfl) rfl rfl (.agg #[.int .i64 ((rd t199 (0 : Int)).Writer), .int .i64 ((rd t199 (0 : Int)).TS), .bool ((rd t199 (0 : Int)).Tomb), .string (bs ((rd t199 (0 : Int)).Value))]) rfl (congrArg some hb827) (fun w' h' => x_loadA (cls_frz h' hb1099) ty27 rfl (sub_el hc1102 0 rfl) rfl rfl) (⟨M522, Hp.le_refl M522, S.pick [0, 1, 2] (by decide)⟩) ?_
                refine Wa_takeY (i := 10) rfl (by kernel_rfl) rfl rfl (.bool ((t192.1.Writer == (rd t199 (0 : Int)).Writer) && ((t192.1.TS == (rd t199 (0 : Int)).TS) && ((t192.1.Tomb == (rd t199 (0 : Int)).Tomb) && (t192.1.Value == (rd t199 (0 : Int)).Value))))) rfl (congrArg some hb827) (fun w' h' => x_eq_of (eg27 _ _ _ _) rfl (eq27 _ t192.1.Writer t192.1.TS t192.1.Tomb t192.1.Value ((rd t199 (0 : Int)).Writer) ((rd t199 (0 : Int)).TS) ((rd t199 (0 : Int)).Tomb) ((rd t199 (0 : Int)).Value))) (⟨M522, Hp.le_refl M522, S.pick [0, 1, 2] (by decide)⟩) ?_
                refine Wa_take (i := 11) rfl (by kernel_rfl) rfl rfl (.bool ((t192.1.Writer == (rd t199 (0 : Int)).Writer) && ((t192.1.TS == (rd t199 (0 : Int)).TS) && ((t192.1.Tomb == (rd t199 (0 : Int)).Tomb) && (t192.1.Value == (rd t199 (0 : Int)).Value))))) rfl (fun w' h' => x_pick (k := true) (congrArg Value.bool hb827) rfl) (⟨M522, Hp.le_refl M522, S.pick [0, 1, 2] (by decide)⟩) ?_
                exact hrest _ _ ⟨((t192.1.Writer == (rd t199 (0 : Int)).Writer) && ((t192.1.TS == (rd t199 (0 : Int)).TS) && ((t192.1.Tomb == (rd t199 (0 : Int)).Tomb) && (t192.1.Value == (rd t199 (0 : Int)).Value)))), Option.some.inj H, ⟨rfl, rfl, rfl, rfl, rfl, trivial⟩, E, S.pick [0, 1, 2] (by decide)⟩
              · skip
                refine Wa_takeN (i := 6) rfl (by kernel_rfl) rfl rfl rfl (skT hb827) (⟨M522, Hp.le_refl M522, S.pick [0, 1, 2] (by decide)⟩) ?_
                refine Wa_takeN (i := 7) rfl (by kernel_rfl) rfl rfl rfl (skT hb827) (⟨M522, Hp.le_refl M522, S.pick [0, 1, 2] (by decide)⟩) ?_
                refine Wa_takeN (i := 8) rfl (by kernel_rfl) rfl rfl rfl (skT hb827) (⟨M522, Hp.le_refl M522, S.pick [0, 1, 2] (by decide)⟩) ?_
                refine Wa_takeN (i := 9) rfl (by kernel_rfl) rfl rfl rfl (skT hb827) (⟨M522, Hp.le_refl M522, S.pick [0, 1, 2] (by decide)⟩) ?_
                refine Wa_takeN (i := 10) rfl (by kernel_rfl) rfl rfl rfl (skT hb827) (⟨M522, Hp.le_refl M522, S.pick [0, 1, 2] (by decide)⟩) ?_
                refine Wa_take (i := 11) rfl (by kernel_rfl) rfl rfl (.bool false) rfl (fun w' h' => x_pick (k := false) (congrArg Value.bool hb827) rfl) (⟨M522, Hp.le_refl M522, S.pick [0, 1, 2] (by decide)⟩) ?_
                exact hrest _ _ ⟨false, Option.some.inj H, ⟨rfl, rfl, rfl, rfl, rfl, trivial⟩, E, S.pick [0, 1, 2] (by decide)⟩
          · intro hrest
            rcases boolCases (!t176.2) with hb816 | hb816
            · skip
              refine Wa_takeN (i := 3) rfl (by kernel_rfl) rfl rfl rfl (skT hb816) (⟨M522, Hp.le_refl M522, S.pick [0, 1, 2] (by decide)⟩) ?_
              refine Wa_take (i := 4) rfl (by kernel_rfl) rfl rfl (.bool false) rfl (fun w' h' => x_pick (k := false) (congrArg Value.bool hb816) rfl) (⟨M522, Hp.le_refl M522, S.pick [0, 1, 2] (by decide)⟩) ?_
              exact hrest _ _ ⟨⟨rfl, rfl, rfl, rfl, rfl, (by first | rfl | (rw [hb816]; rfl) | (simp only [hb816]; rfl)), trivial⟩, rfl⟩
            · skip
              refine Wa_takeY (i := 3) rfl (by kernel_rfl) rfl rfl (.bool t192.2) rfl (congrArg some hb816) (fun w' h' => x_move rfl) (⟨M522, Hp.le_refl M522, S.pick [0, 1, 2] (by decide)⟩) ?_
              refine Wa_take (i := 4) rfl (by kernel_rfl) rfl rfl (.bool t192.2) rfl (fun w' h' => x_pick (k := true) (congrArg Value.bool hb816) rfl) (⟨M522, Hp.le_refl M522, S.pick [0, 1, 2] (by decide)⟩) ?_
              exact hrest _ _ ⟨⟨rfl, rfl, rfl, rfl, rfl, (by first | rfl | (rw [hb816]; rfl) | (simp only [hb816]; rfl)), trivial⟩, rfl⟩
end Go.Proofs.Ytmoackfjfklfaaa
