import Derived.Test.YtnfeinhialojnaaGt1
namespace Go.Proofs.Ytnfeinhialojnaa
open Go
set_option linter.unusedVariables false
set_option linter.unusedSimpArgs false
/-! ### ferryman/ferrymanlaw02.TextNames: function 9 -/
def ferrymanlaw02_TextNames_l4 (t2121 : (List api_Config)) : Nat → Int → Option ((Bool) ⊕ (Unit))
  | 0, _ => none
  | k + 1, x2417 => (if (decide (x2417 < (8 : Int))) = true then (if 0 ≤ x2417 ∧ x2417 < (t2121.length : Int) then (Option.bind (text_May k (rd t2121 x2417)) (fun t2575 => (Option.bind (α := Bool) (if t2575 = true then some (true) else (if 0 ≤ x2417 ∧ x2417 < (t2121.length : Int) then (Option.bind (text_Key k (rd t2121 x2417) ([97] : Str)) (fun t2617 => some (t2617))) else none)) (fun x2605 => (Option.bind (α := Bool) (if x2605 = true then some (true) else (if 0 ≤ x2417 ∧ x2417 < (t2121.length : Int) then (Option.bind (text_Bound k (rd t2121 x2417) ([] : Str)) (fun t2660 => some (t2660))) else none)) (fun x2648 => (Option.bind (α := Bool) (if x2648 = true then some (true) else (if 0 ≤ x2417 ∧ x2417 < (t2121.length : Int) then (Option.bind (text_Value k (rd t2121 x2417) ([] : Str)) (fun t2703 => some (t2703))) else none)) (fun x2691 => (if x2691 = true then some (.inl false) else ferrymanlaw02_TextNames_l4 t2121 k (IntKind.i64.wrap (x2417 + (1 : Int)))))))))))) else none) else some (.inr ()))
set_option maxHeartbeats 2000000 in
theorem ferrymanlaw02_TextNames_l4.mono {t2121 : (List api_Config)} : ∀ {k : Nat} {x0}, OLe (ferrymanlaw02_TextNames_l4 t2121 k x0) (ferrymanlaw02_TextNames_l4 t2121 (k + 1) x0) := by
  intro k
  induction k with
  | zero => intros; exact OLe.none
  | succ k ih =>
    intros
    rw [ferrymanlaw02_TextNames_l4.eq_2, ferrymanlaw02_TextNames_l4.eq_2]
    repeat' (first | with_reducible exact OLe.none | with_reducible exact OLe.some | with_reducible refine OLe.ite ?_ ?_ | with_reducible refine OLe.bind ?_ (fun _ => ?_) | with_reducible exact text_Bound.mono | with_reducible exact text_Key.mono | with_reducible exact text_May.mono | with_reducible exact text_Value.mono | exact ih | refine OLe.bind ?_ (fun _ => ?_) | refine OLe.ite ?_ ?_ | refine OLe.elim (fun _ => ?_) (fun _ => ?_) | split)
def ferrymanlaw02_TextNames_l2 : Nat → Int → Option ((Bool) ⊕ (Unit))
  | 0, _ => none
  | k + 1, x1408 => (if (decide (x1408 < (([(-1 : Int), (1 : Int)] : List Int).length : Int))) = true then (if 0 ≤ x1408 ∧ x1408 < (([(-1 : Int), (1 : Int)] : List Int).length : Int) then (Option.bind (ferrymanlaw02_bent k (rd ([(-1 : Int), (1 : Int)] : List Int) x1408)) (fun t2121 => (Option.bind (ferrymanlaw02_TextNames_l4 t2121 k (0 : Int)) (fun o2562o => Sum.elim (fun r' => some (.inl r')) (fun _ => (if 0 ≤ (8 : Int) ∧ (8 : Int) < (t2121.length : Int) then (Option.bind (text_May k (rd t2121 (8 : Int))) (fun t2719 => (Option.bind (α := Bool) (if (!t2719) = true then some (true) else (if 0 ≤ (8 : Int) ∧ (8 : Int) < (t2121.length : Int) then (Option.bind (text_Key k (rd t2121 (8 : Int)) ([97] : Str)) (fun t2761 => some ((!t2761)))) else none)) (fun x2749 => (Option.bind (α := Bool) (if x2749 = true then some (true) else (if 0 ≤ (8 : Int) ∧ (8 : Int) < (t2121.length : Int) then (Option.bind (text_Value k (rd t2121 (8 : Int)) ([] : Str)) (fun t2804 => some ((!t2804)))) else none)) (fun x2792 => (if x2792 = true then some (.inl false) else ferrymanlaw02_TextNames_l2 k (IntKind.i64.wrap (x1408 + (1 : Int)))))))))) else none)) o2562o)))) else none) else some (.inr ()))
set_option maxHeartbeats 2000000 in
theorem ferrymanlaw02_TextNames_l2.mono  : ∀ {k : Nat} {x0}, OLe (ferrymanlaw02_TextNames_l2  k x0) (ferrymanlaw02_TextNames_l2  (k + 1) x0) := by
  intro k
  induction k with
  | zero => intros; exact OLe.none
  | succ k ih =>
    intros
    rw [ferrymanlaw02_TextNames_l2.eq_2, ferrymanlaw02_TextNames_l2.eq_2]
    repeat' (first | with_reducible exact OLe.none | with_reducible exact OLe.some | with_reducible refine OLe.ite ?_ ?_ | with_reducible refine OLe.bind ?_ (fun _ => ?_) | with_reducible exact ferrymanlaw02_TextNames_l4.mono | with_reducible exact ferrymanlaw02_bent.mono | with_reducible exact text_Key.mono | with_reducible exact text_May.mono | with_reducible exact text_Value.mono | exact ih | refine OLe.bind ?_ (fun _ => ?_) | refine OLe.ite ?_ ?_ | refine OLe.elim (fun _ => ?_) (fun _ => ?_) | split)
def ferrymanlaw02_TextNames (k : Nat)  : Option (Bool) :=
  (Option.bind (ferrymanlaw02_works k ) (fun t1 => (if (cond (cond (cond (cond (cond (cond (cond (cond (!t1) true false) true false) true false) true false) true false) true false) true false) true false) = true then some false else (Option.bind (ferrymanlaw02_TextNames_l2 k (0 : Int)) (fun o2108o => Sum.elim (fun r' => some r') (fun _ => (Option.bind (ferrymanlaw02_bent k (1 : Int)) (fun t2810 => (if 0 ≤ (8 : Int) ∧ (8 : Int) < (t2810.length : Int) then (if 0 ≤ (257 : Int) ∧ (257 : Int) ≤ (257 : Int) ∧ (257 : Int) * 1 ≤ 140737488355328 ∧ (257 : Int) ≤ 9223372036854775807 then (if 0 ≤ (64 : Int) ∧ (64 : Int) ≤ ((bytesOf (List.replicate (257 : Int).toNat (0 : Int))).length : Int) then (Option.bind (text_Key k (rd t2810 (8 : Int)) (List.take (64 : Int).toNat (bytesOf (List.replicate (257 : Int).toNat (0 : Int))))) (fun t2912 => (Option.bind (α := Bool) (if (!t2912) = true then some (true) else (if 0 ≤ (65 : Int) ∧ (65 : Int) ≤ ((bytesOf (List.replicate (257 : Int).toNat (0 : Int))).length : Int) then (Option.bind (text_Key k (rd t2810 (8 : Int)) (List.take (65 : Int).toNat (bytesOf (List.replicate (257 : Int).toNat (0 : Int))))) (fun t3112 => some (t3112))) else none)) (fun x2921 => (Option.bind (α := Bool) (if x2921 = true then some (true) else (if 0 ≤ (64 : Int) ∧ (64 : Int) ≤ ((bytesOf (List.replicate (257 : Int).toNat (0 : Int))).length : Int) then (Option.bind (text_Bound k (rd t2810 (8 : Int)) (List.take (64 : Int).toNat (bytesOf (List.replicate (257 : Int).toNat (0 : Int))))) (fun t3107 => some ((!t3107)))) else none)) (fun x2930 => (Option.bind (α := Bool) (if x2930 = true then some (true) else (if 0 ≤ (65 : Int) ∧ (65 : Int) ≤ ((bytesOf (List.replicate (257 : Int).toNat (0 : Int))).length : Int) then (Option.bind (text_Bound k (rd t2810 (8 : Int)) (List.take (65 : Int).toNat (bytesOf (List.replicate (257 : Int).toNat (0 : Int))))) (fun t3102 => some (t3102))) else none)) (fun x2939 => (Option.bind (α := Bool) (if x2939 = true then some (true) else (if 0 ≤ (256 : Int) ∧ (256 : Int) ≤ ((bytesOf (List.replicate (257 : Int).toNat (0 : Int))).length : Int) then (Option.bind (text_Value k (rd t2810 (8 : Int)) (List.take (256 : Int).toNat (bytesOf (List.replicate (257 : Int).toNat (0 : Int))))) (fun t3097 => some ((!t3097)))) else none)) (fun x2948 => (Option.bind (α := Bool) (if x2948 = true then some (true) else (Option.bind (text_Value k (rd t2810 (8 : Int)) (bytesOf (List.replicate (257 : Int).toNat (0 : Int)))) (fun t3092 => some (t3092)))) (fun x2955 => (if x2955 = true then some false else (Option.bind (text_Compare k ([127] : Str) ([128] : Str)) (fun t2959 => (Option.bind (α := Bool) (if (t2959 == (-1 : Int)) = true then (Option.bind (text_Compare k ([255] : Str) ([97] : Str)) (fun t2971 => some ((t2971 == (1 : Int))))) else some (false)) (fun x2969 => (Option.bind (α := Bool) (if x2969 = true then (Option.bind (text_Compare k ([0] : Str) ([] : Str)) (fun t2984 => some ((t2984 == (1 : Int))))) else some (false)) (fun x2982 => (Option.bind (α := Bool) (if x2982 = true then (Option.bind (text_Suffix k ([97, 97] : Str) ([97, 97, 97] : Str) (9 : Int)) (fun t2997 => some ((t2997 == (2 : Int))))) else some (false)) (fun x2995 => (Option.bind (α := Bool) (if x2995 = true then (Option.bind (text_Suffix k ([97, 98] : Str) ([98] : Str) (-5 : Int)) (fun t3010 => some ((t3010 == (0 : Int))))) else some (false)) (fun x3008 => (Option.bind (α := Bool) (if x3008 = true then (Option.bind (text_Prefix k ([] : Str) ([97] : Str)) (fun t3023 => some ((t3023 == (0 : Int))))) else some (false)) (fun x3021 => (Option.bind (α := Bool) (if x3021 = true then (Option.bind (text_Next k ([] : Str)) (fun t3036 => some ((sbin .eql t3036 ([0] : Str))))) else some (false)) (fun x3034 => (Option.bind (α := Bool) (if x3034 = true then (Option.bind (text_Within k ([] : Str) ([] : Str) ([] : Str)) (fun t3049 => some (t3049))) else some (false)) (fun x3047 => (Option.bind (α := Bool) (if x3047 = true then (Option.bind (text_Within k ([97] : Str) ([98] : Str) ([] : Str)) (fun t3062 => some ((!t3062)))) else some (false)) (fun x3060 => (Option.bind (α := Bool) (if x3060 = true then (Option.bind (text_Within k ([98] : Str) ([98] : Str) ([98] : Str)) (fun t3075 => some ((!t3075)))) else some (false)) (fun x3073 => (Option.bind (α := Bool) (if x3073 = true then (Option.bind (text_May k (⟨(0 : Int), (0 : Int), (0 : Int), (0 : Int), (0 : Int), (0 : Int), (0 : Int), (0 : Int)⟩ : api_Config)) (fun t3088 => some ((!t3088)))) else some (false)) (fun x3086 => some x3086))))))))))))))))))))))))))))))))))) else none) else none) else none)))) o2108o)))))
set_option maxHeartbeats 2000000 in
theorem ferrymanlaw02_TextNames.mono {k : Nat}  : OLe (ferrymanlaw02_TextNames k ) (ferrymanlaw02_TextNames (k + 1) ) := by
  unfold ferrymanlaw02_TextNames
  repeat' (first | with_reducible exact OLe.none | with_reducible exact OLe.some | with_reducible refine OLe.ite ?_ ?_ | with_reducible refine OLe.bind ?_ (fun _ => ?_) | with_reducible exact ferrymanlaw02_TextNames_l2.mono | with_reducible exact ferrymanlaw02_bent.mono | with_reducible exact ferrymanlaw02_works.mono | with_reducible exact text_Bound.mono | with_reducible exact text_Compare.mono | with_reducible exact text_Key.mono | with_reducible exact text_May.mono | with_reducible exact text_Next.mono | with_reducible exact text_Prefix.mono | with_reducible exact text_Suffix.mono | with_reducible exact text_Value.mono | with_reducible exact text_Within.mono | refine OLe.bind ?_ (fun _ => ?_) | refine OLe.ite ?_ ?_ | refine OLe.elim (fun _ => ?_) (fun _ => ?_) | split)
set_option maxHeartbeats 1000000 in
set_option maxRecDepth 100000 in
theorem ferrymanlaw02_TextNames.con (k : Nat) (M : Hp)  (r : Bool)  (h : ferrymanlaw02_TextNames k  = some r) : Con Try.prog 9 #[] M [] (fun v M' Γ' => v = .bool r ∧ Γ' = []) := by
  refine con_of_wp Try.func9 rfl Try.ntmps9 Try.results9 rfl ?_
  intro w F rn S hrn
  have E := Ext.refl w
  have HM := Hp.le_refl M
  have H := h
  unfold ferrymanlaw02_TextNames at H
  refine Wp_seq ?_
  refine Wp_region_lit ?_
  refine W_v (.bool false) (x_assign rfl) rfl ?_
  refine Wl_nil ?_
  refine tn ?_
  refine Wp_seq ?_
  refine Wp_seq ?_
  refine Wp_region_lit ?_
  obtain ⟨t1, ht2, H⟩ := bindS H
  refine W_callF fn12 (ferrymanlaw02_works.con k M  t1  ht2) S rfl rfl (by rintro _ _ _ ⟨_, rfl⟩; exact flat_nil) ?_
  rintro _ w3 _ Γ' E' S ⟨rfl, rfl⟩
  replace E := E.trans E'
  clear E'
  refine W_v (.bool (!t1)) (x_not rfl) rfl ?_
  refine W_v (.bool (!t1)) (x_move rfl) rfl ?_
  refine W_v (.bool (cond (!t1) true false)) (x_pickB rfl rfl rfl) rfl ?_
  refine W_v (.bool (cond (!t1) true false)) (x_move rfl) rfl ?_
  refine W_v (.bool (cond (cond (!t1) true false) true false)) (x_pickB rfl rfl rfl) rfl ?_
  refine W_v (.bool (cond (cond (!t1) true false) true false)) (x_move rfl) rfl ?_
  refine W_v (.bool (cond (cond (cond (!t1) true false) true false) true false)) (x_pickB rfl rfl rfl) rfl ?_
  refine W_v (.bool (cond (cond (cond (!t1) true false) true false) true false)) (x_move rfl) rfl ?_
  refine W_v (.bool (cond (cond (cond (cond (!t1) true false) true false) true false) true false)) (x_pickB rfl rfl rfl) rfl ?_
  refine W_v (.bool (cond (cond (cond (cond (!t1) true false) true false) true false) true false)) (x_move rfl) rfl ?_
  refine W_v (.bool (cond (cond (cond (cond (cond (!t1) true false) true false) true false) true false) true false)) (x_pickB rfl rfl rfl) rfl ?_
  refine W_v (.bool (cond (cond (cond (cond (cond (!t1) true false) true false) true false) true false) true false)) (x_move rfl) rfl ?_
  refine W_v (.bool (cond (cond (cond (cond (cond (cond (!t1) true false) true false) true false) true false) true false) true false)) (x_pickB rfl rfl rfl) rfl ?_
  refine W_v (.bool (cond (cond (cond (cond (cond (cond (!t1) true false) true false) true false) true false) true false) true false)) (x_move rfl) rfl ?_
  refine W_v (.bool (cond (cond (cond (cond (cond (cond (cond (!t1) true false) true false) true false) true false) true false) true false) true false)) (x_pickB rfl rfl rfl) rfl ?_
  refine W_v (.bool (cond (cond (cond (cond (cond (cond (cond (!t1) true false) true false) true false) true false) true false) true false) true false)) (x_move rfl) rfl ?_
  refine W_v (.bool (cond (cond (cond (cond (cond (cond (cond (cond (!t1) true false) true false) true false) true false) true false) true false) true false) true false)) (x_pickB rfl rfl rfl) rfl ?_
  refine Wl_nil ?_
  refine tn ?_
  rcases iteS H with ⟨hb4, H⟩ | ⟨hb4, H⟩
  · refine Wp_cond_true (congrArg Value.bool hb4) ?_
    refine Wp_seq ?_
    refine Wp_region_lit ?_
    refine W_v (.bool false) (x_assign rfl) rfl ?_
    refine Wl_nil ?_
    refine tn ?_
    refine Wp_ret ?_
    refine tr (?_)
    obtain rfl := Option.some.inj H
    exact ⟨_, _, _, fun w1 e1 => run_resR (vs := [.bool false]) (FA.cons (rfl) (FA.nil)), HM, E, S.pick [] (by decide), ⟨rfl, rfl⟩⟩
  · refine Wp_cond_false (congrArg Value.bool hb4) ?_
    refine Wp_skip ?_
    refine tn ?_
    refine Wp_seq ?_
    refine Wp_seq ?_
    refine Wp_region_lit ?_
    refine W_bslice S #[.int .i64 (-1), .int .i64 1] Try.underlying32 ty3 rfl rfl #[.int .i64 0, .int .i64 0] (by kernel_rfl) (by kernel_rfl) rfl ?_
    intro b5 w6 E' S
    replace E := E.trans E'
    clear E'
    replace S := S.blk_row (r := (rInt .i64)) (l := ([(-1 : Int), (1 : Int)] : List Int)) 0 rfl 2 (Nat.le_refl 2) rfl (Cells.cons (vs := [.int .i64 (-1)]) (rfl) (Cells.cons (vs := [.int .i64 1]) (rfl) Cells.nil))
    refine W_v (.int .i64 (([(-1 : Int), (1 : Int)] : List Int).length : Int)) (x_len_slice (n := ([(-1 : Int), (1 : Int)] : List Int).length) Try.underlying32 rfl) rfl ?_
    refine W_v (.int .i64 0) (x_move rfl) rfl ?_
    refine Wl_nil ?_
    refine tn ?_
    obtain ⟨o2108, o2108h, o2108H⟩ := bindS H
    clear H
    refine Wp_blockJ (fun ρ w' => .inr () = o2108 ∧ Agree ρ [] ∧ Ext w w' ∧ St w' M F []) ?_ ?_
    · skip
      refine Wp_loop (fun n ρ w' => ∃ (x1408 : Int), ferrymanlaw02_TextNames_l2 n x1408 = some o2108 ∧ Agree ρ [(25, .slice (some ⟨b5, 0, none⟩) ([(-1 : Int), (1 : Int)] : List Int).length 2), (26, .int .i64 (([(-1 : Int), (1 : Int)] : List Int).length : Int)), (27, .int .i64 x1408)] ∧ Ext w w' ∧ St w' M F [Row (rInt .i64) 3 (.slice (some ⟨b5, 0, none⟩) ([(-1 : Int), (1 : Int)] : List Int).length 2) ([(-1 : Int), (1 : Int)] : List Int)]) k ?_ ?_
      · skip
        exact ⟨(0 : Int), o2108h, ⟨rfl, rfl, rfl, trivial⟩, E, S.pick [0] (by decide)⟩
      · intro n
        rintro ρ w2109 ⟨x1408, H, hρ, E, S⟩
        rw [agree_eta hρ]
        clear hρ
        cases n with
        | zero => cases H
        | succ k =>
          rw [ferrymanlaw02_TextNames_l2.eq_2] at H
          refine Wp_seq ?_
          refine Wp_region_lit ?_
          refine W_v (.bool (decide (x1408 < (([(-1 : Int), (1 : Int)] : List Int).length : Int)))) (x_ibin rfl rfl rfl rfl) rfl ?_
          refine Wl_nil ?_
          refine tn ?_
          refine Wp_seq ?_
          rcases iteS H with ⟨hb2110, H⟩ | ⟨hb2110, H⟩
          · refine Wp_cond_true (congrArg Value.bool hb2110) ?_
            refine Wp_skip ?_
            refine tn ?_
            refine Wp_seq ?_
            refine Wp_block ?_
            refine Wp_seq ?_
            refine Wp_region_lit ?_
            obtain ⟨⟨p2111, p2112⟩, H⟩ := chkS H
            obtain ⟨b2113, o2114, cs2115, _, _, ee2120, hb2116, vs2117, hR2118, hc2119⟩ := SlW.at' (S.row_read 0 rfl) p2111 p2112
            obtain rfl : vs2117 = _ := hR2118
            refine W_v (.pointer (some ⟨b2113, o2114 + x1408.toNat * 1, none⟩)) (x_indexAddr Try.underlying32 ty3 (slA ee2120) rfl p2111 p2112) rfl ?_
            refine W_v (.int .i64 (rd ([(-1 : Int), (1 : Int)] : List Int) x1408)) (x_load (Hp.of_get hb2116) ty3 rfl (hc2119 0 _ rfl)) rfl ?_
            refine W_v (.int .i64 (rd ([(-1 : Int), (1 : Int)] : List Int) x1408)) (x_assign rfl) rfl ?_
            refine Wl_nil ?_
            refine tn ?_
            refine Wp_seq ?_
            refine Wp_region_lit ?_
            refine W_v (.int .i64 (rd ([(-1 : Int), (1 : Int)] : List Int) x1408)) (x_move rfl) rfl ?_
            obtain ⟨t2121, ht2122, H⟩ := bindS H
            refine W_callF fn23 (ferrymanlaw02_bent.con k M (rd ([(-1 : Int), (1 : Int)] : List Int) x1408) t2121  ht2122) S rfl rfl (by rintro _ _ _ ⟨_, _, _, rfl⟩; exact (flat_cons (flat_row (fun _ _ _ _ h => h)) flat_nil)) ?_
            rintro _ w2126 _ Γ' E' S ⟨A2123, c2124, rfl, rfl⟩
            replace E := E.trans E'
            clear E'
            refine W_v (.slice A2123 t2121.length c2124) (x_assign rfl) rfl ?_
            refine Wl_nil ?_
            refine tn ?_
            refine Wp_seq ?_
            refine Wp_seq ?_
            refine Wp_region_lit ?_
            refine W_v (.int .i64 0) (x_assign rfl) rfl ?_
            refine Wl_nil ?_
            refine tn ?_
            obtain ⟨o2562, o2562h, o2562H⟩ := bindS H
            clear H
            refine Wp_blockJ (fun ρ w' => .inr () = o2562 ∧ Agree ρ [(3, .slice A2123 t2121.length c2124), (25, .slice (some ⟨b5, 0, none⟩) ([(-1 : Int), (1 : Int)] : List Int).length 2), (26, .int .i64 (([(-1 : Int), (1 : Int)] : List Int).length : Int)), (27, .int .i64 x1408)] ∧ Ext w w' ∧ St w' M F [Row r_api_Config 37 (.slice A2123 t2121.length c2124) t2121, Row (rInt .i64) 3 (.slice (some ⟨b5, 0, none⟩) ([(-1 : Int), (1 : Int)] : List Int).length 2) ([(-1 : Int), (1 : Int)] : List Int)]) ?_ ?_
            · skip
              refine Wp_loop (fun n ρ w' => ∃ (x2417 : Int), ferrymanlaw02_TextNames_l4 t2121 n x2417 = some o2562 ∧ Agree ρ [(3, .slice A2123 t2121.length c2124), (4, .int .i64 x2417), (25, .slice (some ⟨b5, 0, none⟩) ([(-1 : Int), (1 : Int)] : List Int).length 2), (26, .int .i64 (([(-1 : Int), (1 : Int)] : List Int).length : Int)), (27, .int .i64 x1408)] ∧ Ext w w' ∧ St w' M F [Row r_api_Config 37 (.slice A2123 t2121.length c2124) t2121, Row (rInt .i64) 3 (.slice (some ⟨b5, 0, none⟩) ([(-1 : Int), (1 : Int)] : List Int).length 2) ([(-1 : Int), (1 : Int)] : List Int)]) k ?_ ?_
              · skip
                exact ⟨(0 : Int), o2562h, ⟨rfl, rfl, rfl, rfl, rfl, trivial⟩, E, S.pick [0, 1] (by decide)⟩
              · intro n
                rintro ρ w2563 ⟨x2417, H, hρ, E, S⟩
                rw [agree_eta hρ]
                clear hρ
                cases n with
                | zero => cases H
                | succ k =>
                  rw [ferrymanlaw02_TextNames_l4.eq_2] at H
                  refine Wp_seq ?_
                  refine Wp_seq ?_
                  refine Wp_region_lit ?_
                  refine W_v (.int .i64 x2417) (x_move rfl) rfl ?_
                  refine W_v (.bool (decide (x2417 < (8 : Int)))) (x_ibin rfl rfl rfl rfl) rfl ?_
                  refine Wl_nil ?_
                  refine tn ?_
                  rcases iteS H with ⟨hb2564, H⟩ | ⟨hb2564, H⟩
                  · refine Wp_cond_true (congrArg Value.bool hb2564) ?_
                    refine Wp_skip ?_
                    refine tn ?_
                    refine Wp_seq ?_
                    refine Wp_block ?_
                    refine Wp_seq ?_
                    refine Wp_region_lit ?_
                    refine W_v (.slice A2123 t2121.length c2124) (x_move rfl) rfl ?_
                    refine W_v (.int .i64 x2417) (x_move rfl) rfl ?_
                    obtain ⟨⟨p2565, p2566⟩, H⟩ := chkS H
                    obtain ⟨b2567, o2568, cs2569, _, _, ee2574, hb2570, vs2571, hR2572, hc2573⟩ := SlW.at' (S.row_read 0 rfl) p2565 p2566
                    obtain rfl : vs2571 = _ := hR2572
                    refine W_v (.pointer (some ⟨b2567, o2568 + x2417.toNat * 8, none⟩)) (x_indexAddr Try.underlying33 ty37 (slA ee2574) rfl p2565 p2566) rfl ?_
                    refine W_v (.agg #[.int .i64 ((rd t2121 x2417).Tasks), .int .i64 ((rd t2121 x2417).Active), .int .i64 ((rd t2121 x2417).Keys), .int .i64 ((rd t2121 x2417).Depth), .int .i64 ((rd t2121 x2417).TS), .int .i64 ((rd t2121 x2417).KeyLen), .int .i64 ((rd t2121 x2417).ValLen), .int .i64 ((rd t2121 x2417).Fan)]) (x_loadA (Hp.of_get hb2570) ty37 rfl (sub_el hc2573 0 rfl) rfl rfl) rfl ?_
                    obtain ⟨t2575, ht2576, H⟩ := bindS H
                    refine W_callF fn24 (text_May.con k M (rd t2121 x2417) t2575  ht2576) S rfl rfl (by rintro _ _ _ ⟨_, rfl⟩; exact flat_nil) ?_
                    rintro _ w2577 _ Γ' E' S ⟨rfl, rfl⟩
                    replace E := E.trans E'
                    clear E'
                    refine W_v (.bool t2575) (x_move rfl) rfl ?_
                    obtain ⟨o2606, o2606h, o2606H⟩ := bindS H
                    clear H
                    refine Wl_cutN 6 (fun ρ w' => ∃ (x2605 : Bool), (x2605) = o2606 ∧ Agree ρ [(3, .slice A2123 t2121.length c2124), (4, .int .i64 x2417), (25, .slice (some ⟨b5, 0, none⟩) ([(-1 : Int), (1 : Int)] : List Int).length 2), (26, .int .i64 (([(-1 : Int), (1 : Int)] : List Int).length : Int)), (27, .int .i64 x1408), (48, .bool x2605)] ∧ Ext w w' ∧ St w' M F [Row r_api_Config 37 (.slice A2123 t2121.length c2124) t2121, Row (rInt .i64) 3 (.slice (some ⟨b5, 0, none⟩) ([(-1 : Int), (1 : Int)] : List Int).length 2) ([(-1 : Int), (1 : Int)] : List Int)]) ?_ ?_
                    · have H := o2606h
                      rcases iteS H with ⟨hb2604, H⟩ | ⟨hb2604, H⟩
                      · skip
                        refine W_no (skF hb2604) rfl ?_
                        refine W_no (skF hb2604) rfl ?_
                        refine W_no (skF hb2604) rfl ?_
                        refine W_no (skF hb2604) rfl ?_
                        refine W_no (skF hb2604) rfl ?_
                        refine W_v (.bool true) (x_pick (k := true) (congrArg Value.bool hb2604) rfl) rfl ?_
                        refine Wl_nil ?_
                        exact ⟨true, Option.some.inj H, ⟨rfl, rfl, rfl, rfl, rfl, rfl, trivial⟩, E, S.pick [0, 1] (by decide)⟩
                      · skip
                        refine W_yes (congrArg some hb2604) ?_
                        refine W_v (.slice A2123 t2121.length c2124) (x_move rfl) rfl ?_
                        refine W_yes (congrArg some hb2604) ?_
                        refine W_v (.int .i64 x2417) (x_move rfl) rfl ?_
                        refine W_yes (congrArg some hb2604) ?_
                        obtain ⟨⟨p2607, p2608⟩, H⟩ := chkS H
                        obtain ⟨b2609, o2610, cs2611, _, _, ee2616, hb2612, vs2613, hR2614, hc2615⟩ := SlW.at' (S.row_read 0 rfl) p2607 p2608
                        obtain rfl : vs2613 = _ := hR2614
                        refine W_v (.pointer (some ⟨b2609, o2610 + x2417.toNat * 8, none⟩)) (x_indexAddr Try.underlying33 ty37 (slA ee2616) rfl p2607 p2608) rfl ?_
                        refine W_yes (congrArg some hb2604) ?_
                        refine W_v (.agg #[.int .i64 ((rd t2121 x2417).Tasks), .int .i64 ((rd t2121 x2417).Active), .int .i64 ((rd t2121 x2417).Keys), .int .i64 ((rd t2121 x2417).Depth), .int .i64 ((rd t2121 x2417).TS), .int .i64 ((rd t2121 x2417).KeyLen), .int .i64 ((rd t2121 x2417).ValLen), .int .i64 ((rd t2121 x2417).Fan)]) (x_loadA (Hp.of_get hb2612) ty37 rfl (sub_el hc2615 0 rfl) rfl rfl) rfl ?_
                        refine W_yes (congrArg some hb2604) ?_
                        obtain ⟨t2617, ht2618, H⟩ := bindS H
                        refine W_callF fn25 (text_Key.con k M (rd t2121 x2417) ([97] : Str) t2617  ht2618) S rfl rfl (by rintro _ _ _ ⟨_, rfl⟩; exact flat_nil) ?_
                        rintro _ w2619 _ Γ' E' S ⟨rfl, rfl⟩
                        replace E := E.trans E'
                        clear E'
                        refine W_v (.bool t2617) (x_pick (k := false) (congrArg Value.bool hb2604) rfl) rfl ?_
                        refine Wl_nil ?_
                        exact ⟨t2617, Option.some.inj H, ⟨rfl, rfl, rfl, rfl, rfl, rfl, trivial⟩, E, S.pick [0, 1] (by decide)⟩
                    · clear o2606h
                      rintro ρ w2620 ⟨x2605, rfl, hρ, E, S⟩
                      rw [agree_eta hρ]
                      clear hρ
                      have H := o2606H
                      clear o2606H
                      refine W_v (.bool x2605) (x_move rfl) rfl ?_
                      obtain ⟨o2649, o2649h, o2649H⟩ := bindS H
                      clear H
                      refine Wl_cutN 6 (fun ρ w' => ∃ (x2648 : Bool), (x2648) = o2649 ∧ Agree ρ [(3, .slice A2123 t2121.length c2124), (4, .int .i64 x2417), (25, .slice (some ⟨b5, 0, none⟩) ([(-1 : Int), (1 : Int)] : List Int).length 2), (26, .int .i64 (([(-1 : Int), (1 : Int)] : List Int).length : Int)), (27, .int .i64 x1408), (55, .bool x2648)] ∧ Ext w w' ∧ St w' M F [Row r_api_Config 37 (.slice A2123 t2121.length c2124) t2121, Row (rInt .i64) 3 (.slice (some ⟨b5, 0, none⟩) ([(-1 : Int), (1 : Int)] : List Int).length 2) ([(-1 : Int), (1 : Int)] : List Int)]) ?_ ?_
                      · have H := o2649h
                        rcases iteS H with ⟨hb2647, H⟩ | ⟨hb2647, H⟩
                        · skip
                          refine W_no (skF hb2647) rfl ?_
                          refine W_no (skF hb2647) rfl ?_
                          refine W_no (skF hb2647) rfl ?_
                          refine W_no (skF hb2647) rfl ?_
                          refine W_no (skF hb2647) rfl ?_
                          refine W_v (.bool true) (x_pick (k := true) (congrArg Value.bool hb2647) rfl) rfl ?_
                          refine Wl_nil ?_
                          exact ⟨true, Option.some.inj H, ⟨rfl, rfl, rfl, rfl, rfl, rfl, trivial⟩, E, S.pick [0, 1] (by decide)⟩
                        · skip
                          refine W_yes (congrArg some hb2647) ?_
                          refine W_v (.slice A2123 t2121.length c2124) (x_move rfl) rfl ?_
                          refine W_yes (congrArg some hb2647) ?_
                          refine W_v (.int .i64 x2417) (x_move rfl) rfl ?_
                          refine W_yes (congrArg some hb2647) ?_
                          obtain ⟨⟨p2650, p2651⟩, H⟩ := chkS H
                          obtain ⟨b2652, o2653, cs2654, _, _, ee2659, hb2655, vs2656, hR2657, hc2658⟩ := SlW.at' (S.row_read 0 rfl) p2650 p2651
                          obtain rfl : vs2656 = _ := hR2657
                          refine W_v (.pointer (some ⟨b2652, o2653 + x2417.toNat * 8, none⟩)) (x_indexAddr Try.underlying33 ty37 (slA ee2659) rfl p2650 p2651) rfl ?_
                          refine W_yes (congrArg some hb2647) ?_
                          refine W_v (.agg #[.int .i64 ((rd t2121 x2417).Tasks), .int .i64 ((rd t2121 x2417).Active), .int .i64 ((rd t2121 x2417).Keys), .int .i64 ((rd t2121 x2417).Depth), .int .i64 ((rd t2121 x2417).TS), .int .i64 ((rd t2121 x2417).KeyLen), .int .i64 ((rd t2121 x2417).ValLen), .int .i64 ((rd t2121 x2417).Fan)]) (x_loadA (Hp.of_get hb2655) ty37 rfl (sub_el hc2658 0 rfl) rfl rfl) rfl ?_
                          refine W_yes (congrArg some hb2647) ?_
                          obtain ⟨t2660, ht2661, H⟩ := bindS H
                          refine W_callF fn26 (text_Bound.con k M (rd t2121 x2417) ([] : Str) t2660  ht2661) S rfl rfl (by rintro _ _ _ ⟨_, rfl⟩; exact flat_nil) ?_
                          rintro _ w2662 _ Γ' E' S ⟨rfl, rfl⟩
                          replace E := E.trans E'
                          clear E'
                          refine W_v (.bool t2660) (x_pick (k := false) (congrArg Value.bool hb2647) rfl) rfl ?_
                          refine Wl_nil ?_
                          exact ⟨t2660, Option.some.inj H, ⟨rfl, rfl, rfl, rfl, rfl, rfl, trivial⟩, E, S.pick [0, 1] (by decide)⟩
                      · clear o2649h
                        rintro ρ w2663 ⟨x2648, rfl, hρ, E, S⟩
                        rw [agree_eta hρ]
                        clear hρ
                        have H := o2649H
                        clear o2649H
                        refine W_v (.bool x2648) (x_move rfl) rfl ?_
                        obtain ⟨o2692, o2692h, o2692H⟩ := bindS H
                        clear H
                        refine Wl_cutN 6 (fun ρ w' => ∃ (x2691 : Bool), (x2691) = o2692 ∧ Agree ρ [(3, .slice A2123 t2121.length c2124), (4, .int .i64 x2417), (25, .slice (some ⟨b5, 0, none⟩) ([(-1 : Int), (1 : Int)] : List Int).length 2), (26, .int .i64 (([(-1 : Int), (1 : Int)] : List Int).length : Int)), (27, .int .i64 x1408), (62, .bool x2691)] ∧ Ext w w' ∧ St w' M F [Row r_api_Config 37 (.slice A2123 t2121.length c2124) t2121, Row (rInt .i64) 3 (.slice (some ⟨b5, 0, none⟩) ([(-1 : Int), (1 : Int)] : List Int).length 2) ([(-1 : Int), (1 : Int)] : List Int)]) ?_ ?_
                        · have H := o2692h
                          rcases iteS H with ⟨hb2690, H⟩ | ⟨hb2690, H⟩
                          · skip
                            refine W_no (skF hb2690) rfl ?_
                            refine W_no (skF hb2690) rfl ?_
                            refine W_no (skF hb2690) rfl ?_
                            refine W_no (skF hb2690) rfl ?_
                            refine W_no (skF hb2690) rfl ?_
                            refine W_v (.bool true) (x_pick (k := true) (congrArg Value.bool hb2690) rfl) rfl ?_
                            refine Wl_nil ?_
                            exact ⟨true, Option.some.inj H, ⟨rfl, rfl, rfl, rfl, rfl, rfl, trivial⟩, E, S.pick [0, 1] (by decide)⟩
                          · skip
                            refine W_yes (congrArg some hb2690) ?_
                            refine W_v (.slice A2123 t2121.length c2124) (x_move rfl) rfl ?_
                            refine W_yes (congrArg some hb2690) ?_
                            refine W_v (.int .i64 x2417) (x_move rfl) rfl ?_
                            refine W_yes (congrArg some hb2690) ?_
                            obtain ⟨⟨p2693, p2694⟩, H⟩ := chkS H
                            obtain ⟨b2695, o2696, cs2697, _, _, ee2702, hb2698, vs2699, hR2700, hc2701⟩ := SlW.at' (S.row_read 0 rfl) p2693 p2694
                            obtain rfl : vs2699 = _ := hR2700
                            refine W_v (.pointer (some ⟨b2695, o2696 + x2417.toNat * 8, none⟩)) (x_indexAddr Try.underlying33 ty37 (slA ee2702) rfl p2693 p2694) rfl ?_
                            refine W_yes (congrArg some hb2690) ?_
                            refine W_v (.agg #[.int .i64 ((rd t2121 x2417).Tasks), .int .i64 ((rd t2121 x2417).Active), .int .i64 ((rd t2121 x2417).Keys), .int .i64 ((rd t2121 x2417).Depth), .int .i64 ((rd t2121 x2417).TS), .int .i64 ((rd t2121 x2417).KeyLen), .int .i64 ((rd t2121 x2417).ValLen), .int .i64 ((rd t2121 x2417).Fan)]) (x_loadA (Hp.of_get hb2698) ty37 rfl (sub_el hc2701 0 rfl) rfl rfl) rfl ?_
                            refine W_yes (congrArg some hb2690) ?_
                            obtain ⟨t2703, ht2704, H⟩ := bindS H
                            refine W_callF fn27 (text_Value.con k M (rd t2121 x2417) ([] : Str) t2703  ht2704) S rfl rfl (by rintro _ _ _ ⟨_, rfl⟩; exact flat_nil) ?_
                            rintro _ w2705 _ Γ' E' S ⟨rfl, rfl⟩
                            replace E := E.trans E'
                            clear E'
                            refine W_v (.bool t2703) (x_pick (k := false) (congrArg Value.bool hb2690) rfl) rfl ?_
                            refine Wl_nil ?_
                            exact ⟨t2703, Option.some.inj H, ⟨rfl, rfl, rfl, rfl, rfl, rfl, trivial⟩, E, S.pick [0, 1] (by decide)⟩
                        · clear o2692h
                          rintro ρ w2706 ⟨x2691, rfl, hρ, E, S⟩
                          rw [agree_eta hρ]
                          clear hρ
                          have H := o2692H
                          clear o2692H
                          refine Wl_nil ?_
                          refine tn ?_
                          rcases iteS H with ⟨hb2707, H⟩ | ⟨hb2707, H⟩
                          · refine Wp_cond_true (congrArg Value.bool hb2707) ?_
                            refine Wp_seq ?_
                            refine Wp_region_lit ?_
                            refine W_v (.bool false) (x_assign rfl) rfl ?_
                            refine Wl_nil ?_
                            refine tn ?_
                            refine Wp_ret ?_
                            refine br (tr (tr (br (tr (tr (br (tr (tr (br (tr (tr (?_))))))))))))
                            obtain rfl := Option.some.inj H
                            have H := o2562H
                            replace H := elimL H
                            obtain rfl := Option.some.inj H
                            have H := o2108H
                            replace H := elimL H
                            obtain rfl := Option.some.inj H
                            exact ⟨_, _, _, fun w1 e1 => run_resR (vs := [.bool false]) (FA.cons (rfl) (FA.nil)), HM, E, S.pick [] (by decide), ⟨rfl, rfl⟩⟩
                          · refine Wp_cond_false (congrArg Value.bool hb2707) ?_
                            refine Wp_skip ?_
                            refine bn ?_
                            refine tn ?_
                            refine Wp_region_lit ?_
                            refine W_v (.int .i64 x2417) (x_move rfl) rfl ?_
                            refine W_v (.int .i64 (IntKind.i64.wrap (x2417 + (1 : Int)))) (x_ibin rfl rfl rfl rfl) rfl ?_
                            refine W_v (.int .i64 (IntKind.i64.wrap (x2417 + (1 : Int)))) (x_assign rfl) rfl ?_
                            refine Wl_nil ?_
                            refine tn ?_
                            exact ⟨k, Nat.lt_succ_self k, ⟨(IntKind.i64.wrap (x2417 + (1 : Int))), H, ⟨rfl, rfl, rfl, rfl, rfl, trivial⟩, E, S.pick [0, 1] (by decide)⟩⟩
                  · refine Wp_cond_false (congrArg Value.bool hb2564) ?_
                    refine Wp_exit ?_
                    refine tx (tx (bsm (?_)))
                    refine tn ?_
                    exact ⟨Option.some.inj H, ⟨rfl, rfl, rfl, rfl, trivial⟩, E, S.pick [0, 1] (by decide)⟩
            · clear o2562h
              rintro ρ w2708 ⟨rfl, hρ, E, S⟩
              rw [agree_eta hρ]
              clear hρ
              have H := o2562H
              clear o2562H
              replace H := elimR H
              refine tn ?_
              refine Wp_seq ?_
              refine Wp_region_lit ?_
              refine W_v (.slice A2123 t2121.length c2124) (x_move rfl) rfl ?_
              obtain ⟨⟨p2709, p2710⟩, H⟩ := chkS H
              obtain ⟨b2711, o2712, cs2713, _, _, ee2718, hb2714, vs2715, hR2716, hc2717⟩ := SlW.at' (S.row_read 0 rfl) p2709 p2710
              obtain rfl : vs2715 = _ := hR2716
              refine W_v (.pointer (some ⟨b2711, o2712 + (8 : Int).toNat * 8, none⟩)) (x_indexAddr Try.underlying33 ty37 (slA ee2718) rfl p2709 p2710) rfl ?_
              refine W_v (.agg #[.int .i64 ((rd t2121 (8 : Int)).Tasks), .int .i64 ((rd t2121 (8 : Int)).Active), .int .i64 ((rd t2121 (8 : Int)).Keys), .int .i64 ((rd t2121 (8 : Int)).Depth), .int .i64 ((rd t2121 (8 : Int)).TS), .int .i64 ((rd t2121 (8 : Int)).KeyLen), .int .i64 ((rd t2121 (8 : Int)).ValLen), .int .i64 ((rd t2121 (8 : Int)).Fan)]) (x_loadA (Hp.of_get hb2714) ty37 rfl (sub_el hc2717 0 rfl) rfl rfl) rfl ?_
              obtain ⟨t2719, ht2720, H⟩ := bindS H
              refine W_callF fn24 (text_May.con k M (rd t2121 (8 : Int)) t2719  ht2720) S rfl rfl (by rintro _ _ _ ⟨_, rfl⟩; exact flat_nil) ?_
              rintro _ w2721 _ Γ' E' S ⟨rfl, rfl⟩
              replace E := E.trans E'
              clear E'
              refine W_v (.bool (!t2719)) (x_not rfl) rfl ?_
              refine W_v (.bool (!t2719)) (x_move rfl) rfl ?_
              obtain ⟨o2750, o2750h, o2750H⟩ := bindS H
              clear H
              refine Wl_cutN 6 (fun ρ w' => ∃ (x2749 : Bool), (x2749) = o2750 ∧ Agree ρ [(3, .slice A2123 t2121.length c2124), (25, .slice (some ⟨b5, 0, none⟩) ([(-1 : Int), (1 : Int)] : List Int).length 2), (26, .int .i64 (([(-1 : Int), (1 : Int)] : List Int).length : Int)), (27, .int .i64 x1408), (74, .bool x2749)] ∧ Ext w w' ∧ St w' M F [Row r_api_Config 37 (.slice A2123 t2121.length c2124) t2121, Row (rInt .i64) 3 (.slice (some ⟨b5, 0, none⟩) ([(-1 : Int), (1 : Int)] : List Int).length 2) ([(-1 : Int), (1 : Int)] : List Int)]) ?_ ?_
              · have H := o2750h
                rcases iteS H with ⟨hb2748, H⟩ | ⟨hb2748, H⟩
                · skip
                  refine W_no (skF hb2748) rfl ?_
                  refine W_no (skF hb2748) rfl ?_
                  refine W_no (skF hb2748) rfl ?_
                  refine W_no (skF hb2748) rfl ?_
                  refine W_no (skF hb2748) rfl ?_
                  refine W_v (.bool true) (x_pick (k := true) (congrArg Value.bool hb2748) rfl) rfl ?_
                  refine Wl_nil ?_
                  exact ⟨true, Option.some.inj H, ⟨rfl, rfl, rfl, rfl, rfl, trivial⟩, E, S.pick [0, 1] (by decide)⟩
                · skip
                  refine W_yes (congrArg some hb2748) ?_
                  refine W_v (.slice A2123 t2121.length c2124) (x_move rfl) rfl ?_
                  refine W_yes (congrArg some hb2748) ?_
                  obtain ⟨⟨p2751, p2752⟩, H⟩ := chkS H
                  obtain ⟨b2753, o2754, cs2755, _, _, ee2760, hb2756, vs2757, hR2758, hc2759⟩ := SlW.at' (S.row_read 0 rfl) p2751 p2752
                  obtain rfl : vs2757 = _ := hR2758
                  refine W_v (.pointer (some ⟨b2753, o2754 + (8 : Int).toNat * 8, none⟩)) (x_indexAddr Try.underlying33 ty37 (slA ee2760) rfl p2751 p2752) rfl ?_
                  refine W_yes (congrArg some hb2748) ?_
                  refine W_v (.agg #[.int .i64 ((rd t2121 (8 : Int)).Tasks), .int .i64 ((rd t2121 (8 : Int)).Active), .int .i64 ((rd t2121 (8 : Int)).Keys), .int .i64 ((rd t2121 (8 : Int)).Depth), .int .i64 ((rd t2121 (8 : Int)).TS), .int .i64 ((rd t2121 (8 : Int)).KeyLen), .int .i64 ((rd t2121 (8 : Int)).ValLen), .int .i64 ((rd t2121 (8 : Int)).Fan)]) (x_loadA (Hp.of_get hb2756) ty37 rfl (sub_el hc2759 0 rfl) rfl rfl) rfl ?_
                  refine W_yes (congrArg some hb2748) ?_
                  obtain ⟨t2761, ht2762, H⟩ := bindS H
                  refine W_callF fn25 (text_Key.con k M (rd t2121 (8 : Int)) ([97] : Str) t2761  ht2762) S rfl rfl (by rintro _ _ _ ⟨_, rfl⟩; exact flat_nil) ?_
                  rintro _ w2763 _ Γ' E' S ⟨rfl, rfl⟩
                  replace E := E.trans E'
                  clear E'
                  refine W_yes (congrArg some hb2748) ?_
                  refine W_v (.bool (!t2761)) (x_not rfl) rfl ?_
                  refine W_v (.bool (!t2761)) (x_pick (k := false) (congrArg Value.bool hb2748) rfl) rfl ?_
                  refine Wl_nil ?_
                  exact ⟨(!t2761), Option.some.inj H, ⟨rfl, rfl, rfl, rfl, rfl, trivial⟩, E, S.pick [0, 1] (by decide)⟩
              · clear o2750h
                rintro ρ w2764 ⟨x2749, rfl, hρ, E, S⟩
                rw [agree_eta hρ]
                clear hρ
                have H := o2750H
                clear o2750H
                refine W_v (.bool x2749) (x_move rfl) rfl ?_
                obtain ⟨o2793, o2793h, o2793H⟩ := bindS H
                clear H
                refine Wl_cutN 6 (fun ρ w' => ∃ (x2792 : Bool), (x2792) = o2793 ∧ Agree ρ [(25, .slice (some ⟨b5, 0, none⟩) ([(-1 : Int), (1 : Int)] : List Int).length 2), (26, .int .i64 (([(-1 : Int), (1 : Int)] : List Int).length : Int)), (27, .int .i64 x1408), (81, .bool x2792)] ∧ Ext w w' ∧ St w' M F [Row (rInt .i64) 3 (.slice (some ⟨b5, 0, none⟩) ([(-1 : Int), (1 : Int)] : List Int).length 2) ([(-1 : Int), (1 : Int)] : List Int)]) ?_ ?_
                · have H := o2793h
                  rcases iteS H with ⟨hb2791, H⟩ | ⟨hb2791, H⟩
                  · skip
                    refine W_no (skF hb2791) rfl ?_
                    refine W_no (skF hb2791) rfl ?_
                    refine W_no (skF hb2791) rfl ?_
                    refine W_no (skF hb2791) rfl ?_
                    refine W_no (skF hb2791) rfl ?_
                    refine W_v (.bool true) (x_pick (k := true) (congrArg Value.bool hb2791) rfl) rfl ?_
                    refine Wl_nil ?_
                    exact ⟨true, Option.some.inj H, ⟨rfl, rfl, rfl, rfl, trivial⟩, E, S.pick [1] (by decide)⟩
                  · skip
                    refine W_yes (congrArg some hb2791) ?_
                    refine W_v (.slice A2123 t2121.length c2124) (x_move rfl) rfl ?_
                    refine W_yes (congrArg some hb2791) ?_
                    obtain ⟨⟨p2794, p2795⟩, H⟩ := chkS H
                    obtain ⟨b2796, o2797, cs2798, _, _, ee2803, hb2799, vs2800, hR2801, hc2802⟩ := SlW.at' (S.row_read 0 rfl) p2794 p2795
                    obtain rfl : vs2800 = _ := hR2801
                    refine W_v (.pointer (some ⟨b2796, o2797 + (8 : Int).toNat * 8, none⟩)) (x_indexAddr Try.underlying33 ty37 (slA ee2803) rfl p2794 p2795) rfl ?_
                    refine W_yes (congrArg some hb2791) ?_
                    refine W_v (.agg #[.int .i64 ((rd t2121 (8 : Int)).Tasks), .int .i64 ((rd t2121 (8 : Int)).Active), .int .i64 ((rd t2121 (8 : Int)).Keys), .int .i64 ((rd t2121 (8 : Int)).Depth), .int .i64 ((rd t2121 (8 : Int)).TS), .int .i64 ((rd t2121 (8 : Int)).KeyLen), .int .i64 ((rd t2121 (8 : Int)).ValLen), .int .i64 ((rd t2121 (8 : Int)).Fan)]) (x_loadA (Hp.of_get hb2799) ty37 rfl (sub_el hc2802 0 rfl) rfl rfl) rfl ?_
                    refine W_yes (congrArg some hb2791) ?_
                    obtain ⟨t2804, ht2805, H⟩ := bindS H
                    refine W_callF fn27 (text_Value.con k M (rd t2121 (8 : Int)) ([] : Str) t2804  ht2805) S rfl rfl (by rintro _ _ _ ⟨_, rfl⟩; exact flat_nil) ?_
                    rintro _ w2806 _ Γ' E' S ⟨rfl, rfl⟩
                    replace E := E.trans E'
                    clear E'
                    refine W_yes (congrArg some hb2791) ?_
                    refine W_v (.bool (!t2804)) (x_not rfl) rfl ?_
                    refine W_v (.bool (!t2804)) (x_pick (k := false) (congrArg Value.bool hb2791) rfl) rfl ?_
                    refine Wl_nil ?_
                    exact ⟨(!t2804), Option.some.inj H, ⟨rfl, rfl, rfl, rfl, trivial⟩, E, S.pick [1] (by decide)⟩
                · clear o2793h
                  rintro ρ w2807 ⟨x2792, rfl, hρ, E, S⟩
                  rw [agree_eta hρ]
                  clear hρ
                  have H := o2793H
                  clear o2793H
                  refine Wl_nil ?_
                  refine tn ?_
                  rcases iteS H with ⟨hb2808, H⟩ | ⟨hb2808, H⟩
                  · refine Wp_cond_true (congrArg Value.bool hb2808) ?_
                    refine Wp_seq ?_
                    refine Wp_region_lit ?_
                    refine W_v (.bool false) (x_assign rfl) rfl ?_
                    refine Wl_nil ?_
                    refine tn ?_
                    refine Wp_ret ?_
                    refine br (tr (tr (br (tr (tr (?_))))))
                    obtain rfl := Option.some.inj H
                    have H := o2108H
                    replace H := elimL H
                    obtain rfl := Option.some.inj H
                    exact ⟨_, _, _, fun w1 e1 => run_resR (vs := [.bool false]) (FA.cons (rfl) (FA.nil)), HM, E, S.pick [] (by decide), ⟨rfl, rfl⟩⟩
                  · refine Wp_cond_false (congrArg Value.bool hb2808) ?_
                    refine Wp_skip ?_
                    refine bn ?_
                    refine tn ?_
                    refine Wp_region_lit ?_
                    refine W_v (.int .i64 (IntKind.i64.wrap (x1408 + (1 : Int)))) (x_ibin rfl rfl rfl rfl) rfl ?_
                    refine W_v (.int .i64 (IntKind.i64.wrap (x1408 + (1 : Int)))) (x_move rfl) rfl ?_
                    refine Wl_nil ?_
                    refine tn ?_
                    exact ⟨k, Nat.lt_succ_self k, ⟨(IntKind.i64.wrap (x1408 + (1 : Int))), H, ⟨rfl, rfl, rfl, trivial⟩, E, S.pick [0] (by decide)⟩⟩
          · refine Wp_cond_false (congrArg Value.bool hb2110) ?_
            refine Wp_exit ?_
            refine tx (tx (bsm (?_)))
            refine tn ?_
            exact ⟨Option.some.inj H, trivial, E, S.pick [] (by decide)⟩
    · clear o2108h
      rintro ρ w2809 ⟨rfl, hρ, E, S⟩
      rw [agree_eta hρ]
      clear hρ
      have H := o2108H
      clear o2108H
      replace H := elimR H
      refine tn ?_
      refine Wp_seq ?_
      refine Wp_region_lit ?_
      obtain ⟨t2810, ht2811, H⟩ := bindS H
      refine W_callF fn23 (ferrymanlaw02_bent.con k M (1 : Int) t2810  ht2811) S rfl rfl (by rintro _ _ _ ⟨_, _, _, rfl⟩; exact (flat_cons (flat_row (fun _ _ _ _ h => h)) flat_nil)) ?_
      rintro _ w2815 _ Γ' E' S ⟨A2812, c2813, rfl, rfl⟩
      replace E := E.trans E'
      clear E'
      obtain ⟨⟨p2816, p2817⟩, H⟩ := chkS H
      obtain ⟨b2818, o2819, cs2820, _, _, ee2825, hb2821, vs2822, hR2823, hc2824⟩ := SlW.at' (S.row_read 0 rfl) p2816 p2817
      obtain rfl : vs2822 = _ := hR2823
      refine W_v (.pointer (some ⟨b2818, o2819 + (8 : Int).toNat * 8, none⟩)) (x_indexAddr Try.underlying33 ty37 (slA ee2825) rfl p2816 p2817) rfl ?_
      refine W_v (.agg #[.int .i64 ((rd t2810 (8 : Int)).Tasks), .int .i64 ((rd t2810 (8 : Int)).Active), .int .i64 ((rd t2810 (8 : Int)).Keys), .int .i64 ((rd t2810 (8 : Int)).Depth), .int .i64 ((rd t2810 (8 : Int)).TS), .int .i64 ((rd t2810 (8 : Int)).KeyLen), .int .i64 ((rd t2810 (8 : Int)).ValLen), .int .i64 ((rd t2810 (8 : Int)).Fan)]) (x_loadA (Hp.of_get hb2821) ty37 rfl (sub_el hc2824 0 rfl) rfl rfl) rfl ?_
      refine W_alloc S #[.int .i64 0, .int .i64 0, .int .i64 0, .int .i64 0, .int .i64 0, .int .i64 0, .int .i64 0, .int .i64 0] ty37 rfl rfl ?_
      intro b2826 w2827 E' S
      replace E := E.trans E'
      clear E'
      refine W_store S 0 rfl ty37 rfl rfl [.int .i64 ((rd t2810 (8 : Int)).Tasks), .int .i64 ((rd t2810 (8 : Int)).Active), .int .i64 ((rd t2810 (8 : Int)).Keys), .int .i64 ((rd t2810 (8 : Int)).Depth), .int .i64 ((rd t2810 (8 : Int)).TS), .int .i64 ((rd t2810 (8 : Int)).KeyLen), .int .i64 ((rd t2810 (8 : Int)).ValLen), .int .i64 ((rd t2810 (8 : Int)).Fan)] rfl rfl rfl #[.int .i64 ((rd t2810 (8 : Int)).Tasks), .int .i64 ((rd t2810 (8 : Int)).Active), .int .i64 ((rd t2810 (8 : Int)).Keys), .int .i64 ((rd t2810 (8 : Int)).Depth), .int .i64 ((rd t2810 (8 : Int)).TS), .int .i64 ((rd t2810 (8 : Int)).KeyLen), .int .i64 ((rd t2810 (8 : Int)).ValLen), .int .i64 ((rd t2810 (8 : Int)).Fan)] rfl rfl ?_
      intro w2829 E' S
      replace E := E.trans E'
      clear E'
      refine Wl_nil ?_
      refine tn ?_
      refine Wp_seq ?_
      refine Wp_region_lit ?_
      obtain ⟨⟨p2830, p2831, p2832, p2833⟩, H⟩ := chkS H
      refine W_make (r := (rInt .u8)) S (0 : Int) Try.underlying39 ty5 rfl (by decide) (fun _ => rfl) rfl rfl p2830 p2831 p2832 p2833 rfl ?_
      intro b2834 w2835 E' S
      replace E := E.trans E'
      clear E'
      refine W_v (.string (bs (bytesOf (List.replicate (257 : Int).toNat (0 : Int))))) (x_conv_b2s Try.underlying39 Try.underlying9 Try.underlying5 rfl (S.row_read 0 rfl)) rfl ?_
      refine W_v (.string (bs (bytesOf (List.replicate (257 : Int).toNat (0 : Int))))) (x_assign rfl) rfl ?_
      refine Wl_nil ?_
      refine tn ?_
      refine Wp_seq ?_
      refine Wp_seq ?_
      refine Wp_region_any (S := fun w' => ∃ Mx, M.le Mx ∧ St w' Mx F [Row (rInt .u8) 5 (.slice (some ⟨b2834, 0, none⟩) (List.replicate (257 : Int).toNat (0 : Int)).length ((257 : Int).toNat)) (List.replicate (257 : Int).toNat (0 : Int)), Blk b2826 (.cells #[.int .i64 ((rd t2810 (8 : Int)).Tasks), .int .i64 ((rd t2810 (8 : Int)).Active), .int .i64 ((rd t2810 (8 : Int)).Keys), .int .i64 ((rd t2810 (8 : Int)).Depth), .int .i64 ((rd t2810 (8 : Int)).TS), .int .i64 ((rd t2810 (8 : Int)).KeyLen), .int .i64 ((rd t2810 (8 : Int)).ValLen), .int .i64 ((rd t2810 (8 : Int)).Fan)] 37 (0, 0)), Row r_api_Config 37 (.slice A2812 t2810.length c2813) t2810]) mixed ?_
      intro w2908 hw2909 E'
      replace S := S.heap hw2909
      replace E := E.trans E'
      clear E'
      refine Wa_take (i := 0) rfl (by kernel_rfl) rfl rfl (.agg #[.int .i64 ((rd t2810 (8 : Int)).Tasks), .int .i64 ((rd t2810 (8 : Int)).Active), .int .i64 ((rd t2810 (8 : Int)).Keys), .int .i64 ((rd t2810 (8 : Int)).Depth), .int .i64 ((rd t2810 (8 : Int)).TS), .int .i64 ((rd t2810 (8 : Int)).KeyLen), .int .i64 ((rd t2810 (8 : Int)).ValLen), .int .i64 ((rd t2810 (8 : Int)).Fan)]) rfl (fun w' h' => x_loadA (cls_blk h' 1 rfl) ty37 rfl (sub_of_extract rfl) rfl rfl) (⟨M, Hp.le_refl M, S.pick [0, 1, 2] (by decide)⟩) ?_
      refine Wa_take (i := 1) rfl (by kernel_rfl) rfl rfl (.string (bs (bytesOf (List.replicate (257 : Int).toNat (0 : Int))))) rfl (fun w' h' => x_move rfl) (⟨M, Hp.le_refl M, S.pick [0, 1, 2] (by decide)⟩) ?_
      obtain ⟨⟨p2910, p2911⟩, H⟩ := chkS H
      refine Wa_take (i := 2) rfl (by kernel_rfl) rfl rfl (.string (bs (List.take (64 : Int).toNat (bytesOf (List.replicate (257 : Int).toNat (0 : Int)))))) rfl (fun w' h' => x_sliceStr_hi Try.underlying9 rfl rfl p2910 p2911) (⟨M, Hp.le_refl M, S.pick [0, 1, 2] (by decide)⟩) ?_
      refine Wa_solo (i := 3) rfl (by kernel_rfl) ?_
      obtain ⟨t2912, ht2913, H⟩ := bindS H
      refine W_callF fn25 (text_Key.con k M (rd t2810 (8 : Int)) (List.take (64 : Int).toNat (bytesOf (List.replicate (257 : Int).toNat (0 : Int)))) t2912  ht2913) S rfl rfl (by rintro _ _ _ ⟨_, rfl⟩; exact flat_nil) ?_
      rintro _ w2914 _ Γ' E' S ⟨rfl, rfl⟩
      replace E := E.trans E'
      clear E'
      refine Wl_nil (on_n ⟨⟨M, Hp.le_refl M, S.pick [0, 1, 2] (by decide)⟩, ?_⟩)
      refine Wa_take (i := 4) rfl (by kernel_rfl) rfl rfl (.bool (!t2912)) rfl (fun w' h' => x_not rfl) (⟨M, Hp.le_refl M, S.pick [0, 1, 2] (by decide)⟩) ?_
      refine Wa_take (i := 5) rfl (by kernel_rfl) rfl rfl (.bool (!t2912)) rfl (fun w' h' => x_move rfl) (⟨M, Hp.le_refl M, S.pick [0, 1, 2] (by decide)⟩) ?_
      obtain ⟨o2922, o2922h, o2922H⟩ := bindS H
      clear H
      refine Wa_join (fun ρ w' => ∃ (x2921 : Bool), (x2921) = o2922 ∧ Agree ρ [(5, .pointer (some ⟨b2826, 0, none⟩)), (6, .string (bs (bytesOf (List.replicate (257 : Int).toNat (0 : Int))))), (98, .bool x2921)] ∧ Ext w w' ∧ St w' M F [Row (rInt .u8) 5 (.slice (some ⟨b2834, 0, none⟩) (List.replicate (257 : Int).toNat (0 : Int)).length ((257 : Int).toNat)) (List.replicate (257 : Int).toNat (0 : Int)), Blk b2826 (.cells #[.int .i64 ((rd t2810 (8 : Int)).Tasks), .int .i64 ((rd t2810 (8 : Int)).Active), .int .i64 ((rd t2810 (8 : Int)).Keys), .int .i64 ((rd t2810 (8 : Int)).Depth), .int .i64 ((rd t2810 (8 : Int)).TS), .int .i64 ((rd t2810 (8 : Int)).KeyLen), .int .i64 ((rd t2810 (8 : Int)).ValLen), .int .i64 ((rd t2810 (8 : Int)).Fan)] 37 (0, 0)), Row r_api_Config 37 (.slice A2812 t2810.length c2813) t2810]) 25 (Ls 36 [0, 1, 2, 3, 4, 5, 6, 7, 8, 9, 10]) ?_ ?_
      · clear o2922h
        rintro ρ w2923 ⟨x2921, rfl, hρ, E, S⟩
        rw [agree_eta hρ]
        clear hρ
        have H := o2922H
        clear o2922H
        refine Wa_take (i := 11) rfl (by kernel_rfl) rfl rfl (.bool x2921) rfl (fun w' h' => x_move rfl) (⟨M, Hp.le_refl M, S.pick [0, 1, 2] (by decide)⟩) ?_
        obtain ⟨o2931, o2931h, o2931H⟩ := bindS H
        clear H
        refine Wa_join (fun ρ w' => ∃ (x2930 : Bool), (x2930) = o2931 ∧ Agree ρ [(5, .pointer (some ⟨b2826, 0, none⟩)), (6, .string (bs (bytesOf (List.replicate (257 : Int).toNat (0 : Int))))), (105, .bool x2930)] ∧ Ext w w' ∧ St w' M F [Row (rInt .u8) 5 (.slice (some ⟨b2834, 0, none⟩) (List.replicate (257 : Int).toNat (0 : Int)).length ((257 : Int).toNat)) (List.replicate (257 : Int).toNat (0 : Int)), Blk b2826 (.cells #[.int .i64 ((rd t2810 (8 : Int)).Tasks), .int .i64 ((rd t2810 (8 : Int)).Active), .int .i64 ((rd t2810 (8 : Int)).Keys), .int .i64 ((rd t2810 (8 : Int)).Depth), .int .i64 ((rd t2810 (8 : Int)).TS), .int .i64 ((rd t2810 (8 : Int)).KeyLen), .int .i64 ((rd t2810 (8 : Int)).ValLen), .int .i64 ((rd t2810 (8 : Int)).Fan)] 37 (0, 0)), Row r_api_Config 37 (.slice A2812 t2810.length c2813) t2810]) 18 (Ls 36 [0, 1, 2, 3, 4, 5, 6, 7, 8, 9, 10, 11, 12, 13, 14, 15, 16, 17]) ?_ ?_
        · clear o2931h
          rintro ρ w2932 ⟨x2930, rfl, hρ, E, S⟩
          rw [agree_eta hρ]
          clear hρ
          have H := o2931H
          clear o2931H
          refine Wa_take (i := 18) rfl (by kernel_rfl) rfl rfl (.bool x2930) rfl (fun w' h' => x_move rfl) (⟨M, Hp.le_refl M, S.pick [0, 1, 2] (by decide)⟩) ?_
          obtain ⟨o2940, o2940h, o2940H⟩ := bindS H
          clear H
          refine Wa_join (fun ρ w' => ∃ (x2939 : Bool), (x2939) = o2940 ∧ Agree ρ [(5, .pointer (some ⟨b2826, 0, none⟩)), (6, .string (bs (bytesOf (List.replicate (257 : Int).toNat (0 : Int))))), (111, .bool x2939)] ∧ Ext w w' ∧ St w' M F [Row (rInt .u8) 5 (.slice (some ⟨b2834, 0, none⟩) (List.replicate (257 : Int).toNat (0 : Int)).length ((257 : Int).toNat)) (List.replicate (257 : Int).toNat (0 : Int)), Blk b2826 (.cells #[.int .i64 ((rd t2810 (8 : Int)).Tasks), .int .i64 ((rd t2810 (8 : Int)).Active), .int .i64 ((rd t2810 (8 : Int)).Keys), .int .i64 ((rd t2810 (8 : Int)).Depth), .int .i64 ((rd t2810 (8 : Int)).TS), .int .i64 ((rd t2810 (8 : Int)).KeyLen), .int .i64 ((rd t2810 (8 : Int)).ValLen), .int .i64 ((rd t2810 (8 : Int)).Fan)] 37 (0, 0)), Row r_api_Config 37 (.slice A2812 t2810.length c2813) t2810]) 12 (Ls 36 [0, 1, 2, 3, 4, 5, 6, 7, 8, 9, 10, 11, 12, 13, 14, 15, 16, 17, 18, 19, 20, 21, 22, 23]) ?_ ?_
          · clear o2940h
            rintro ρ w2941 ⟨x2939, rfl, hρ, E, S⟩
            rw [agree_eta hρ]
            clear hρ
            have H := o2940H
            clear o2940H
            refine Wa_take (i := 24) rfl (by kernel_rfl) rfl rfl (.bool x2939) rfl (fun w' h' => x_move rfl) (⟨M, Hp.le_refl M, S.pick [0, 1, 2] (by decide)⟩) ?_
            obtain ⟨o2949, o2949h, o2949H⟩ := bindS H
            clear H
            refine Wa_join (fun ρ w' => ∃ (x2948 : Bool), (x2948) = o2949 ∧ Agree ρ [(5, .pointer (some ⟨b2826, 0, none⟩)), (6, .string (bs (bytesOf (List.replicate (257 : Int).toNat (0 : Int))))), (118, .bool x2948)] ∧ Ext w w' ∧ St w' M F [Row (rInt .u8) 5 (.slice (some ⟨b2834, 0, none⟩) (List.replicate (257 : Int).toNat (0 : Int)).length ((257 : Int).toNat)) (List.replicate (257 : Int).toNat (0 : Int)), Blk b2826 (.cells #[.int .i64 ((rd t2810 (8 : Int)).Tasks), .int .i64 ((rd t2810 (8 : Int)).Active), .int .i64 ((rd t2810 (8 : Int)).Keys), .int .i64 ((rd t2810 (8 : Int)).Depth), .int .i64 ((rd t2810 (8 : Int)).TS), .int .i64 ((rd t2810 (8 : Int)).KeyLen), .int .i64 ((rd t2810 (8 : Int)).ValLen), .int .i64 ((rd t2810 (8 : Int)).Fan)] 37 (0, 0)), Row r_api_Config 37 (.slice A2812 t2810.length c2813) t2810]) 5 (Ls 36 [0, 1, 2, 3, 4, 5, 6, 7, 8, 9, 10, 11, 12, 13, 14, 15, 16, 17, 18, 19, 20, 21, 22, 23, 24, 25, 26, 27, 28, 29, 30]) ?_ ?_
            · clear o2949h
              rintro ρ w2950 ⟨x2948, rfl, hρ, E, S⟩
              rw [agree_eta hρ]
              clear hρ
              have H := o2949H
              clear o2949H
              refine Wa_take (i := 31) rfl (by kernel_rfl) rfl rfl (.bool x2948) rfl (fun w' h' => x_move rfl) (⟨M, Hp.le_refl M, S.pick [0, 1, 2] (by decide)⟩) ?_
              obtain ⟨o2956, o2956h, o2956H⟩ := bindS H
              clear H
              refine Wa_join (fun ρ w' => ∃ (x2955 : Bool), (x2955) = o2956 ∧ Agree ρ [(123, .bool x2955)] ∧ Ext w w' ∧ St w' M F [Row (rInt .u8) 5 (.slice (some ⟨b2834, 0, none⟩) (List.replicate (257 : Int).toNat (0 : Int)).length ((257 : Int).toNat)) (List.replicate (257 : Int).toNat (0 : Int)), Blk b2826 (.cells #[.int .i64 ((rd t2810 (8 : Int)).Tasks), .int .i64 ((rd t2810 (8 : Int)).Active), .int .i64 ((rd t2810 (8 : Int)).Keys), .int .i64 ((rd t2810 (8 : Int)).Depth), .int .i64 ((rd t2810 (8 : Int)).TS), .int .i64 ((rd t2810 (8 : Int)).KeyLen), .int .i64 ((rd t2810 (8 : Int)).ValLen), .int .i64 ((rd t2810 (8 : Int)).Fan)] 37 (0, 0)), Row r_api_Config 37 (.slice A2812 t2810.length c2813) t2810]) 0 (Ls 36 [0, 1, 2, 3, 4, 5, 6, 7, 8, 9, 10, 11, 12, 13, 14, 15, 16, 17, 18, 19, 20, 21, 22, 23, 24, 25, 26, 27, 28, 29, 30, 31, 32, 33, 34, 35]) ?_ ?_
              · clear o2956h
                rintro ρ w2957 ⟨x2955, rfl, hρ, E, S⟩
                rw [agree_eta hρ]
                clear hρ
                have H := o2956H
                clear o2956H
                refine Wa_done (by kernel_rfl) ?_
                refine tn ?_
                rcases iteS H with ⟨hb2958, H⟩ | ⟨hb2958, H⟩
                · refine Wp_cond_true (congrArg Value.bool hb2958) ?_
                  refine Wp_seq ?_
                  refine Wp_region_lit ?_
                  refine W_v (.bool false) (x_assign rfl) rfl ?_
                  refine Wl_nil ?_
                  refine tn ?_
                  refine Wp_ret ?_
                  refine tr (?_)
                  obtain rfl := Option.some.inj H
                  exact ⟨_, _, _, fun w1 e1 => run_resR (vs := [.bool false]) (FA.cons (rfl) (FA.nil)), HM, E, S.pick [] (by decide), ⟨rfl, rfl⟩⟩
                · refine Wp_cond_false (congrArg Value.bool hb2958) ?_
                  refine Wp_skip ?_
                  refine tn ?_
                  refine Wp_seq ?_
                  refine Wp_region_lit ?_
                  obtain ⟨t2959, ht2960, H⟩ := bindS H
                  refine W_callF fn13 (text_Compare.con k M ([127] : Str) ([128] : Str) t2959  ht2960) S rfl rfl (by rintro _ _ _ ⟨_, rfl⟩; exact flat_nil) ?_
                  rintro _ w2961 _ Γ' E' S ⟨rfl, rfl⟩
                  replace E := E.trans E'
                  clear E'
                  refine W_v (.bool (t2959 == (-1 : Int))) (x_ibin rfl rfl rfl rfl) rfl ?_
                  refine W_v (.bool (t2959 == (-1 : Int))) (x_move rfl) rfl ?_
                  obtain ⟨o2970, o2970h, o2970H⟩ := bindS H
                  clear H
                  refine Wl_cutN 3 (fun ρ w' => ∃ (x2969 : Bool), (x2969) = o2970 ∧ Agree ρ [(129, .bool x2969)] ∧ Ext w w' ∧ St w' M F []) ?_ ?_
                  · have H := o2970h
                    rcases iteS H with ⟨hb2968, H⟩ | ⟨hb2968, H⟩
                    · skip
                      refine W_yes (congrArg some hb2968) ?_
                      obtain ⟨t2971, ht2972, H⟩ := bindS H
                      refine W_callF fn13 (text_Compare.con k M ([255] : Str) ([97] : Str) t2971  ht2972) S rfl rfl (by rintro _ _ _ ⟨_, rfl⟩; exact flat_nil) ?_
                      rintro _ w2973 _ Γ' E' S ⟨rfl, rfl⟩
                      replace E := E.trans E'
                      clear E'
                      refine W_yes (congrArg some hb2968) ?_
                      refine W_v (.bool (t2971 == (1 : Int))) (x_ibin rfl rfl rfl rfl) rfl ?_
                      refine W_v (.bool (t2971 == (1 : Int))) (x_pick (k := true) (congrArg Value.bool hb2968) rfl) rfl ?_
                      refine Wl_nil ?_
                      exact ⟨(t2971 == (1 : Int)), Option.some.inj H, ⟨rfl, trivial⟩, E, S.pick [] (by decide)⟩
                    · skip
                      refine W_no (skT hb2968) rfl ?_
                      refine W_no (skT hb2968) rfl ?_
                      refine W_v (.bool false) (x_pick (k := false) (congrArg Value.bool hb2968) rfl) rfl ?_
                      refine Wl_nil ?_
                      exact ⟨false, Option.some.inj H, ⟨rfl, trivial⟩, E, S.pick [] (by decide)⟩
                  · clear o2970h
                    rintro ρ w2974 ⟨x2969, rfl, hρ, E, S⟩
                    rw [agree_eta hρ]
                    clear hρ
                    have H := o2970H
                    clear o2970H
                    refine W_v (.bool x2969) (x_move rfl) rfl ?_
                    obtain ⟨o2983, o2983h, o2983H⟩ := bindS H
                    clear H
                    refine Wl_cutN 3 (fun ρ w' => ∃ (x2982 : Bool), (x2982) = o2983 ∧ Agree ρ [(133, .bool x2982)] ∧ Ext w w' ∧ St w' M F []) ?_ ?_
                    · have H := o2983h
                      rcases iteS H with ⟨hb2981, H⟩ | ⟨hb2981, H⟩
                      · skip
                        refine W_yes (congrArg some hb2981) ?_
                        obtain ⟨t2984, ht2985, H⟩ := bindS H
                        refine W_callF fn13 (text_Compare.con k M ([0] : Str) ([] : Str) t2984  ht2985) S rfl rfl (by rintro _ _ _ ⟨_, rfl⟩; exact flat_nil) ?_
                        rintro _ w2986 _ Γ' E' S ⟨rfl, rfl⟩
                        replace E := E.trans E'
                        clear E'
                        refine W_yes (congrArg some hb2981) ?_
                        refine W_v (.bool (t2984 == (1 : Int))) (x_ibin rfl rfl rfl rfl) rfl ?_
                        refine W_v (.bool (t2984 == (1 : Int))) (x_pick (k := true) (congrArg Value.bool hb2981) rfl) rfl ?_
                        refine Wl_nil ?_
                        exact ⟨(t2984 == (1 : Int)), Option.some.inj H, ⟨rfl, trivial⟩, E, S.pick [] (by decide)⟩
                      · skip
                        refine W_no (skT hb2981) rfl ?_
                        refine W_no (skT hb2981) rfl ?_
                        refine W_v (.bool false) (x_pick (k := false) (congrArg Value.bool hb2981) rfl) rfl ?_
                        refine Wl_nil ?_
                        exact ⟨false, Option.some.inj H, ⟨rfl, trivial⟩, E, S.pick [] (by decide)⟩
                    · clear o2983h
                      rintro ρ w2987 ⟨x2982, rfl, hρ, E, S⟩
                      rw [agree_eta hρ]
                      clear hρ
                      have H := o2983H
                      clear o2983H
                      refine W_v (.bool x2982) (x_move rfl) rfl ?_
                      obtain ⟨o2996, o2996h, o2996H⟩ := bindS H
                      clear H
                      refine Wl_cutN 3 (fun ρ w' => ∃ (x2995 : Bool), (x2995) = o2996 ∧ Agree ρ [(137, .bool x2995)] ∧ Ext w w' ∧ St w' M F []) ?_ ?_
                      · have H := o2996h
                        rcases iteS H with ⟨hb2994, H⟩ | ⟨hb2994, H⟩
                        · skip
                          refine W_yes (congrArg some hb2994) ?_
                          obtain ⟨t2997, ht2998, H⟩ := bindS H
                          refine W_callF fn17 (text_Suffix.con k M ([97, 97] : Str) ([97, 97, 97] : Str) (9 : Int) t2997  ht2998) S rfl rfl (by rintro _ _ _ ⟨_, rfl⟩; exact flat_nil) ?_
                          rintro _ w2999 _ Γ' E' S ⟨rfl, rfl⟩
                          replace E := E.trans E'
                          clear E'
                          refine W_yes (congrArg some hb2994) ?_
                          refine W_v (.bool (t2997 == (2 : Int))) (x_ibin rfl rfl rfl rfl) rfl ?_
                          refine W_v (.bool (t2997 == (2 : Int))) (x_pick (k := true) (congrArg Value.bool hb2994) rfl) rfl ?_
                          refine Wl_nil ?_
                          exact ⟨(t2997 == (2 : Int)), Option.some.inj H, ⟨rfl, trivial⟩, E, S.pick [] (by decide)⟩
                        · skip
                          refine W_no (skT hb2994) rfl ?_
                          refine W_no (skT hb2994) rfl ?_
                          refine W_v (.bool false) (x_pick (k := false) (congrArg Value.bool hb2994) rfl) rfl ?_
                          refine Wl_nil ?_
                          exact ⟨false, Option.some.inj H, ⟨rfl, trivial⟩, E, S.pick [] (by decide)⟩
                      · clear o2996h
                        rintro ρ w3000 ⟨x2995, rfl, hρ, E, S⟩
                        rw [agree_eta hρ]
                        clear hρ
                        have H := o2996H
                        clear o2996H
                        refine W_v (.bool x2995) (x_move rfl) rfl ?_
                        obtain ⟨o3009, o3009h, o3009H⟩ := bindS H
                        clear H
                        refine Wl_cutN 3 (fun ρ w' => ∃ (x3008 : Bool), (x3008) = o3009 ∧ Agree ρ [(141, .bool x3008)] ∧ Ext w w' ∧ St w' M F []) ?_ ?_
                        · have H := o3009h
                          rcases iteS H with ⟨hb3007, H⟩ | ⟨hb3007, H⟩
                          · skip
                            refine W_yes (congrArg some hb3007) ?_
                            obtain ⟨t3010, ht3011, H⟩ := bindS H
                            refine W_callF fn17 (text_Suffix.con k M ([97, 98] : Str) ([98] : Str) (-5 : Int) t3010  ht3011) S rfl rfl (by rintro _ _ _ ⟨_, rfl⟩; exact flat_nil) ?_
                            rintro _ w3012 _ Γ' E' S ⟨rfl, rfl⟩
                            replace E := E.trans E'
                            clear E'
                            refine W_yes (congrArg some hb3007) ?_
                            refine W_v (.bool (t3010 == (0 : Int))) (x_ibin rfl rfl rfl rfl) rfl ?_
                            refine W_v (.bool (t3010 == (0 : Int))) (x_pick (k := true) (congrArg Value.bool hb3007) rfl) rfl ?_
                            refine Wl_nil ?_
                            exact ⟨(t3010 == (0 : Int)), Option.some.inj H, ⟨rfl, trivial⟩, E, S.pick [] (by decide)⟩
                          · skip
                            refine W_no (skT hb3007) rfl ?_
                            refine W_no (skT hb3007) rfl ?_
                            refine W_v (.bool false) (x_pick (k := false) (congrArg Value.bool hb3007) rfl) rfl ?_
                            refine Wl_nil ?_
                            exact ⟨false, Option.some.inj H, ⟨rfl, trivial⟩, E, S.pick [] (by decide)⟩
                        · clear o3009h
                          rintro ρ w3013 ⟨x3008, rfl, hρ, E, S⟩
                          rw [agree_eta hρ]
                          clear hρ
                          have H := o3009H
                          clear o3009H
                          refine W_v (.bool x3008) (x_move rfl) rfl ?_
                          obtain ⟨o3022, o3022h, o3022H⟩ := bindS H
                          clear H
                          refine Wl_cutN 3 (fun ρ w' => ∃ (x3021 : Bool), (x3021) = o3022 ∧ Agree ρ [(145, .bool x3021)] ∧ Ext w w' ∧ St w' M F []) ?_ ?_
                          · have H := o3022h
                            rcases iteS H with ⟨hb3020, H⟩ | ⟨hb3020, H⟩
                            · skip
                              refine W_yes (congrArg some hb3020) ?_
                              obtain ⟨t3023, ht3024, H⟩ := bindS H
                              refine W_callF fn15 (text_Prefix.con k M ([] : Str) ([97] : Str) t3023  ht3024) S rfl rfl (by rintro _ _ _ ⟨_, rfl⟩; exact flat_nil) ?_
                              rintro _ w3025 _ Γ' E' S ⟨rfl, rfl⟩
                              replace E := E.trans E'
                              clear E'
                              refine W_yes (congrArg some hb3020) ?_
                              refine W_v (.bool (t3023 == (0 : Int))) (x_ibin rfl rfl rfl rfl) rfl ?_
                              refine W_v (.bool (t3023 == (0 : Int))) (x_pick (k := true) (congrArg Value.bool hb3020) rfl) rfl ?_
                              refine Wl_nil ?_
                              exact ⟨(t3023 == (0 : Int)), Option.some.inj H, ⟨rfl, trivial⟩, E, S.pick [] (by decide)⟩
                            · skip
                              refine W_no (skT hb3020) rfl ?_
                              refine W_no (skT hb3020) rfl ?_
                              refine W_v (.bool false) (x_pick (k := false) (congrArg Value.bool hb3020) rfl) rfl ?_
                              refine Wl_nil ?_
                              exact ⟨false, Option.some.inj H, ⟨rfl, trivial⟩, E, S.pick [] (by decide)⟩
                          · clear o3022h
                            rintro ρ w3026 ⟨x3021, rfl, hρ, E, S⟩
                            rw [agree_eta hρ]
                            clear hρ
                            have H := o3022H
                            clear o3022H
                            refine W_v (.bool x3021) (x_move rfl) rfl ?_
                            obtain ⟨o3035, o3035h, o3035H⟩ := bindS H
                            clear H
                            refine Wl_cutN 3 (fun ρ w' => ∃ (x3034 : Bool), (x3034) = o3035 ∧ Agree ρ [(149, .bool x3034)] ∧ Ext w w' ∧ St w' M F []) ?_ ?_
                            · have H := o3035h
                              rcases iteS H with ⟨hb3033, H⟩ | ⟨hb3033, H⟩
                              · skip
                                refine W_yes (congrArg some hb3033) ?_
                                obtain ⟨t3036, ht3037, H⟩ := bindS H
                                refine W_callF fn19 (text_Next.con k M ([] : Str) t3036  ht3037) S rfl rfl (by rintro _ _ _ ⟨_, rfl⟩; exact flat_nil) ?_
                                rintro _ w3038 _ Γ' E' S ⟨rfl, rfl⟩
                                replace E := E.trans E'
                                clear E'
                                refine W_yes (congrArg some hb3033) ?_
                                refine W_v (.bool (sbin .eql t3036 ([0] : Str))) (x_sbin rfl rfl rfl) rfl ?_
                                refine W_v (.bool (sbin .eql t3036 ([0] : Str))) (x_pick (k := true) (congrArg Value.bool hb3033) rfl) rfl ?_
                                refine Wl_nil ?_
                                exact ⟨(sbin .eql t3036 ([0] : Str)), Option.some.inj H, ⟨rfl, trivial⟩, E, S.pick [] (by decide)⟩
                              · skip
                                refine W_no (skT hb3033) rfl ?_
                                refine W_no (skT hb3033) rfl ?_
                                refine W_v (.bool false) (x_pick (k := false) (congrArg Value.bool hb3033) rfl) rfl ?_
                                refine Wl_nil ?_
                                exact ⟨false, Option.some.inj H, ⟨rfl, trivial⟩, E, S.pick [] (by decide)⟩
                            · clear o3035h
                              rintro ρ w3039 ⟨x3034, rfl, hρ, E, S⟩
                              rw [agree_eta hρ]
                              clear hρ
                              have H := o3035H
                              clear o3035H
                              refine W_v (.bool x3034) (x_move rfl) rfl ?_
                              obtain ⟨o3048, o3048h, o3048H⟩ := bindS H
                              clear H
                              refine Wl_cutN 2 (fun ρ w' => ∃ (x3047 : Bool), (x3047) = o3048 ∧ Agree ρ [(152, .bool x3047)] ∧ Ext w w' ∧ St w' M F []) ?_ ?_
                              · have H := o3048h
                                rcases iteS H with ⟨hb3046, H⟩ | ⟨hb3046, H⟩
                                · skip
                                  refine W_yes (congrArg some hb3046) ?_
                                  obtain ⟨t3049, ht3050, H⟩ := bindS H
                                  refine W_callF fn21 (text_Within.con k M ([] : Str) ([] : Str) ([] : Str) t3049  ht3050) S rfl rfl (by rintro _ _ _ ⟨_, rfl⟩; exact flat_nil) ?_
                                  rintro _ w3051 _ Γ' E' S ⟨rfl, rfl⟩
                                  replace E := E.trans E'
                                  clear E'
                                  refine W_v (.bool t3049) (x_pick (k := true) (congrArg Value.bool hb3046) rfl) rfl ?_
                                  refine Wl_nil ?_
                                  exact ⟨t3049, Option.some.inj H, ⟨rfl, trivial⟩, E, S.pick [] (by decide)⟩
                                · skip
                                  refine W_no (skT hb3046) rfl ?_
                                  refine W_v (.bool false) (x_pick (k := false) (congrArg Value.bool hb3046) rfl) rfl ?_
                                  refine Wl_nil ?_
                                  exact ⟨false, Option.some.inj H, ⟨rfl, trivial⟩, E, S.pick [] (by decide)⟩
                              · clear o3048h
                                rintro ρ w3052 ⟨x3047, rfl, hρ, E, S⟩
                                rw [agree_eta hρ]
                                clear hρ
                                have H := o3048H
                                clear o3048H
                                refine W_v (.bool x3047) (x_move rfl) rfl ?_
                                obtain ⟨o3061, o3061h, o3061H⟩ := bindS H
                                clear H
                                refine Wl_cutN 3 (fun ρ w' => ∃ (x3060 : Bool), (x3060) = o3061 ∧ Agree ρ [(156, .bool x3060)] ∧ Ext w w' ∧ St w' M F []) ?_ ?_
                                · have H := o3061h
                                  rcases iteS H with ⟨hb3059, H⟩ | ⟨hb3059, H⟩
                                  · skip
                                    refine W_yes (congrArg some hb3059) ?_
                                    obtain ⟨t3062, ht3063, H⟩ := bindS H
                                    refine W_callF fn21 (text_Within.con k M ([97] : Str) ([98] : Str) ([] : Str) t3062  ht3063) S rfl rfl (by rintro _ _ _ ⟨_, rfl⟩; exact flat_nil) ?_
                                    rintro _ w3064 _ Γ' E' S ⟨rfl, rfl⟩
                                    replace E := E.trans E'
                                    clear E'
                                    refine W_yes (congrArg some hb3059) ?_
                                    refine W_v (.bool (!t3062)) (x_not rfl) rfl ?_
                                    refine W_v (.bool (!t3062)) (x_pick (k := true) (congrArg Value.bool hb3059) rfl) rfl ?_
                                    refine Wl_nil ?_
                                    exact ⟨(!t3062), Option.some.inj H, ⟨rfl, trivial⟩, E, S.pick [] (by decide)⟩
                                  · skip
                                    refine W_no (skT hb3059) rfl ?_
                                    refine W_no (skT hb3059) rfl ?_
                                    refine W_v (.bool false) (x_pick (k := false) (congrArg Value.bool hb3059) rfl) rfl ?_
                                    refine Wl_nil ?_
                                    exact ⟨false, Option.some.inj H, ⟨rfl, trivial⟩, E, S.pick [] (by decide)⟩
                                · clear o3061h
                                  rintro ρ w3065 ⟨x3060, rfl, hρ, E, S⟩
                                  rw [agree_eta hρ]
                                  clear hρ
                                  have H := o3061H
                                  clear o3061H
                                  refine W_v (.bool x3060) (x_move rfl) rfl ?_
                                  obtain ⟨o3074, o3074h, o3074H⟩ := bindS H
                                  clear H
                                  refine Wl_cutN 3 (fun ρ w' => ∃ (x3073 : Bool), (x3073) = o3074 ∧ Agree ρ [(160, .bool x3073)] ∧ Ext w w' ∧ St w' M F []) ?_ ?_
                                  · have H := o3074h
                                    rcases iteS H with ⟨hb3072, H⟩ | ⟨hb3072, H⟩
                                    · skip
                                      refine W_yes (congrArg some hb3072) ?_
                                      obtain ⟨t3075, ht3076, H⟩ := bindS H
                                      refine W_callF fn21 (text_Within.con k M ([98] : Str) ([98] : Str) ([98] : Str) t3075  ht3076) S rfl rfl (by rintro _ _ _ ⟨_, rfl⟩; exact flat_nil) ?_
                                      rintro _ w3077 _ Γ' E' S ⟨rfl, rfl⟩
                                      replace E := E.trans E'
                                      clear E'
                                      refine W_yes (congrArg some hb3072) ?_
                                      refine W_v (.bool (!t3075)) (x_not rfl) rfl ?_
                                      refine W_v (.bool (!t3075)) (x_pick (k := true) (congrArg Value.bool hb3072) rfl) rfl ?_
                                      refine Wl_nil ?_
                                      exact ⟨(!t3075), Option.some.inj H, ⟨rfl, trivial⟩, E, S.pick [] (by decide)⟩
                                    · skip
                                      refine W_no (skT hb3072) rfl ?_
                                      refine W_no (skT hb3072) rfl ?_
                                      refine W_v (.bool false) (x_pick (k := false) (congrArg Value.bool hb3072) rfl) rfl ?_
                                      refine Wl_nil ?_
                                      exact ⟨false, Option.some.inj H, ⟨rfl, trivial⟩, E, S.pick [] (by decide)⟩
                                  · clear o3074h
                                    rintro ρ w3078 ⟨x3073, rfl, hρ, E, S⟩
                                    rw [agree_eta hρ]
                                    clear hρ
                                    have H := o3074H
                                    clear o3074H
                                    refine W_v (.bool x3073) (x_move rfl) rfl ?_
                                    obtain ⟨o3087, o3087h, o3087H⟩ := bindS H
                                    clear H
                                    refine Wl_cutN 4 (fun ρ w' => ∃ (x3086 : Bool), (x3086) = o3087 ∧ Agree ρ [(165, .bool x3086)] ∧ Ext w w' ∧ St w' M F []) ?_ ?_
                                    · have H := o3087h
                                      rcases iteS H with ⟨hb3085, H⟩ | ⟨hb3085, H⟩
                                      · skip
                                        refine W_yes (congrArg some hb3085) ?_
                                        refine W_v (.agg #[.int .i64 0, .int .i64 0, .int .i64 0, .int .i64 0, .int .i64 0, .int .i64 0, .int .i64 0, .int .i64 0]) (x_build2 (pl := [(0, 1), (1, 1), (2, 1), (3, 1), (4, 1), (5, 1), (6, 1), (7, 1)]) #[.int .i64 0, .int .i64 0, .int .i64 0, .int .i64 0, .int .i64 0, .int .i64 0, .int .i64 0, .int .i64 0] Try.underlying37 ty37 (by kernel_rfl) rfl (by kernel_rfl)) rfl ?_
                                        refine W_yes (congrArg some hb3085) ?_
                                        obtain ⟨t3088, ht3089, H⟩ := bindS H
                                        refine W_callF fn24 (text_May.con k M (⟨(0 : Int), (0 : Int), (0 : Int), (0 : Int), (0 : Int), (0 : Int), (0 : Int), (0 : Int)⟩ : api_Config) t3088  ht3089) S rfl rfl (by rintro _ _ _ ⟨_, rfl⟩; exact flat_nil) ?_
                                        rintro _ w3090 _ Γ' E' S ⟨rfl, rfl⟩
                                        replace E := E.trans E'
                                        clear E'
                                        refine W_yes (congrArg some hb3085) ?_
                                        refine W_v (.bool (!t3088)) (x_not rfl) rfl ?_
                                        refine W_v (.bool (!t3088)) (x_pick (k := true) (congrArg Value.bool hb3085) rfl) rfl ?_
                                        refine Wl_nil ?_
                                        exact ⟨(!t3088), Option.some.inj H, ⟨rfl, trivial⟩, E, S.pick [] (by decide)⟩
                                      · skip
                                        refine W_no (skT hb3085) rfl ?_
                                        refine W_no (skT hb3085) rfl ?_
                                        refine W_no (skT hb3085) rfl ?_
                                        refine W_v (.bool false) (x_pick (k := false) (congrArg Value.bool hb3085) rfl) rfl ?_
                                        refine Wl_nil ?_
                                        exact ⟨false, Option.some.inj H, ⟨rfl, trivial⟩, E, S.pick [] (by decide)⟩
                                    · clear o3087h
                                      rintro ρ w3091 ⟨x3086, rfl, hρ, E, S⟩
                                      rw [agree_eta hρ]
                                      clear hρ
                                      have H := o3087H
                                      clear o3087H
                                      refine W_v (.bool x3086) (x_assign rfl) rfl ?_
                                      refine Wl_nil ?_
                                      refine tn ?_
                                      refine Wp_ret ?_
                                      obtain rfl := Option.some.inj H
                                      exact ⟨_, _, _, fun w1 e1 => run_resR (vs := [.bool x3086]) (FA.cons (rfl) (FA.nil)), HM, E, S.pick [] (by decide), ⟨rfl, rfl⟩⟩
              · intro hrest
                have H := o2956h
                clear o2956h o2956H
                rcases iteS H with ⟨hb2954, H⟩ | ⟨hb2954, H⟩
                · skip
                  refine Wa_takeN (i := 32) rfl (by kernel_rfl) rfl rfl rfl (skF hb2954) (⟨M, Hp.le_refl M, S.pick [0, 1, 2] (by decide)⟩) ?_
                  refine Wa_takeN (i := 33) rfl (by kernel_rfl) rfl rfl rfl (skF hb2954) (⟨M, Hp.le_refl M, S.pick [0, 1, 2] (by decide)⟩) ?_
                  refine Wa_takeN (i := 34) rfl (by kernel_rfl) rfl rfl rfl (skF hb2954) (⟨M, Hp.le_refl M, S.pick [0, 1, 2] (by decide)⟩) ?_
                  refine Wa_take (i := 35) rfl (by kernel_rfl) rfl rfl (.bool true) rfl (fun w' h' => x_pick (k := true) (congrArg Value.bool hb2954) rfl) (⟨M, Hp.le_refl M, S.pick [0, 1, 2] (by decide)⟩) ?_
                  exact hrest _ _ ⟨true, Option.some.inj H, ⟨rfl, trivial⟩, E, S.pick [0, 1, 2] (by decide)⟩
                · skip
                  refine Wa_takeY (i := 32) rfl (by kernel_rfl) rfl rfl (.agg #[.int .i64 ((rd t2810 (8 : Int)).Tasks), .int .i64 ((rd t2810 (8 : Int)).Active), .int .i64 ((rd t2810 (8 : Int)).Keys), .int .i64 ((rd t2810 (8 : Int)).Depth), .int .i64 ((rd t2810 (8 : Int)).TS), .int .i64 ((rd t2810 (8 : Int)).KeyLen), .int .i64 ((rd t2810 (8 : Int)).ValLen), .int .i64 ((rd t2810 (8 : Int)).Fan)]) rfl (congrArg some hb2954) (fun w' h' => x_loadA (cls_blk h' 1 rfl) ty37 rfl (sub_of_extract rfl) rfl rfl) (⟨M, Hp.le_refl M, S.pick [0, 1, 2] (by decide)⟩) ?_
                  refine Wa_takeY (i := 33) rfl (by kernel_rfl) rfl rfl (.string (bs (bytesOf (List.replicate (257 : Int).toNat (0 : Int))))) rfl (congrArg some hb2954) (fun w' h' => x_move rfl) (⟨M, Hp.le_refl M, S.pick [0, 1, 2] (by decide)⟩) ?_
                  refine Wa_solo (i := 34) rfl (by kernel_rfl) ?_
                  refine W_yes (congrArg some hb2954) ?_
                  obtain ⟨t3092, ht3093, H⟩ := bindS H
                  refine W_callF fn27 (text_Value.con k M (rd t2810 (8 : Int)) (bytesOf (List.replicate (257 : Int).toNat (0 : Int))) t3092  ht3093) S rfl rfl (by rintro _ _ _ ⟨_, rfl⟩; exact flat_nil) ?_
                  rintro _ w3094 _ Γ' E' S ⟨rfl, rfl⟩
                  replace E := E.trans E'
                  clear E'
                  refine Wl_nil (on_n ⟨⟨M, Hp.le_refl M, S.pick [0, 1, 2] (by decide)⟩, ?_⟩)
                  refine Wa_take (i := 35) rfl (by kernel_rfl) rfl rfl (.bool t3092) rfl (fun w' h' => x_pick (k := false) (congrArg Value.bool hb2954) rfl) (⟨M, Hp.le_refl M, S.pick [0, 1, 2] (by decide)⟩) ?_
                  exact hrest _ _ ⟨t3092, Option.some.inj H, ⟨rfl, trivial⟩, E, S.pick [0, 1, 2] (by decide)⟩
            · intro hrest
              have H := o2949h
              clear o2949h o2949H
              rcases iteS H with ⟨hb2947, H⟩ | ⟨hb2947, H⟩
              · skip
                refine Wa_takeN (i := 25) rfl (by kernel_rfl) rfl rfl rfl (skF hb2947) (⟨M, Hp.le_refl M, S.pick [0, 1, 2] (by decide)⟩) ?_
                refine Wa_takeN (i := 26) rfl (by kernel_rfl) rfl rfl rfl (skF hb2947) (⟨M, Hp.le_refl M, S.pick [0, 1, 2] (by decide)⟩) ?_
                refine Wa_takeN (i := 27) rfl (by kernel_rfl) rfl rfl rfl (skF hb2947) (⟨M, Hp.le_refl M, S.pick [0, 1, 2] (by decide)⟩) ?_
                refine Wa_takeN (i := 28) rfl (by kernel_rfl) rfl rfl rfl (skF hb2947) (⟨M, Hp.le_refl M, S.pick [0, 1, 2] (by decide)⟩) ?_
                refine Wa_takeN (i := 29) rfl (by kernel_rfl) rfl rfl rfl (skF hb2947) (⟨M, Hp.le_refl M, S.pick [0, 1, 2] (by decide)⟩) ?_
                refine Wa_take (i := 30) rfl (by kernel_rfl) rfl rfl (.bool true) rfl (fun w' h' => x_pick (k := true) (congrArg Value.bool hb2947) rfl) (⟨M, Hp.le_refl M, S.pick [0, 1, 2] (by decide)⟩) ?_
                exact hrest _ _ ⟨true, Option.some.inj H, ⟨rfl, rfl, rfl, trivial⟩, E, S.pick [0, 1, 2] (by decide)⟩
              · skip
                refine Wa_takeY (i := 25) rfl (by kernel_rfl) rfl rfl (.agg #[.int .i64 ((rd t2810 (8 : Int)).Tasks), .int .i64 ((rd t2810 (8 : Int)).Active), .int .i64 ((rd t2810 (8 : Int)).Keys), .int .i64 ((rd t2810 (8 : Int)).Depth), .int .i64 ((rd t2810 (8 : Int)).TS), .int .i64 ((rd t2810 (8 : Int)).KeyLen), .int .i64 ((rd t2810 (8 : Int)).ValLen), .int .i64 ((rd t2810 (8 : Int)).Fan)]) rfl (congrArg some hb2947) (fun w' h' => x_loadA (cls_blk h' 1 rfl) ty37 rfl (sub_of_extract rfl) rfl rfl) (⟨M, Hp.le_refl M, S.pick [0, 1, 2] (by decide)⟩) ?_
                refine Wa_takeY (i := 26) rfl (by kernel_rfl) rfl rfl (.string (bs (bytesOf (List.replicate (257 : Int).toNat (0 : Int))))) rfl (congrArg some hb2947) (fun w' h' => x_move rfl) (⟨M, Hp.le_refl M, S.pick [0, 1, 2] (by decide)⟩) ?_
                obtain ⟨⟨p3095, p3096⟩, H⟩ := chkS H
                refine Wa_takeY (i := 27) rfl (by kernel_rfl) rfl rfl (.string (bs (List.take (256 : Int).toNat (bytesOf (List.replicate (257 : Int).toNat (0 : Int)))))) rfl (congrArg some hb2947) (fun w' h' => x_sliceStr_hi Try.underlying9 rfl rfl p3095 p3096) (⟨M, Hp.le_refl M, S.pick [0, 1, 2] (by decide)⟩) ?_
                refine Wa_solo (i := 28) rfl (by kernel_rfl) ?_
                refine W_yes (congrArg some hb2947) ?_
                obtain ⟨t3097, ht3098, H⟩ := bindS H
                refine W_callF fn27 (text_Value.con k M (rd t2810 (8 : Int)) (List.take (256 : Int).toNat (bytesOf (List.replicate (257 : Int).toNat (0 : Int)))) t3097  ht3098) S rfl rfl (by rintro _ _ _ ⟨_, rfl⟩; exact flat_nil) ?_
                rintro _ w3099 _ Γ' E' S ⟨rfl, rfl⟩
                replace E := E.trans E'
                clear E'
                refine Wl_nil (on_n ⟨⟨M, Hp.le_refl M, S.pick [0, 1, 2] (by decide)⟩, ?_⟩)
                refine Wa_takeY (i := 29) rfl (by kernel_rfl) rfl rfl (.bool (!t3097)) rfl (congrArg some hb2947) (fun w' h' => x_not rfl) (⟨M, Hp.le_refl M, S.pick [0, 1, 2] (by decide)⟩) ?_
                refine Wa_take (i := 30) rfl (by kernel_rfl) rfl rfl (.bool (!t3097)) rfl (fun w' h' => x_pick (k := false) (congrArg Value.bool hb2947) rfl) (⟨M, Hp.le_refl M, S.pick [0, 1, 2] (by decide)⟩) ?_
                exact hrest _ _ ⟨(!t3097), Option.some.inj H, ⟨rfl, rfl, rfl, trivial⟩, E, S.pick [0, 1, 2] (by decide)⟩
          · intro hrest
            have H := o2940h
            clear o2940h o2940H
            rcases iteS H with ⟨hb2938, H⟩ | ⟨hb2938, H⟩
            · skip
              refine Wa_takeN (i := 19) rfl (by kernel_rfl) rfl rfl rfl (skF hb2938) (⟨M, Hp.le_refl M, S.pick [0, 1, 2] (by decide)⟩) ?_
              refine Wa_takeN (i := 20) rfl (by kernel_rfl) rfl rfl rfl (skF hb2938) (⟨M, Hp.le_refl M, S.pick [0, 1, 2] (by decide)⟩) ?_
              refine Wa_takeN (i := 21) rfl (by kernel_rfl) rfl rfl rfl (skF hb2938) (⟨M, Hp.le_refl M, S.pick [0, 1, 2] (by decide)⟩) ?_
              refine Wa_takeN (i := 22) rfl (by kernel_rfl) rfl rfl rfl (skF hb2938) (⟨M, Hp.le_refl M, S.pick [0, 1, 2] (by decide)⟩) ?_
              refine Wa_take (i := 23) rfl (by kernel_rfl) rfl rfl (.bool true) rfl (fun w' h' => x_pick (k := true) (congrArg Value.bool hb2938) rfl) (⟨M, Hp.le_refl M, S.pick [0, 1, 2] (by decide)⟩) ?_
              exact hrest _ _ ⟨true, Option.some.inj H, ⟨rfl, rfl, rfl, trivial⟩, E, S.pick [0, 1, 2] (by decide)⟩
            · skip
              refine Wa_takeY (i := 19) rfl (by kernel_rfl) rfl rfl (.agg #[.int .i64 ((rd t2810 (8 : Int)).Tasks), .int .i64 ((rd t2810 (8 : Int)).Active), .int .i64 ((rd t2810 (8 : Int)).Keys), .int .i64 ((rd t2810 (8 : Int)).Depth), .int .i64 ((rd t2810 (8 : Int)).TS), .int .i64 ((rd t2810 (8 : Int)).KeyLen), .int .i64 ((rd t2810 (8 : Int)).ValLen), .int .i64 ((rd t2810 (8 : Int)).Fan)]) rfl (congrArg some hb2938) (fun w' h' => x_loadA (cls_blk h' 1 rfl) ty37 rfl (sub_of_extract rfl) rfl rfl) (⟨M, Hp.le_refl M, S.pick [0, 1, 2] (by decide)⟩) ?_
              refine Wa_takeY (i := 20) rfl (by kernel_rfl) rfl rfl (.string (bs (bytesOf (List.replicate (257 : Int).toNat (0 : Int))))) rfl (congrArg some hb2938) (fun w' h' => x_move rfl) (⟨M, Hp.le_refl M, S.pick [0, 1, 2] (by decide)⟩) ?_
              obtain ⟨⟨p3100, p3101⟩, H⟩ := chkS H
              refine Wa_takeY (i := 21) rfl (by kernel_rfl) rfl rfl (.string (bs (List.take (65 : Int).toNat (bytesOf (List.replicate (257 : Int).toNat (0 : Int)))))) rfl (congrArg some hb2938) (fun w' h' => x_sliceStr_hi Try.underlying9 rfl rfl p3100 p3101) (⟨M, Hp.le_refl M, S.pick [0, 1, 2] (by decide)⟩) ?_
              refine Wa_solo (i := 22) rfl (by kernel_rfl) ?_
              refine W_yes (congrArg some hb2938) ?_
              obtain ⟨t3102, ht3103, H⟩ := bindS H
              refine W_callF fn26 (text_Bound.con k M (rd t2810 (8 : Int)) (List.take (65 : Int).toNat (bytesOf (List.replicate (257 : Int).toNat (0 : Int)))) t3102  ht3103) S rfl rfl (by rintro _ _ _ ⟨_, rfl⟩; exact flat_nil) ?_
              rintro _ w3104 _ Γ' E' S ⟨rfl, rfl⟩
              replace E := E.trans E'
              clear E'
              refine Wl_nil (on_n ⟨⟨M, Hp.le_refl M, S.pick [0, 1, 2] (by decide)⟩, ?_⟩)
              refine Wa_take (i := 23) rfl (by kernel_rfl) rfl rfl (.bool t3102) rfl (fun w' h' => x_pick (k := false) (congrArg Value.bool hb2938) rfl) (⟨M, Hp.le_refl M, S.pick [0, 1, 2] (by decide)⟩) ?_
              exact hrest _ _ ⟨t3102, Option.some.inj H, ⟨rfl, rfl, rfl, trivial⟩, E, S.pick [0, 1, 2] (by decide)⟩
        · intro hrest
          have H := o2931h
          clear o2931h o2931H
          rcases iteS H with ⟨hb2929, H⟩ | ⟨hb2929, H⟩
          · skip
            refine Wa_takeN (i := 12) rfl (by kernel_rfl) rfl rfl rfl (skF hb2929) (⟨M, Hp.le_refl M, S.pick [0, 1, 2] (by decide)⟩) ?_
            refine Wa_takeN (i := 13) rfl (by kernel_rfl) rfl rfl rfl (skF hb2929) (⟨M, Hp.le_refl M, S.pick [0, 1, 2] (by decide)⟩) ?_
            refine Wa_takeN (i := 14) rfl (by kernel_rfl) rfl rfl rfl (skF hb2929) (⟨M, Hp.le_refl M, S.pick [0, 1, 2] (by decide)⟩) ?_
            refine Wa_takeN (i := 15) rfl (by kernel_rfl) rfl rfl rfl (skF hb2929) (⟨M, Hp.le_refl M, S.pick [0, 1, 2] (by decide)⟩) ?_
            refine Wa_takeN (i := 16) rfl (by kernel_rfl) rfl rfl rfl (skF hb2929) (⟨M, Hp.le_refl M, S.pick [0, 1, 2] (by decide)⟩) ?_
            refine Wa_take (i := 17) rfl (by kernel_rfl) rfl rfl (.bool true) rfl (fun w' h' => x_pick (k := true) (congrArg Value.bool hb2929) rfl) (⟨M, Hp.le_refl M, S.pick [0, 1, 2] (by decide)⟩) ?_
            exact hrest _ _ ⟨true, Option.some.inj H, ⟨rfl, rfl, rfl, trivial⟩, E, S.pick [0, 1, 2] (by decide)⟩
          · skip
            refine Wa_takeY (i := 12) rfl (by kernel_rfl) rfl rfl (.agg #[.int .i64 ((rd t2810 (8 : Int)).Tasks), .int .i64 ((rd t2810 (8 : Int)).Active), .int .i64 ((rd t2810 (8 : Int)).Keys), .int .i64 ((rd t2810 (8 : Int)).Depth), .int .i64 ((rd t2810 (8 : Int)).TS), .int .i64 ((rd t2810 (8 : Int)).KeyLen), .int .i64 ((rd t2810 (8 : Int)).ValLen), .int .i64 ((rd t2810 (8 : Int)).Fan)]) rfl (congrArg some hb2929) (fun w' h' => x_loadA (cls_blk h' 1 rfl) ty37 rfl (sub_of_extract rfl) rfl rfl) (⟨M, Hp.le_refl M, S.pick [0, 1, 2] (by decide)⟩) ?_
            refine Wa_takeY (i := 13) rfl (by kernel_rfl) rfl rfl (.string (bs (bytesOf (List.replicate (257 : Int).toNat (0 : Int))))) rfl (congrArg some hb2929) (fun w' h' => x_move rfl) (⟨M, Hp.le_refl M, S.pick [0, 1, 2] (by decide)⟩) ?_
            obtain ⟨⟨p3105, p3106⟩, H⟩ := chkS H
            refine Wa_takeY (i := 14) rfl (by kernel_rfl) rfl rfl (.string (bs (List.take (64 : Int).toNat (bytesOf (List.replicate (257 : Int).toNat (0 : Int)))))) rfl (congrArg some hb2929) (fun w' h' => x_sliceStr_hi Try.underlying9 rfl rfl p3105 p3106) (⟨M, Hp.le_refl M, S.pick [0, 1, 2] (by decide)⟩) ?_
            refine Wa_solo (i := 15) rfl (by kernel_rfl) ?_
            refine W_yes (congrArg some hb2929) ?_
            obtain ⟨t3107, ht3108, H⟩ := bindS H
            refine W_callF fn26 (text_Bound.con k M (rd t2810 (8 : Int)) (List.take (64 : Int).toNat (bytesOf (List.replicate (257 : Int).toNat (0 : Int)))) t3107  ht3108) S rfl rfl (by rintro _ _ _ ⟨_, rfl⟩; exact flat_nil) ?_
            rintro _ w3109 _ Γ' E' S ⟨rfl, rfl⟩
            replace E := E.trans E'
            clear E'
            refine Wl_nil (on_n ⟨⟨M, Hp.le_refl M, S.pick [0, 1, 2] (by decide)⟩, ?_⟩)
            refine Wa_takeY (i := 16) rfl (by kernel_rfl) rfl rfl (.bool (!t3107)) rfl (congrArg some hb2929) (fun w' h' => x_not rfl) (⟨M, Hp.le_refl M, S.pick [0, 1, 2] (by decide)⟩) ?_
            refine Wa_take (i := 17) rfl (by kernel_rfl) rfl rfl (.bool (!t3107)) rfl (fun w' h' => x_pick (k := false) (congrArg Value.bool hb2929) rfl) (⟨M, Hp.le_refl M, S.pick [0, 1, 2] (by decide)⟩) ?_
            exact hrest _ _ ⟨(!t3107), Option.some.inj H, ⟨rfl, rfl, rfl, trivial⟩, E, S.pick [0, 1, 2] (by decide)⟩
      · intro hrest
        have H := o2922h
        clear o2922h o2922H
        rcases iteS H with ⟨hb2920, H⟩ | ⟨hb2920, H⟩
        · skip
          refine Wa_takeN (i := 6) rfl (by kernel_rfl) rfl rfl rfl (skF hb2920) (⟨M, Hp.le_refl M, S.pick [0, 1, 2] (by decide)⟩) ?_
          refine Wa_takeN (i := 7) rfl (by kernel_rfl) rfl rfl rfl (skF hb2920) (⟨M, Hp.le_refl M, S.pick [0, 1, 2] (by decide)⟩) ?_
          refine Wa_takeN (i := 8) rfl (by kernel_rfl) rfl rfl rfl (skF hb2920) (⟨M, Hp.le_refl M, S.pick [0, 1, 2] (by decide)⟩) ?_
          refine Wa_takeN (i := 9) rfl (by kernel_rfl) rfl rfl rfl (skF hb2920) (⟨M, Hp.le_refl M, S.pick [0, 1, 2] (by decide)⟩) ?_
          refine Wa_take (i := 10) rfl (by kernel_rfl) rfl rfl (.bool true) rfl (fun w' h' => x_pick (k := true) (congrArg Value.bool hb2920) rfl) (⟨M, Hp.le_refl M, S.pick [0, 1, 2] (by decide)⟩) ?_
          exact hrest _ _ ⟨true, Option.some.inj H, ⟨rfl, rfl, rfl, trivial⟩, E, S.pick [0, 1, 2] (by decide)⟩
        · skip
          refine Wa_takeY (i := 6) rfl (by kernel_rfl) rfl rfl (.agg #[.int .i64 ((rd t2810 (8 : Int)).Tasks), .int .i64 ((rd t2810 (8 : Int)).Active), .int .i64 ((rd t2810 (8 : Int)).Keys), .int .i64 ((rd t2810 (8 : Int)).Depth), .int .i64 ((rd t2810 (8 : Int)).TS), .int .i64 ((rd t2810 (8 : Int)).KeyLen), .int .i64 ((rd t2810 (8 : Int)).ValLen), .int .i64 ((rd t2810 (8 : Int)).Fan)]) rfl (congrArg some hb2920) (fun w' h' => x_loadA (cls_blk h' 1 rfl) ty37 rfl (sub_of_extract rfl) rfl rfl) (⟨M, Hp.le_refl M, S.pick [0, 1, 2] (by decide)⟩) ?_
          refine Wa_takeY (i := 7) rfl (by kernel_rfl) rfl rfl (.string (bs (bytesOf (List.replicate (257 : Int).toNat (0 : Int))))) rfl (congrArg some hb2920) (fun w' h' => x_move rfl) (⟨M, Hp.le_refl M, S.pick [0, 1, 2] (by decide)⟩) ?_
          obtain ⟨⟨p3110, p3111⟩, H⟩ := chkS H
          refine Wa_takeY (i := 8) rfl (by kernel_rfl) rfl rfl (.string (bs (List.take (65 : Int).toNat (bytesOf (List.replicate (257 : Int).toNat (0 : Int)))))) rfl (congrArg some hb2920) (fun w' h' => x_sliceStr_hi Try.underlying9 rfl rfl p3110 p3111) (⟨M, Hp.le_refl M, S.pick [0, 1, 2] (by decide)⟩) ?_
          refine Wa_solo (i := 9) rfl (by kernel_rfl) ?_
          refine W_yes (congrArg some hb2920) ?_
          obtain ⟨t3112, ht3113, H⟩ := bindS H
          refine W_callF fn25 (text_Key.con k M (rd t2810 (8 : Int)) (List.take (65 : Int).toNat (bytesOf (List.replicate (257 : Int).toNat (0 : Int)))) t3112  ht3113) S rfl rfl (by rintro _ _ _ ⟨_, rfl⟩; exact flat_nil) ?_
          rintro _ w3114 _ Γ' E' S ⟨rfl, rfl⟩
          replace E := E.trans E'
          clear E'
          refine Wl_nil (on_n ⟨⟨M, Hp.le_refl M, S.pick [0, 1, 2] (by decide)⟩, ?_⟩)
          refine Wa_take (i := 10) rfl (by kernel_rfl) rfl rfl (.bool t3112) rfl (fun w' h' => x_pick (k := false) (congrArg Value.bool hb2920) rfl) (⟨M, Hp.le_refl M, S.pick [0, 1, 2] (by decide)⟩) ?_
          exact hrest _ _ ⟨t3112, Option.some.inj H, ⟨rfl, rfl, rfl, trivial⟩, E, S.pick [0, 1, 2] (by decide)⟩
end Go.Proofs.Ytnfeinhialojnaa
