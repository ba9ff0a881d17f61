import Derived.Test.YtnfeinhialojnaaGt1
namespace Go.Proofs.Ytnfeinhialojnaa
open Go
set_option linter.unusedVariables false
set_option linter.unusedSimpArgs false
/-! ### ferryman/ferrymanlaw02.TextUnlike: function 6 -/
def ferrymanlaw02_TextUnlike (k : Nat) (a0 : Str) (a1 : Str) (a2 : Str) (a3 : Str) (a4 : Str) : Option (Bool) :=
  (Option.bind (ferrymanlaw02_works k ) (fun t1 => (Option.bind (α := Bool) (if (!t1) = true then some (true) else (Option.bind (ferrymanlaw02_long k ([a0, a1, a2] : List Str)) (fun t32 => some (t32)))) (fun x23 => (Option.bind (α := Bool) (if x23 = true then some (true) else (Option.bind (ferrymanlaw02_long k ([a3, a4] : List Str)) (fun t66 => some (t66)))) (fun x57 => (if x57 = true then (Option.bind (ferrymanlaw02_works k ) (fun t73 => some t73)) else (Option.bind (text_Prefix k a0 a1) (fun t76 => (Option.bind (α := Bool) (if (((decide (t76 < (0 : Int))) || (decide (t76 > (a0.length : Int)))) || (decide (t76 > (a1.length : Int)))) = true then some (true) else (if 0 ≤ t76 ∧ t76 ≤ (a0.length : Int) then (if 0 ≤ t76 ∧ t76 ≤ (a1.length : Int) then some ((sbin .neq (List.take t76.toNat a0) (List.take t76.toNat a1))) else none) else none)) (fun x132 => (Option.bind (α := Bool) (if x132 = true then some (true) else (Option.bind (α := Bool) (if ((decide (t76 < (a0.length : Int))) && (decide (t76 < (a1.length : Int)))) = true then (if 0 ≤ t76 ∧ t76 < (a0.length : Int) then (if 0 ≤ t76 ∧ t76 < (a1.length : Int) then some (((((a0).getD (t76).toNat 0).toNat : Int) == (((a1).getD (t76).toNat 0).toNat : Int))) else none) else none) else some (false)) (fun x255 => some (x255)))) (fun x149 => (if x149 = true then some false else (Option.bind (text_Compare k a0 a1) (fun t153 => (if 0 ≤ t76 ∧ t76 ≤ (a0.length : Int) then (if 0 ≤ t76 ∧ t76 ≤ (a1.length : Int) then (Option.bind (text_Compare k (List.drop t76.toNat a0) (List.drop t76.toNat a1)) (fun t197 => (Option.bind (α := Bool) (if (t197 != t153) = true then some (true) else (if (a2.length : Int) + a0.length ≤ 9223372036854775807 then (if (a2.length : Int) + a1.length ≤ 9223372036854775807 then (Option.bind (text_Compare k (a2 ++ a0) (a2 ++ a1)) (fun t246 => some ((t246 != t153)))) else none) else none)) (fun x206 => (Option.bind (α := Bool) (if x206 = true then some (true) else (if (a2.length : Int) + a0.length ≤ 9223372036854775807 then (if (a2.length : Int) + a1.length ≤ 9223372036854775807 then (Option.bind (text_Prefix k (a2 ++ a0) (a2 ++ a1)) (fun t241 => some ((t241 != (IntKind.i64.wrap ((a2.length : Int) + t76)))))) else none) else none)) (fun x215 => (if x215 = true then some false else (Option.bind (α := Bool) (if ((t76 == (a0.length : Int)) || (t76 == (a1.length : Int))) = true then some (true) else (if (a0.length : Int) + a3.length ≤ 9223372036854775807 then (if (a1.length : Int) + a4.length ≤ 9223372036854775807 then (Option.bind (text_Compare k (a0 ++ a3) (a1 ++ a4)) (fun t235 => some ((t235 == t153)))) else none) else none)) (fun x231 => some x231))))))))) else none) else none)))))))))))))))))
set_option maxHeartbeats 2000000 in
theorem ferrymanlaw02_TextUnlike.mono {k : Nat} {a0 : Str} {a1 : Str} {a2 : Str} {a3 : Str} {a4 : Str} : OLe (ferrymanlaw02_TextUnlike k a0 a1 a2 a3 a4) (ferrymanlaw02_TextUnlike (k + 1) a0 a1 a2 a3 a4) := by
  unfold ferrymanlaw02_TextUnlike
  repeat' (first | with_reducible exact OLe.none | with_reducible exact OLe.some | with_reducible refine OLe.ite ?_ ?_ | with_reducible refine OLe.bind ?_ (fun _ => ?_) | with_reducible exact ferrymanlaw02_long.mono | with_reducible exact ferrymanlaw02_works.mono | with_reducible exact text_Compare.mono | with_reducible exact text_Prefix.mono | refine OLe.bind ?_ (fun _ => ?_) | refine OLe.ite ?_ ?_ | refine OLe.elim (fun _ => ?_) (fun _ => ?_) | split)
set_option maxHeartbeats 1000000 in
set_option maxRecDepth 100000 in
theorem ferrymanlaw02_TextUnlike.con (k : Nat) (M : Hp) (a0 : Str) (a1 : Str) (a2 : Str) (a3 : Str) (a4 : Str) (r : Bool)  (h : ferrymanlaw02_TextUnlike k a0 a1 a2 a3 a4 = some r) : Con Try.prog 6 #[.string (bs a0), .string (bs a1), .string (bs a2), .string (bs a3), .string (bs a4)] M [] (fun v M' Γ' => v = .bool r ∧ Γ' = []) := by
  refine con_of_wp Try.func6 rfl Try.ntmps6 Try.results6 rfl ?_
  intro w F rn S hrn
  have E := Ext.refl w
  have HM := Hp.le_refl M
  have H := h
  unfold ferrymanlaw02_TextUnlike at H
  refine Wp_seq ?_
  refine Wp_region_lit ?_
  refine W_v (.bool false) (x_assign rfl) rfl ?_
  refine Wl_nil ?_
  refine tn ?_
  refine Wp_seq ?_
  refine Wp_seq ?_
  refine Wp_region_lit ?_
  obtain ⟨t1, ht2, H⟩ := bindS H
  refine W_callF fn12 (ferrymanlaw02_works.con k M  t1  ht2) S rfl rfl (by rintro _ _ _ ⟨_, rfl⟩; exact flat_nil) ?_
  rintro _ w3 _ Γ' E' S ⟨rfl, rfl⟩
  replace E := E.trans E'
  clear E'
  refine W_v (.bool (!t1)) (x_not rfl) rfl ?_
  refine W_v (.bool (!t1)) (x_move rfl) rfl ?_
  obtain ⟨o24, o24h, o24H⟩ := bindS H
  clear H
  refine Wl_cutN 6 (fun ρ w' => ∃ (x23 : Bool) (Mj : Hp), (x23) = o24 ∧ Agree ρ [(0, .string (bs a0)), (1, .string (bs a1)), (2, .string (bs a2)), (3, .string (bs a3)), (4, .string (bs a4)), (21, .bool x23)] ∧ M.le Mj ∧ Ext w w' ∧ St w' Mj F []) ?_ ?_
  · have H := o24h
    have LE25 := Hp.le_refl M
    rcases iteS H with ⟨hb22, H⟩ | ⟨hb22, H⟩
    · skip
      refine W_no (skF hb22) rfl ?_
      refine W_no (skF hb22) rfl ?_
      refine W_no (skF hb22) rfl ?_
      refine W_no (skF hb22) rfl ?_
      refine W_no (skF hb22) rfl ?_
      refine W_v (.bool true) (x_pick (k := true) (congrArg Value.bool hb22) rfl) rfl ?_
      refine Wl_nil ?_
      exact ⟨true, M, Option.some.inj H, ⟨rfl, rfl, rfl, rfl, rfl, rfl, trivial⟩, (Hp.le_refl M), E, S.pick [] (by decide)⟩
    · skip
      refine W_yes (congrArg some hb22) ?_
      refine W_v (.string (bs a0)) (x_move rfl) rfl ?_
      refine W_yes (congrArg some hb22) ?_
      refine W_v (.string (bs a1)) (x_move rfl) rfl ?_
      refine W_yes (congrArg some hb22) ?_
      refine W_v (.string (bs a2)) (x_move rfl) rfl ?_
      refine W_yes (congrArg some hb22) ?_
      refine W_bslice S #[.string (bs a0), .string (bs a1), .string (bs a2)] Try.underlying40 ty9 rfl rfl #[.string (bs ([] : Str)), .string (bs ([] : Str)), .string (bs ([] : Str))] (by kernel_rfl) (by kernel_rfl) rfl ?_
      intro b26 w27 E' S
      replace E := E.trans E'
      clear E'
      replace S := S.blk_row (r := rStr) (l := ([a0, a1, a2] : List Str)) 0 rfl 3 (Nat.le_refl 3) rfl (Cells.cons (vs := [.string (bs a0)]) (rfl) (Cells.cons (vs := [.string (bs a1)]) (rfl) (Cells.cons (vs := [.string (bs a2)]) (rfl) Cells.nil)))
      refine W_yes (congrArg some hb22) ?_
      obtain ⟨M29, hM30, hf31, S⟩ := S.row_freeze 0 rfl
      replace HM := Hp.le_trans HM hM30
      replace LE25 := Hp.le_trans LE25 hM30
      obtain ⟨t32, ht33, H⟩ := bindS H
      refine W_callF fn11 (ferrymanlaw02_long.con k M29 (some ⟨b26, 0, none⟩) 3 ([a0, a1, a2] : List Str) t32 hf31 ht33) S rfl rfl (by rintro _ _ _ ⟨_, rfl⟩; exact flat_nil) ?_
      rintro _ w34 _ Γ' E' S ⟨rfl, rfl⟩
      replace E := E.trans E'
      clear E'
      refine W_v (.bool t32) (x_pick (k := false) (congrArg Value.bool hb22) rfl) rfl ?_
      refine Wl_nil ?_
      exact ⟨t32, M29, Option.some.inj H, ⟨rfl, rfl, rfl, rfl, rfl, rfl, trivial⟩, LE25, E, S.pick [] (by decide)⟩
  · clear o24h
    rintro ρ w35 ⟨x23, M36, rfl, hρ, hM37, E, S⟩
    rw [agree_eta hρ]
    clear hρ
    replace HM := Hp.le_trans HM hM37
    have H := o24H
    clear o24H
    refine W_v (.bool x23) (x_move rfl) rfl ?_
    obtain ⟨o58, o58h, o58H⟩ := bindS H
    clear H
    refine Wl_cutN 5 (fun ρ w' => ∃ (x57 : Bool) (Mj : Hp), (x57) = o58 ∧ Agree ρ [(0, .string (bs a0)), (1, .string (bs a1)), (2, .string (bs a2)), (3, .string (bs a3)), (4, .string (bs a4)), (27, .bool x57)] ∧ M36.le Mj ∧ Ext w w' ∧ St w' Mj F []) ?_ ?_
    · have H := o58h
      have LE59 := Hp.le_refl M36
      rcases iteS H with ⟨hb56, H⟩ | ⟨hb56, H⟩
      · skip
        refine W_no (skF hb56) rfl ?_
        refine W_no (skF hb56) rfl ?_
        refine W_no (skF hb56) rfl ?_
        refine W_no (skF hb56) rfl ?_
        refine W_v (.bool true) (x_pick (k := true) (congrArg Value.bool hb56) rfl) rfl ?_
        refine Wl_nil ?_
        exact ⟨true, M36, Option.some.inj H, ⟨rfl, rfl, rfl, rfl, rfl, rfl, trivial⟩, (Hp.le_refl M36), E, S.pick [] (by decide)⟩
      · skip
        refine W_yes (congrArg some hb56) ?_
        refine W_v (.string (bs a3)) (x_move rfl) rfl ?_
        refine W_yes (congrArg some hb56) ?_
        refine W_v (.string (bs a4)) (x_move rfl) rfl ?_
        refine W_yes (congrArg some hb56) ?_
        refine W_bslice S #[.string (bs a3), .string (bs a4)] Try.underlying40 ty9 rfl rfl #[.string (bs ([] : Str)), .string (bs ([] : Str))] (by kernel_rfl) (by kernel_rfl) rfl ?_
        intro b60 w61 E' S
        replace E := E.trans E'
        clear E'
        replace S := S.blk_row (r := rStr) (l := ([a3, a4] : List Str)) 0 rfl 2 (Nat.le_refl 2) rfl (Cells.cons (vs := [.string (bs a3)]) (rfl) (Cells.cons (vs := [.string (bs a4)]) (rfl) Cells.nil))
        refine W_yes (congrArg some hb56) ?_
        obtain ⟨M63, hM64, hf65, S⟩ := S.row_freeze 0 rfl
        replace HM := Hp.le_trans HM hM64
        replace hM37 := Hp.le_trans hM37 hM64
        replace LE59 := Hp.le_trans LE59 hM64
        obtain ⟨t66, ht67, H⟩ := bindS H
        refine W_callF fn11 (ferrymanlaw02_long.con k M63 (some ⟨b60, 0, none⟩) 2 ([a3, a4] : List Str) t66 hf65 ht67) S rfl rfl (by rintro _ _ _ ⟨_, rfl⟩; exact flat_nil) ?_
        rintro _ w68 _ Γ' E' S ⟨rfl, rfl⟩
        replace E := E.trans E'
        clear E'
        refine W_v (.bool t66) (x_pick (k := false) (congrArg Value.bool hb56) rfl) rfl ?_
        refine Wl_nil ?_
        exact ⟨t66, M63, Option.some.inj H, ⟨rfl, rfl, rfl, rfl, rfl, rfl, trivial⟩, LE59, E, S.pick [] (by decide)⟩
    · clear o58h
      rintro ρ w69 ⟨x57, M70, rfl, hρ, hM71, E, S⟩
      rw [agree_eta hρ]
      clear hρ
      replace HM := Hp.le_trans HM hM71
      replace hM37 := Hp.le_trans hM37 hM71
      have H := o58H
      clear o58H
      refine Wl_nil ?_
      refine tn ?_
      rcases iteS H with ⟨hb72, H⟩ | ⟨hb72, H⟩
      · refine Wp_cond_true (congrArg Value.bool hb72) ?_
        refine Wp_seq ?_
        refine Wp_region_lit ?_
        obtain ⟨t73, ht74, H⟩ := bindS H
        refine W_callF fn12 (ferrymanlaw02_works.con k M70  t73  ht74) S rfl rfl (by rintro _ _ _ ⟨_, rfl⟩; exact flat_nil) ?_
        rintro _ w75 _ Γ' E' S ⟨rfl, rfl⟩
        replace E := E.trans E'
        clear E'
        refine W_v (.bool t73) (x_assign rfl) rfl ?_
        refine Wl_nil ?_
        refine tn ?_
        refine Wp_ret ?_
        refine tr (?_)
        obtain rfl := Option.some.inj H
        exact ⟨_, _, _, fun w1 e1 => run_resR (vs := [.bool t73]) (FA.cons (rfl) (FA.nil)), HM, E, S.pick [] (by decide), ⟨rfl, rfl⟩⟩
      · refine Wp_cond_false (congrArg Value.bool hb72) ?_
        refine Wp_skip ?_
        refine tn ?_
        refine Wp_seq ?_
        refine Wp_region_lit ?_
        refine W_v (.string (bs a0)) (x_move rfl) rfl ?_
        refine W_v (.string (bs a1)) (x_move rfl) rfl ?_
        obtain ⟨t76, ht77, H⟩ := bindS H
        refine W_callF fn15 (text_Prefix.con k M70 a0 a1 t76  ht77) S rfl rfl (by rintro _ _ _ ⟨_, rfl⟩; exact flat_nil) ?_
        rintro _ w78 _ Γ' E' S ⟨rfl, rfl⟩
        replace E := E.trans E'
        clear E'
        refine W_v (.int .i64 t76) (x_assign rfl) rfl ?_
        refine Wl_nil ?_
        refine tn ?_
        refine Wp_seq ?_
        refine Wp_seq ?_
        refine Wp_region_any (S := fun w' => ∃ Mx, M70.le Mx ∧ St w' Mx F []) mixed ?_
        intro w123 hw124 E'
        replace S := S.heap hw124
        replace E := E.trans E'
        clear E'
        refine Wa_take (i := 0) rfl (by kernel_rfl) rfl rfl (.int .i64 t76) rfl (fun w' h' => x_move rfl) (⟨M70, Hp.le_refl M70, S.pick [] (by decide)⟩) ?_
        refine Wa_take (i := 1) rfl (by kernel_rfl) rfl rfl (.bool (decide (t76 < (0 : Int)))) rfl (fun w' h' => x_ibin rfl rfl rfl rfl) (⟨M70, Hp.le_refl M70, S.pick [] (by decide)⟩) ?_
        refine Wa_take (i := 2) rfl (by kernel_rfl) rfl rfl (.bool (decide (t76 < (0 : Int)))) rfl (fun w' h' => x_move rfl) (⟨M70, Hp.le_refl M70, S.pick [] (by decide)⟩) ?_
        refine Wa_join (fun ρ w' => Agree ρ [(0, .string (bs a0)), (1, .string (bs a1)), (2, .string (bs a2)), (3, .string (bs a3)), (4, .string (bs a4)), (11, .int .i64 t76), (39, .bool ((decide (t76 < (0 : Int))) || (decide (t76 > (a0.length : Int)))))] ∧ w123 = w') 36 (Ls 44 [0, 1, 2, 3, 4, 5, 6, 7]) ?_ ?_
        · rintro ρ _ ⟨hρ, rfl⟩
          rw [agree_eta hρ]
          clear hρ
          refine Wa_take (i := 8) rfl (by kernel_rfl) rfl rfl (.bool ((decide (t76 < (0 : Int))) || (decide (t76 > (a0.length : Int))))) rfl (fun w' h' => x_move rfl) (⟨M70, Hp.le_refl M70, S.pick [] (by decide)⟩) ?_
          refine Wa_join (fun ρ w' => Agree ρ [(0, .string (bs a0)), (1, .string (bs a1)), (2, .string (bs a2)), (3, .string (bs a3)), (4, .string (bs a4)), (11, .int .i64 t76), (45, .bool (((decide (t76 < (0 : Int))) || (decide (t76 > (a0.length : Int)))) || (decide (t76 > (a1.length : Int)))))] ∧ w123 = w') 30 (Ls 44 [0, 1, 2, 3, 4, 5, 6, 7, 8, 9, 10, 11, 12, 13]) ?_ ?_
          · rintro ρ _ ⟨hρ, rfl⟩
            rw [agree_eta hρ]
            clear hρ
            refine Wa_take (i := 14) rfl (by kernel_rfl) rfl rfl (.bool (((decide (t76 < (0 : Int))) || (decide (t76 > (a0.length : Int)))) || (decide (t76 > (a1.length : Int))))) rfl (fun w' h' => x_move rfl) (⟨M70, Hp.le_refl M70, S.pick [] (by decide)⟩) ?_
            obtain ⟨o133, o133h, o133H⟩ := bindS H
            clear H
            refine Wa_join (fun ρ w' => ∃ (x132 : Bool), (x132) = o133 ∧ Agree ρ [(0, .string (bs a0)), (1, .string (bs a1)), (2, .string (bs a2)), (3, .string (bs a3)), (4, .string (bs a4)), (11, .int .i64 t76), (54, .bool x132)] ∧ Ext w w' ∧ St w' M70 F []) 21 (Ls 44 [0, 1, 2, 3, 4, 5, 6, 7, 8, 9, 10, 11, 12, 13, 14, 15, 16, 17, 18, 19, 20, 21, 22]) ?_ ?_
            · clear o133h
              rintro ρ w134 ⟨x132, rfl, hρ, E, S⟩
              rw [agree_eta hρ]
              clear hρ
              have H := o133H
              clear o133H
              refine Wa_take (i := 23) rfl (by kernel_rfl) rfl rfl (.bool x132) rfl (fun w' h' => x_move rfl) (⟨M70, Hp.le_refl M70, S.pick [] (by decide)⟩) ?_
              obtain ⟨o150, o150h, o150H⟩ := bindS H
              clear H
              refine Wa_join (fun ρ w' => ∃ (x149 : Bool), (x149) = o150 ∧ Agree ρ [(0, .string (bs a0)), (1, .string (bs a1)), (2, .string (bs a2)), (3, .string (bs a3)), (4, .string (bs a4)), (11, .int .i64 t76), (75, .bool x149)] ∧ Ext w w' ∧ St w' M70 F []) 0 (Ls 44 [0, 1, 2, 3, 4, 5, 6, 7, 8, 9, 10, 11, 12, 13, 14, 15, 16, 17, 18, 19, 20, 21, 22, 23, 24, 25, 26, 27, 28, 29, 30, 31, 32, 33, 34, 35, 36, 37, 38, 39, 40, 41, 42, 43]) ?_ ?_
              · clear o150h
                rintro ρ w151 ⟨x149, rfl, hρ, E, S⟩
                rw [agree_eta hρ]
                clear hρ
                have H := o150H
                clear o150H
                refine Wa_done (by kernel_rfl) ?_
                refine tn ?_
                rcases iteS H with ⟨hb152, H⟩ | ⟨hb152, H⟩
                · refine Wp_cond_true (congrArg Value.bool hb152) ?_
                  refine Wp_seq ?_
                  refine Wp_region_lit ?_
                  refine W_v (.bool false) (x_assign rfl) rfl ?_
                  refine Wl_nil ?_
                  refine tn ?_
                  refine Wp_ret ?_
                  refine tr (?_)
                  obtain rfl := Option.some.inj H
                  exact ⟨_, _, _, fun w1 e1 => run_resR (vs := [.bool false]) (FA.cons (rfl) (FA.nil)), HM, E, S.pick [] (by decide), ⟨rfl, rfl⟩⟩
                · refine Wp_cond_false (congrArg Value.bool hb152) ?_
                  refine Wp_skip ?_
                  refine tn ?_
                  refine Wp_seq ?_
                  refine Wp_region_lit ?_
                  refine W_v (.string (bs a0)) (x_move rfl) rfl ?_
                  refine W_v (.string (bs a1)) (x_move rfl) rfl ?_
                  obtain ⟨t153, ht154, H⟩ := bindS H
                  refine W_callF fn13 (text_Compare.con k M70 a0 a1 t153  ht154) S rfl rfl (by rintro _ _ _ ⟨_, rfl⟩; exact flat_nil) ?_
                  rintro _ w155 _ Γ' E' S ⟨rfl, rfl⟩
                  replace E := E.trans E'
                  clear E'
                  refine W_v (.int .i64 t153) (x_assign rfl) rfl ?_
                  refine Wl_nil ?_
                  refine tn ?_
                  refine Wp_seq ?_
                  refine Wp_seq ?_
                  refine Wp_region_any (S := fun w' => ∃ Mx, M70.le Mx ∧ St w' Mx F []) mixed ?_
                  intro w191 hw192 E'
                  replace S := S.heap hw192
                  replace E := E.trans E'
                  clear E'
                  refine Wa_take (i := 0) rfl (by kernel_rfl) rfl rfl (.string (bs a0)) rfl (fun w' h' => x_move rfl) (⟨M70, Hp.le_refl M70, S.pick [] (by decide)⟩) ?_
                  refine Wa_take (i := 1) rfl (by kernel_rfl) rfl rfl (.int .i64 t76) rfl (fun w' h' => x_move rfl) (⟨M70, Hp.le_refl M70, S.pick [] (by decide)⟩) ?_
                  obtain ⟨⟨p193, p194⟩, H⟩ := chkS H
                  refine Wa_take (i := 2) rfl (by kernel_rfl) rfl rfl (.string (bs (List.drop t76.toNat a0))) rfl (fun w' h' => x_sliceStr_lo Try.underlying9 rfl rfl p193 p194) (⟨M70, Hp.le_refl M70, S.pick [] (by decide)⟩) ?_
                  refine Wa_take (i := 3) rfl (by kernel_rfl) rfl rfl (.string (bs a1)) rfl (fun w' h' => x_move rfl) (⟨M70, Hp.le_refl M70, S.pick [] (by decide)⟩) ?_
                  refine Wa_take (i := 4) rfl (by kernel_rfl) rfl rfl (.int .i64 t76) rfl (fun w' h' => x_move rfl) (⟨M70, Hp.le_refl M70, S.pick [] (by decide)⟩) ?_
                  obtain ⟨⟨p195, p196⟩, H⟩ := chkS H
                  refine Wa_take (i := 5) rfl (by kernel_rfl) rfl rfl (.string (bs (List.drop t76.toNat a1))) rfl (fun w' h' => x_sliceStr_lo Try.underlying9 rfl rfl p195 p196) (⟨M70, Hp.le_refl M70, S.pick [] (by decide)⟩) ?_
                  refine Wa_take (i := 7) rfl (by kernel_rfl) rfl rfl (.int .i64 t153) rfl (fun w' h' => x_move rfl) (⟨M70, Hp.le_refl M70, S.pick [] (by decide)⟩) ?_
                  refine Wa_solo (i := 6) rfl (by kernel_rfl) ?_
                  obtain ⟨t197, ht198, H⟩ := bindS H
                  refine W_callF fn13 (text_Compare.con k M70 (List.drop t76.toNat a0) (List.drop t76.toNat a1) t197  ht198) S rfl rfl (by rintro _ _ _ ⟨_, rfl⟩; exact flat_nil) ?_
                  rintro _ w199 _ Γ' E' S ⟨rfl, rfl⟩
                  replace E := E.trans E'
                  clear E'
                  refine Wl_nil (on_n ⟨⟨M70, Hp.le_refl M70, S.pick [] (by decide)⟩, ?_⟩)
                  refine Wa_take (i := 8) rfl (by kernel_rfl) rfl rfl (.bool (t197 != t153)) rfl (fun w' h' => x_ibin rfl rfl rfl rfl) (⟨M70, Hp.le_refl M70, S.pick [] (by decide)⟩) ?_
                  refine Wa_take (i := 9) rfl (by kernel_rfl) rfl rfl (.bool (t197 != t153)) rfl (fun w' h' => x_move rfl) (⟨M70, Hp.le_refl M70, S.pick [] (by decide)⟩) ?_
                  obtain ⟨o207, o207h, o207H⟩ := bindS H
                  clear H
                  refine Wa_join (fun ρ w' => ∃ (x206 : Bool), (x206) = o207 ∧ Agree ρ [(0, .string (bs a0)), (1, .string (bs a1)), (2, .string (bs a2)), (3, .string (bs a3)), (4, .string (bs a4)), (11, .int .i64 t76), (12, .int .i64 t153), (98, .bool x206)] ∧ Ext w w' ∧ St w' M70 F []) 14 (Ls 34 [0, 1, 2, 3, 4, 5, 7, 6, 8, 9, 10, 11, 12, 13, 14, 15, 16, 17, 18, 19]) ?_ ?_
                  · clear o207h
                    rintro ρ w208 ⟨x206, rfl, hρ, E, S⟩
                    rw [agree_eta hρ]
                    clear hρ
                    have H := o207H
                    clear o207H
                    refine Wa_take (i := 20) rfl (by kernel_rfl) rfl rfl (.bool x206) rfl (fun w' h' => x_move rfl) (⟨M70, Hp.le_refl M70, S.pick [] (by decide)⟩) ?_
                    obtain ⟨o216, o216h, o216H⟩ := bindS H
                    clear H
                    refine Wa_join (fun ρ w' => ∃ (x215 : Bool), (x215) = o216 ∧ Agree ρ [(0, .string (bs a0)), (1, .string (bs a1)), (3, .string (bs a3)), (4, .string (bs a4)), (11, .int .i64 t76), (12, .int .i64 t153), (112, .bool x215)] ∧ Ext w w' ∧ St w' M70 F []) 0 (Ls 34 [0, 1, 2, 3, 4, 5, 7, 6, 8, 9, 10, 11, 12, 13, 14, 15, 16, 17, 18, 19, 20, 21, 22, 23, 24, 25, 26, 27, 28, 29, 30, 31, 32, 33]) ?_ ?_
                    · clear o216h
                      rintro ρ w217 ⟨x215, rfl, hρ, E, S⟩
                      rw [agree_eta hρ]
                      clear hρ
                      have H := o216H
                      clear o216H
                      refine Wa_done (by kernel_rfl) ?_
                      refine tn ?_
                      rcases iteS H with ⟨hb218, H⟩ | ⟨hb218, H⟩
                      · refine Wp_cond_true (congrArg Value.bool hb218) ?_
                        refine Wp_seq ?_
                        refine Wp_region_lit ?_
                        refine W_v (.bool false) (x_assign rfl) rfl ?_
                        refine Wl_nil ?_
                        refine tn ?_
                        refine Wp_ret ?_
                        refine tr (?_)
                        obtain rfl := Option.some.inj H
                        exact ⟨_, _, _, fun w1 e1 => run_resR (vs := [.bool false]) (FA.cons (rfl) (FA.nil)), HM, E, S.pick [] (by decide), ⟨rfl, rfl⟩⟩
                      · refine Wp_cond_false (congrArg Value.bool hb218) ?_
                        refine Wp_skip ?_
                        refine tn ?_
                        refine Wp_seq ?_
                        refine Wp_region_lit ?_
                        refine W_v (.int .i64 t76) (x_move rfl) rfl ?_
                        refine W_v (.string (bs a0)) (x_move rfl) rfl ?_
                        refine W_v (.int .i64 (a0.length : Int)) (x_len_str Try.underlying9 rfl) rfl ?_
                        refine W_v (.bool (t76 == (a0.length : Int))) (x_ibin rfl rfl rfl rfl) rfl ?_
                        refine W_v (.bool (t76 == (a0.length : Int))) (x_move rfl) rfl ?_
                        refine Wl_cutN 5 (fun ρ w' => Agree ρ [(0, .string (bs a0)), (1, .string (bs a1)), (3, .string (bs a3)), (4, .string (bs a4)), (12, .int .i64 t153), (122, .bool ((t76 == (a0.length : Int)) || (t76 == (a1.length : Int))))] ∧ w217 = w') ?_ ?_
                        · rcases boolCases (t76 == (a0.length : Int)) with hb219 | hb219
                          · skip
                            refine W_yes (congrArg some hb219) ?_
                            refine W_v (.int .i64 t76) (x_move rfl) rfl ?_
                            refine W_yes (congrArg some hb219) ?_
                            refine W_v (.string (bs a1)) (x_move rfl) rfl ?_
                            refine W_yes (congrArg some hb219) ?_
                            refine W_v (.int .i64 (a1.length : Int)) (x_len_str Try.underlying9 rfl) rfl ?_
                            refine W_yes (congrArg some hb219) ?_
                            refine W_v (.bool (t76 == (a1.length : Int))) (x_ibin rfl rfl rfl rfl) rfl ?_
                            refine W_v (.bool (t76 == (a1.length : Int))) (x_pick (k := false) (congrArg Value.bool hb219) rfl) rfl ?_
                            refine Wl_nil ?_
                            exact ⟨⟨rfl, rfl, rfl, rfl, rfl, (by first | rfl | (rw [hb219]; rfl) | (simp only [hb219]; rfl)), trivial⟩, rfl⟩
                          · skip
                            refine W_no (skF hb219) rfl ?_
                            refine W_no (skF hb219) rfl ?_
                            refine W_no (skF hb219) rfl ?_
                            refine W_no (skF hb219) rfl ?_
                            refine W_v (.bool true) (x_pick (k := true) (congrArg Value.bool hb219) rfl) rfl ?_
                            refine Wl_nil ?_
                            exact ⟨⟨rfl, rfl, rfl, rfl, rfl, (by first | rfl | (rw [hb219]; rfl) | (simp only [hb219]; rfl)), trivial⟩, rfl⟩
                        · rintro ρ _ ⟨hρ, rfl⟩
                          rw [agree_eta hρ]
                          clear hρ
                          skip
                          refine W_v (.bool ((t76 == (a0.length : Int)) || (t76 == (a1.length : Int)))) (x_move rfl) rfl ?_
                          obtain ⟨o232, o232h, o232H⟩ := bindS H
                          clear H
                          refine Wl_cutN 10 (fun ρ w' => ∃ (x231 : Bool), (x231) = o232 ∧ Agree ρ [(133, .bool x231)] ∧ Ext w w' ∧ St w' M70 F []) ?_ ?_
                          · have H := o232h
                            rcases iteS H with ⟨hb230, H⟩ | ⟨hb230, H⟩
                            · skip
                              refine W_no (skF hb230) rfl ?_
                              refine W_no (skF hb230) rfl ?_
                              refine W_no (skF hb230) rfl ?_
                              refine W_no (skF hb230) rfl ?_
                              refine W_no (skF hb230) rfl ?_
                              refine W_no (skF hb230) rfl ?_
                              refine W_no (skF hb230) rfl ?_
                              refine W_no (skF hb230) rfl ?_
                              refine W_no (skF hb230) rfl ?_
                              refine W_v (.bool true) (x_pick (k := true) (congrArg Value.bool hb230) rfl) rfl ?_
                              refine Wl_nil ?_
                              exact ⟨true, Option.some.inj H, ⟨rfl, trivial⟩, E, S.pick [] (by decide)⟩
                            · skip
                              refine W_yes (congrArg some hb230) ?_
                              refine W_v (.string (bs a0)) (x_move rfl) rfl ?_
                              refine W_yes (congrArg some hb230) ?_
                              refine W_v (.string (bs a3)) (x_move rfl) rfl ?_
                              refine W_yes (congrArg some hb230) ?_
                              obtain ⟨p233, H⟩ := chkS H
                              refine W_v (.string (bs (a0 ++ a3))) (x_cat rfl rfl p233) rfl ?_
                              refine W_yes (congrArg some hb230) ?_
                              refine W_v (.string (bs a1)) (x_move rfl) rfl ?_
                              refine W_yes (congrArg some hb230) ?_
                              refine W_v (.string (bs a4)) (x_move rfl) rfl ?_
                              refine W_yes (congrArg some hb230) ?_
                              obtain ⟨p234, H⟩ := chkS H
                              refine W_v (.string (bs (a1 ++ a4))) (x_cat rfl rfl p234) rfl ?_
                              refine W_yes (congrArg some hb230) ?_
                              obtain ⟨t235, ht236, H⟩ := bindS H
                              refine W_callF fn13 (text_Compare.con k M70 (a0 ++ a3) (a1 ++ a4) t235  ht236) S rfl rfl (by rintro _ _ _ ⟨_, rfl⟩; exact flat_nil) ?_
                              rintro _ w237 _ Γ' E' S ⟨rfl, rfl⟩
                              replace E := E.trans E'
                              clear E'
                              refine W_yes (congrArg some hb230) ?_
                              refine W_v (.int .i64 t153) (x_move rfl) rfl ?_
                              refine W_yes (congrArg some hb230) ?_
                              refine W_v (.bool (t235 == t153)) (x_ibin rfl rfl rfl rfl) rfl ?_
                              refine W_v (.bool (t235 == t153)) (x_pick (k := false) (congrArg Value.bool hb230) rfl) rfl ?_
                              refine Wl_nil ?_
                              exact ⟨(t235 == t153), Option.some.inj H, ⟨rfl, trivial⟩, E, S.pick [] (by decide)⟩
                          · clear o232h
                            rintro ρ w238 ⟨x231, rfl, hρ, E, S⟩
                            rw [agree_eta hρ]
                            clear hρ
                            have H := o232H
                            clear o232H
                            refine W_v (.bool x231) (x_assign rfl) rfl ?_
                            refine Wl_nil ?_
                            refine tn ?_
                            refine Wp_ret ?_
                            obtain rfl := Option.some.inj H
                            exact ⟨_, _, _, fun w1 e1 => run_resR (vs := [.bool x231]) (FA.cons (rfl) (FA.nil)), HM, E, S.pick [] (by decide), ⟨rfl, rfl⟩⟩
                    · intro hrest
                      have H := o216h
                      clear o216h o216H
                      rcases iteS H with ⟨hb214, H⟩ | ⟨hb214, H⟩
                      · skip
                        refine Wa_takeN (i := 21) rfl (by kernel_rfl) rfl rfl rfl (skF hb214) (⟨M70, Hp.le_refl M70, S.pick [] (by decide)⟩) ?_
                        refine Wa_takeN (i := 22) rfl (by kernel_rfl) rfl rfl rfl (skF hb214) (⟨M70, Hp.le_refl M70, S.pick [] (by decide)⟩) ?_
                        refine Wa_takeN (i := 23) rfl (by kernel_rfl) rfl rfl rfl (skF hb214) (⟨M70, Hp.le_refl M70, S.pick [] (by decide)⟩) ?_
                        refine Wa_takeN (i := 24) rfl (by kernel_rfl) rfl rfl rfl (skF hb214) (⟨M70, Hp.le_refl M70, S.pick [] (by decide)⟩) ?_
                        refine Wa_takeN (i := 25) rfl (by kernel_rfl) rfl rfl rfl (skF hb214) (⟨M70, Hp.le_refl M70, S.pick [] (by decide)⟩) ?_
                        refine Wa_takeN (i := 26) rfl (by kernel_rfl) rfl rfl rfl (skF hb214) (⟨M70, Hp.le_refl M70, S.pick [] (by decide)⟩) ?_
                        refine Wa_takeN (i := 27) rfl (by kernel_rfl) rfl rfl rfl (skF hb214) (⟨M70, Hp.le_refl M70, S.pick [] (by decide)⟩) ?_
                        refine Wa_takeN (i := 28) rfl (by kernel_rfl) rfl rfl rfl (skF hb214) (⟨M70, Hp.le_refl M70, S.pick [] (by decide)⟩) ?_
                        refine Wa_takeN (i := 29) rfl (by kernel_rfl) rfl rfl rfl (skF hb214) (⟨M70, Hp.le_refl M70, S.pick [] (by decide)⟩) ?_
                        refine Wa_takeN (i := 30) rfl (by kernel_rfl) rfl rfl rfl (skF hb214) (⟨M70, Hp.le_refl M70, S.pick [] (by decide)⟩) ?_
                        refine Wa_takeN (i := 31) rfl (by kernel_rfl) rfl rfl rfl (skF hb214) (⟨M70, Hp.le_refl M70, S.pick [] (by decide)⟩) ?_
                        refine Wa_takeN (i := 32) rfl (by kernel_rfl) rfl rfl rfl (skF hb214) (⟨M70, Hp.le_refl M70, S.pick [] (by decide)⟩) ?_
                        refine Wa_take (i := 33) rfl (by kernel_rfl) rfl rfl (.bool true) rfl (fun w' h' => x_pick (k := true) (congrArg Value.bool hb214) rfl) (⟨M70, Hp.le_refl M70, S.pick [] (by decide)⟩) ?_
                        exact hrest _ _ ⟨true, Option.some.inj H, ⟨rfl, rfl, rfl, rfl, rfl, rfl, rfl, trivial⟩, E, S.pick [] (by decide)⟩
                      · skip
                        refine Wa_takeY (i := 21) rfl (by kernel_rfl) rfl rfl (.string (bs a2)) rfl (congrArg some hb214) (fun w' h' => x_move rfl) (⟨M70, Hp.le_refl M70, S.pick [] (by decide)⟩) ?_
                        refine Wa_takeY (i := 22) rfl (by kernel_rfl) rfl rfl (.string (bs a0)) rfl (congrArg some hb214) (fun w' h' => x_move rfl) (⟨M70, Hp.le_refl M70, S.pick [] (by decide)⟩) ?_
                        obtain ⟨p239, H⟩ := chkS H
                        refine Wa_takeY (i := 23) rfl (by kernel_rfl) rfl rfl (.string (bs (a2 ++ a0))) rfl (congrArg some hb214) (fun w' h' => x_cat rfl rfl p239) (⟨M70, Hp.le_refl M70, S.pick [] (by decide)⟩) ?_
                        refine Wa_takeY (i := 24) rfl (by kernel_rfl) rfl rfl (.string (bs a2)) rfl (congrArg some hb214) (fun w' h' => x_move rfl) (⟨M70, Hp.le_refl M70, S.pick [] (by decide)⟩) ?_
                        refine Wa_takeY (i := 25) rfl (by kernel_rfl) rfl rfl (.string (bs a1)) rfl (congrArg some hb214) (fun w' h' => x_move rfl) (⟨M70, Hp.le_refl M70, S.pick [] (by decide)⟩) ?_
                        obtain ⟨p240, H⟩ := chkS H
                        refine Wa_takeY (i := 26) rfl (by kernel_rfl) rfl rfl (.string (bs (a2 ++ a1))) rfl (congrArg some hb214) (fun w' h' => x_cat rfl rfl p240) (⟨M70, Hp.le_refl M70, S.pick [] (by decide)⟩) ?_
                        refine Wa_takeY (i := 28) rfl (by kernel_rfl) rfl rfl (.string (bs a2)) rfl (congrArg some hb214) (fun w' h' => x_move rfl) (⟨M70, Hp.le_refl M70, S.pick [] (by decide)⟩) ?_
                        refine Wa_takeY (i := 29) rfl (by kernel_rfl) rfl rfl (.int .i64 (a2.length : Int)) rfl (congrArg some hb214) (fun w' h' => x_len_str Try.underlying9 rfl) (⟨M70, Hp.le_refl M70, S.pick [] (by decide)⟩) ?_
                        refine Wa_takeY (i := 30) rfl (by kernel_rfl) rfl rfl (.int .i64 t76) rfl (congrArg some hb214) (fun w' h' => x_move rfl) (⟨M70, Hp.le_refl M70, S.pick [] (by decide)⟩) ?_
                        refine Wa_takeY (i := 31) rfl (by kernel_rfl) rfl rfl (.int .i64 (IntKind.i64.wrap ((a2.length : Int) + t76))) rfl (congrArg some hb214) (fun w' h' => x_ibin rfl rfl rfl rfl) (⟨M70, Hp.le_refl M70, S.pick [] (by decide)⟩) ?_
                        refine Wa_solo (i := 27) rfl (by kernel_rfl) ?_
                        refine W_yes (congrArg some hb214) ?_
                        obtain ⟨t241, ht242, H⟩ := bindS H
                        refine W_callF fn15 (text_Prefix.con k M70 (a2 ++ a0) (a2 ++ a1) t241  ht242) S rfl rfl (by rintro _ _ _ ⟨_, rfl⟩; exact flat_nil) ?_
                        rintro _ w243 _ Γ' E' S ⟨rfl, rfl⟩
                        replace E := E.trans E'
                        clear E'
                        refine Wl_nil (on_n ⟨⟨M70, Hp.le_refl M70, S.pick [] (by decide)⟩, ?_⟩)
                        refine Wa_takeY (i := 32) rfl (by kernel_rfl) rfl rfl (.bool (t241 != (IntKind.i64.wrap ((a2.length : Int) + t76)))) rfl (congrArg some hb214) (fun w' h' => x_ibin rfl rfl rfl rfl) (⟨M70, Hp.le_refl M70, S.pick [] (by decide)⟩) ?_
                        refine Wa_take (i := 33) rfl (by kernel_rfl) rfl rfl (.bool (t241 != (IntKind.i64.wrap ((a2.length : Int) + t76)))) rfl (fun w' h' => x_pick (k := false) (congrArg Value.bool hb214) rfl) (⟨M70, Hp.le_refl M70, S.pick [] (by decide)⟩) ?_
                        exact hrest _ _ ⟨(t241 != (IntKind.i64.wrap ((a2.length : Int) + t76))), Option.some.inj H, ⟨rfl, rfl, rfl, rfl, rfl, rfl, rfl, trivial⟩, E, S.pick [] (by decide)⟩
                  · intro hrest
                    have H := o207h
                    clear o207h o207H
                    rcases iteS H with ⟨hb205, H⟩ | ⟨hb205, H⟩
                    · skip
                      refine Wa_takeN (i := 10) rfl (by kernel_rfl) rfl rfl rfl (skF hb205) (⟨M70, Hp.le_refl M70, S.pick [] (by decide)⟩) ?_
                      refine Wa_takeN (i := 11) rfl (by kernel_rfl) rfl rfl rfl (skF hb205) (⟨M70, Hp.le_refl M70, S.pick [] (by decide)⟩) ?_
                      refine Wa_takeN (i := 12) rfl (by kernel_rfl) rfl rfl rfl (skF hb205) (⟨M70, Hp.le_refl M70, S.pick [] (by decide)⟩) ?_
                      refine Wa_takeN (i := 13) rfl (by kernel_rfl) rfl rfl rfl (skF hb205) (⟨M70, Hp.le_refl M70, S.pick [] (by decide)⟩) ?_
                      refine Wa_takeN (i := 14) rfl (by kernel_rfl) rfl rfl rfl (skF hb205) (⟨M70, Hp.le_refl M70, S.pick [] (by decide)⟩) ?_
                      refine Wa_takeN (i := 15) rfl (by kernel_rfl) rfl rfl rfl (skF hb205) (⟨M70, Hp.le_refl M70, S.pick [] (by decide)⟩) ?_
                      refine Wa_takeN (i := 16) rfl (by kernel_rfl) rfl rfl rfl (skF hb205) (⟨M70, Hp.le_refl M70, S.pick [] (by decide)⟩) ?_
                      refine Wa_takeN (i := 17) rfl (by kernel_rfl) rfl rfl rfl (skF hb205) (⟨M70, Hp.le_refl M70, S.pick [] (by decide)⟩) ?_
                      refine Wa_takeN (i := 18) rfl (by kernel_rfl) rfl rfl rfl (skF hb205) (⟨M70, Hp.le_refl M70, S.pick [] (by decide)⟩) ?_
                      refine Wa_take (i := 19) rfl (by kernel_rfl) rfl rfl (.bool true) rfl (fun w' h' => x_pick (k := true) (congrArg Value.bool hb205) rfl) (⟨M70, Hp.le_refl M70, S.pick [] (by decide)⟩) ?_
                      exact hrest _ _ ⟨true, Option.some.inj H, ⟨rfl, rfl, rfl, rfl, rfl, rfl, rfl, rfl, trivial⟩, E, S.pick [] (by decide)⟩
                    · skip
                      refine Wa_takeY (i := 10) rfl (by kernel_rfl) rfl rfl (.string (bs a2)) rfl (congrArg some hb205) (fun w' h' => x_move rfl) (⟨M70, Hp.le_refl M70, S.pick [] (by decide)⟩) ?_
                      refine Wa_takeY (i := 11) rfl (by kernel_rfl) rfl rfl (.string (bs a0)) rfl (congrArg some hb205) (fun w' h' => x_move rfl) (⟨M70, Hp.le_refl M70, S.pick [] (by decide)⟩) ?_
                      obtain ⟨p244, H⟩ := chkS H
                      refine Wa_takeY (i := 12) rfl (by kernel_rfl) rfl rfl (.string (bs (a2 ++ a0))) rfl (congrArg some hb205) (fun w' h' => x_cat rfl rfl p244) (⟨M70, Hp.le_refl M70, S.pick [] (by decide)⟩) ?_
                      refine Wa_takeY (i := 13) rfl (by kernel_rfl) rfl rfl (.string (bs a2)) rfl (congrArg some hb205) (fun w' h' => x_move rfl) (⟨M70, Hp.le_refl M70, S.pick [] (by decide)⟩) ?_
                      refine Wa_takeY (i := 14) rfl (by kernel_rfl) rfl rfl (.string (bs a1)) rfl (congrArg some hb205) (fun w' h' => x_move rfl) (⟨M70, Hp.le_refl M70, S.pick [] (by decide)⟩) ?_
                      obtain ⟨p245, H⟩ := chkS H
                      refine Wa_takeY (i := 15) rfl (by kernel_rfl) rfl rfl (.string (bs (a2 ++ a1))) rfl (congrArg some hb205) (fun w' h' => x_cat rfl rfl p245) (⟨M70, Hp.le_refl M70, S.pick [] (by decide)⟩) ?_
                      refine Wa_takeY (i := 17) rfl (by kernel_rfl) rfl rfl (.int .i64 t153) rfl (congrArg some hb205) (fun w' h' => x_move rfl) (⟨M70, Hp.le_refl M70, S.pick [] (by decide)⟩) ?_
                      refine Wa_solo (i := 16) rfl (by kernel_rfl) ?_
                      refine W_yes (congrArg some hb205) ?_
                      obtain ⟨t246, ht247, H⟩ := bindS H
                      refine W_callF fn13 (text_Compare.con k M70 (a2 ++ a0) (a2 ++ a1) t246  ht247) S rfl rfl (by rintro _ _ _ ⟨_, rfl⟩; exact flat_nil) ?_
                      rintro _ w248 _ Γ' E' S ⟨rfl, rfl⟩
                      replace E := E.trans E'
                      clear E'
                      refine Wl_nil (on_n ⟨⟨M70, Hp.le_refl M70, S.pick [] (by decide)⟩, ?_⟩)
                      refine Wa_takeY (i := 18) rfl (by kernel_rfl) rfl rfl (.bool (t246 != t153)) rfl (congrArg some hb205) (fun w' h' => x_ibin rfl rfl rfl rfl) (⟨M70, Hp.le_refl M70, S.pick [] (by decide)⟩) ?_
                      refine Wa_take (i := 19) rfl (by kernel_rfl) rfl rfl (.bool (t246 != t153)) rfl (fun w' h' => x_pick (k := false) (congrArg Value.bool hb205) rfl) (⟨M70, Hp.le_refl M70, S.pick [] (by decide)⟩) ?_
                      exact hrest _ _ ⟨(t246 != t153), Option.some.inj H, ⟨rfl, rfl, rfl, rfl, rfl, rfl, rfl, rfl, trivial⟩, E, S.pick [] (by decide)⟩
              · intro hrest
                have H := o150h
                clear o150h o150H
                rcases iteS H with ⟨hb148, H⟩ | ⟨hb148, H⟩
                · skip
                  refine Wa_takeN (i := 24) rfl (by kernel_rfl) rfl rfl rfl (skF hb148) (⟨M70, Hp.le_refl M70, S.pick [] (by decide)⟩) ?_
                  refine Wa_takeN (i := 25) rfl (by kernel_rfl) rfl rfl rfl (skF hb148) (⟨M70, Hp.le_refl M70, S.pick [] (by decide)⟩) ?_
                  refine Wa_takeN (i := 26) rfl (by kernel_rfl) rfl rfl rfl (skF hb148) (⟨M70, Hp.le_refl M70, S.pick [] (by decide)⟩) ?_
                  refine Wa_takeN (i := 27) rfl (by kernel_rfl) rfl rfl rfl (skF hb148) (⟨M70, Hp.le_refl M70, S.pick [] (by decide)⟩) ?_
                  refine Wa_takeN (i := 28) rfl (by kernel_rfl) rfl rfl rfl (skF hb148) (⟨M70, Hp.le_refl M70, S.pick [] (by decide)⟩) ?_
                  refine Wa_takeN (i := 29) rfl (by kernel_rfl) rfl rfl rfl (rfl) (⟨M70, Hp.le_refl M70, S.pick [] (by decide)⟩) ?_
                  refine Wa_takeN (i := 30) rfl (by kernel_rfl) rfl rfl rfl (rfl) (⟨M70, Hp.le_refl M70, S.pick [] (by decide)⟩) ?_
                  refine Wa_takeN (i := 31) rfl (by kernel_rfl) rfl rfl rfl (rfl) (⟨M70, Hp.le_refl M70, S.pick [] (by decide)⟩) ?_
                  refine Wa_takeN (i := 32) rfl (by kernel_rfl) rfl rfl rfl (rfl) (⟨M70, Hp.le_refl M70, S.pick [] (by decide)⟩) ?_
                  refine Wa_takeN (i := 33) rfl (by kernel_rfl) rfl rfl rfl (skF hb148) (⟨M70, Hp.le_refl M70, S.pick [] (by decide)⟩) ?_
                  refine Wa_takeN (i := 34) rfl (by kernel_rfl) rfl rfl rfl (skF hb148) (⟨M70, Hp.le_refl M70, S.pick [] (by decide)⟩) ?_
                  refine Wa_takeN (i := 35) rfl (by kernel_rfl) rfl rfl rfl (rfl) (⟨M70, Hp.le_refl M70, S.pick [] (by decide)⟩) ?_
                  refine Wa_takeN (i := 36) rfl (by kernel_rfl) rfl rfl rfl (rfl) (⟨M70, Hp.le_refl M70, S.pick [] (by decide)⟩) ?_
                  refine Wa_takeN (i := 37) rfl (by kernel_rfl) rfl rfl rfl (rfl) (⟨M70, Hp.le_refl M70, S.pick [] (by decide)⟩) ?_
                  refine Wa_takeN (i := 38) rfl (by kernel_rfl) rfl rfl rfl (rfl) (⟨M70, Hp.le_refl M70, S.pick [] (by decide)⟩) ?_
                  refine Wa_takeN (i := 39) rfl (by kernel_rfl) rfl rfl rfl (rfl) (⟨M70, Hp.le_refl M70, S.pick [] (by decide)⟩) ?_
                  refine Wa_takeN (i := 40) rfl (by kernel_rfl) rfl rfl rfl (rfl) (⟨M70, Hp.le_refl M70, S.pick [] (by decide)⟩) ?_
                  refine Wa_takeN (i := 41) rfl (by kernel_rfl) rfl rfl rfl (rfl) (⟨M70, Hp.le_refl M70, S.pick [] (by decide)⟩) ?_
                  refine Wa_takeN (i := 42) rfl (by kernel_rfl) rfl rfl rfl (skF hb148) (⟨M70, Hp.le_refl M70, S.pick [] (by decide)⟩) ?_
                  refine Wa_take (i := 43) rfl (by kernel_rfl) rfl rfl (.bool true) rfl (fun w' h' => x_pick (k := true) (congrArg Value.bool hb148) rfl) (⟨M70, Hp.le_refl M70, S.pick [] (by decide)⟩) ?_
                  exact hrest _ _ ⟨true, Option.some.inj H, ⟨rfl, rfl, rfl, rfl, rfl, rfl, rfl, trivial⟩, E, S.pick [] (by decide)⟩
                · skip
                  refine Wa_takeY (i := 24) rfl (by kernel_rfl) rfl rfl (.int .i64 t76) rfl (congrArg some hb148) (fun w' h' => x_move rfl) (⟨M70, Hp.le_refl M70, S.pick [] (by decide)⟩) ?_
                  refine Wa_takeY (i := 25) rfl (by kernel_rfl) rfl rfl (.string (bs a0)) rfl (congrArg some hb148) (fun w' h' => x_move rfl) (⟨M70, Hp.le_refl M70, S.pick [] (by decide)⟩) ?_
                  refine Wa_takeY (i := 26) rfl (by kernel_rfl) rfl rfl (.int .i64 (a0.length : Int)) rfl (congrArg some hb148) (fun w' h' => x_len_str Try.underlying9 rfl) (⟨M70, Hp.le_refl M70, S.pick [] (by decide)⟩) ?_
                  refine Wa_takeY (i := 27) rfl (by kernel_rfl) rfl rfl (.bool (decide (t76 < (a0.length : Int)))) rfl (congrArg some hb148) (fun w' h' => x_ibin rfl rfl rfl rfl) (⟨M70, Hp.le_refl M70, S.pick [] (by decide)⟩) ?_
                  refine Wa_takeY (i := 28) rfl (by kernel_rfl) rfl rfl (.bool (decide (t76 < (a0.length : Int)))) rfl (congrArg some hb148) (fun w' h' => x_move rfl) (⟨M70, Hp.le_refl M70, S.pick [] (by decide)⟩) ?_
                  refine Wa_join (fun ρ w' => Agree ρ [(0, .string (bs a0)), (1, .string (bs a1)), (2, .string (bs a2)), (3, .string (bs a3)), (4, .string (bs a4)), (11, .int .i64 t76), (55, .bool x132), (65, .bool ((decide (t76 < (a0.length : Int))) && (decide (t76 < (a1.length : Int)))))] ∧ w134 = w') 10 (Ls 44 [0, 1, 2, 3, 4, 5, 6, 7, 8, 9, 10, 11, 12, 13, 14, 15, 16, 17, 18, 19, 20, 21, 22, 23, 24, 25, 26, 27, 28, 29, 30, 31, 32, 33]) ?_ ?_
                  · rintro ρ _ ⟨hρ, rfl⟩
                    rw [agree_eta hρ]
                    clear hρ
                    refine Wa_takeY (i := 34) rfl (by kernel_rfl) rfl rfl (.bool ((decide (t76 < (a0.length : Int))) && (decide (t76 < (a1.length : Int))))) rfl (congrArg some hb148) (fun w' h' => x_move rfl) (⟨M70, Hp.le_refl M70, S.pick [] (by decide)⟩) ?_
                    obtain ⟨o256, o256h, o256H⟩ := bindS H
                    clear H
                    refine Wa_join (fun ρ w' => ∃ (x255 : Bool), (x255) = o256 ∧ Agree ρ [(0, .string (bs a0)), (1, .string (bs a1)), (2, .string (bs a2)), (3, .string (bs a3)), (4, .string (bs a4)), (11, .int .i64 t76), (55, .bool x132), (74, .bool x255)] ∧ Ext w w' ∧ St w' M70 F []) 1 (Ls 44 [0, 1, 2, 3, 4, 5, 6, 7, 8, 9, 10, 11, 12, 13, 14, 15, 16, 17, 18, 19, 20, 21, 22, 23, 24, 25, 26, 27, 28, 29, 30, 31, 32, 33, 34, 35, 36, 37, 38, 39, 40, 41, 42]) ?_ ?_
                    · clear o256h
                      rintro ρ w257 ⟨x255, rfl, hρ, E, S⟩
                      rw [agree_eta hρ]
                      clear hρ
                      have H := o256H
                      clear o256H
                      refine Wa_take (i := 43) rfl (by kernel_rfl) rfl rfl (.bool x255) rfl (fun w' h' => x_pick (k := false) (congrArg Value.bool hb148) rfl) (⟨M70, Hp.le_refl M70, S.pick [] (by decide)⟩) ?_
                      exact hrest _ _ ⟨x255, Option.some.inj H, ⟨rfl, rfl, rfl, rfl, rfl, rfl, rfl, trivial⟩, E, S.pick [] (by decide)⟩
                    · intro hrest
                      have H := o256h
                      clear o256h o256H
                      rcases iteS H with ⟨hb254, H⟩ | ⟨hb254, H⟩
                      · skip
                        refine Wa_takeY (i := 35) rfl (by kernel_rfl) rfl rfl (.string (bs a0)) rfl (congrArg some hb254) (fun w' h' => x_move rfl) (⟨M70, Hp.le_refl M70, S.pick [] (by decide)⟩) ?_
                        refine Wa_takeY (i := 36) rfl (by kernel_rfl) rfl rfl (.int .i64 t76) rfl (congrArg some hb254) (fun w' h' => x_move rfl) (⟨M70, Hp.le_refl M70, S.pick [] (by decide)⟩) ?_
                        obtain ⟨⟨p258, p259⟩, H⟩ := chkS H
                        refine Wa_takeY (i := 37) rfl (by kernel_rfl) rfl rfl (.int .u8 (((a0).getD (t76).toNat 0).toNat : Int)) rfl (congrArg some hb254) (fun w' h' => x_indexStr Try.underlying9 rfl rfl p258 p259) (⟨M70, Hp.le_refl M70, S.pick [] (by decide)⟩) ?_
                        refine Wa_takeY (i := 38) rfl (by kernel_rfl) rfl rfl (.string (bs a1)) rfl (congrArg some hb254) (fun w' h' => x_move rfl) (⟨M70, Hp.le_refl M70, S.pick [] (by decide)⟩) ?_
                        refine Wa_takeY (i := 39) rfl (by kernel_rfl) rfl rfl (.int .i64 t76) rfl (congrArg some hb254) (fun w' h' => x_move rfl) (⟨M70, Hp.le_refl M70, S.pick [] (by decide)⟩) ?_
                        obtain ⟨⟨p260, p261⟩, H⟩ := chkS H
                        refine Wa_takeY (i := 40) rfl (by kernel_rfl) rfl rfl (.int .u8 (((a1).getD (t76).toNat 0).toNat : Int)) rfl (congrArg some hb254) (fun w' h' => x_indexStr Try.underlying9 rfl rfl p260 p261) (⟨M70, Hp.le_refl M70, S.pick [] (by decide)⟩) ?_
                        refine Wa_takeY (i := 41) rfl (by kernel_rfl) rfl rfl (.bool ((((a0).getD (t76).toNat 0).toNat : Int) == (((a1).getD (t76).toNat 0).toNat : Int))) rfl (congrArg some hb254) (fun w' h' => x_ibin rfl rfl rfl rfl) (⟨M70, Hp.le_refl M70, S.pick [] (by decide)⟩) ?_
                        refine Wa_takeY (i := 42) rfl (by kernel_rfl) rfl rfl (.bool ((((a0).getD (t76).toNat 0).toNat : Int) == (((a1).getD (t76).toNat 0).toNat : Int))) rfl (congrArg some hb148) (fun w' h' => x_pick (k := true) (congrArg Value.bool hb254) rfl) (⟨M70, Hp.le_refl M70, S.pick [] (by decide)⟩) ?_
                        exact hrest _ _ ⟨((((a0).getD (t76).toNat 0).toNat : Int) == (((a1).getD (t76).toNat 0).toNat : Int)), Option.some.inj H, ⟨rfl, rfl, rfl, rfl, rfl, rfl, rfl, rfl, trivial⟩, E, S.pick [] (by decide)⟩
                      · skip
                        refine Wa_takeN (i := 35) rfl (by kernel_rfl) rfl rfl rfl (skT hb254) (⟨M70, Hp.le_refl M70, S.pick [] (by decide)⟩) ?_
                        refine Wa_takeN (i := 36) rfl (by kernel_rfl) rfl rfl rfl (skT hb254) (⟨M70, Hp.le_refl M70, S.pick [] (by decide)⟩) ?_
                        refine Wa_takeN (i := 37) rfl (by kernel_rfl) rfl rfl rfl (skT hb254) (⟨M70, Hp.le_refl M70, S.pick [] (by decide)⟩) ?_
                        refine Wa_takeN (i := 38) rfl (by kernel_rfl) rfl rfl rfl (skT hb254) (⟨M70, Hp.le_refl M70, S.pick [] (by decide)⟩) ?_
                        refine Wa_takeN (i := 39) rfl (by kernel_rfl) rfl rfl rfl (skT hb254) (⟨M70, Hp.le_refl M70, S.pick [] (by decide)⟩) ?_
                        refine Wa_takeN (i := 40) rfl (by kernel_rfl) rfl rfl rfl (skT hb254) (⟨M70, Hp.le_refl M70, S.pick [] (by decide)⟩) ?_
                        refine Wa_takeN (i := 41) rfl (by kernel_rfl) rfl rfl rfl (skT hb254) (⟨M70, Hp.le_refl M70, S.pick [] (by decide)⟩) ?_
                        refine Wa_takeY (i := 42) rfl (by kernel_rfl) rfl rfl (.bool false) rfl (congrArg some hb148) (fun w' h' => x_pick (k := false) (congrArg Value.bool hb254) rfl) (⟨M70, Hp.le_refl M70, S.pick [] (by decide)⟩) ?_
                        exact hrest _ _ ⟨false, Option.some.inj H, ⟨rfl, rfl, rfl, rfl, rfl, rfl, rfl, rfl, trivial⟩, E, S.pick [] (by decide)⟩
                  · intro hrest
                    rcases boolCases (decide (t76 < (a0.length : Int))) with hb249 | hb249
                    · skip
                      refine Wa_takeN (i := 29) rfl (by kernel_rfl) rfl rfl rfl (skT hb249) (⟨M70, Hp.le_refl M70, S.pick [] (by decide)⟩) ?_
                      refine Wa_takeN (i := 30) rfl (by kernel_rfl) rfl rfl rfl (skT hb249) (⟨M70, Hp.le_refl M70, S.pick [] (by decide)⟩) ?_
                      refine Wa_takeN (i := 31) rfl (by kernel_rfl) rfl rfl rfl (skT hb249) (⟨M70, Hp.le_refl M70, S.pick [] (by decide)⟩) ?_
                      refine Wa_takeN (i := 32) rfl (by kernel_rfl) rfl rfl rfl (skT hb249) (⟨M70, Hp.le_refl M70, S.pick [] (by decide)⟩) ?_
                      refine Wa_takeY (i := 33) rfl (by kernel_rfl) rfl rfl (.bool false) rfl (congrArg some hb148) (fun w' h' => x_pick (k := false) (congrArg Value.bool hb249) rfl) (⟨M70, Hp.le_refl M70, S.pick [] (by decide)⟩) ?_
                      exact hrest _ _ ⟨⟨rfl, rfl, rfl, rfl, rfl, rfl, rfl, (by first | rfl | (rw [hb249]; rfl) | (simp only [hb249]; rfl)), trivial⟩, rfl⟩
                    · skip
                      refine Wa_takeY (i := 29) rfl (by kernel_rfl) rfl rfl (.int .i64 t76) rfl (congrArg some hb249) (fun w' h' => x_move rfl) (⟨M70, Hp.le_refl M70, S.pick [] (by decide)⟩) ?_
                      refine Wa_takeY (i := 30) rfl (by kernel_rfl) rfl rfl (.string (bs a1)) rfl (congrArg some hb249) (fun w' h' => x_move rfl) (⟨M70, Hp.le_refl M70, S.pick [] (by decide)⟩) ?_
                      refine Wa_takeY (i := 31) rfl (by kernel_rfl) rfl rfl (.int .i64 (a1.length : Int)) rfl (congrArg some hb249) (fun w' h' => x_len_str Try.underlying9 rfl) (⟨M70, Hp.le_refl M70, S.pick [] (by decide)⟩) ?_
                      refine Wa_takeY (i := 32) rfl (by kernel_rfl) rfl rfl (.bool (decide (t76 < (a1.length : Int)))) rfl (congrArg some hb249) (fun w' h' => x_ibin rfl rfl rfl rfl) (⟨M70, Hp.le_refl M70, S.pick [] (by decide)⟩) ?_
                      refine Wa_takeY (i := 33) rfl (by kernel_rfl) rfl rfl (.bool (decide (t76 < (a1.length : Int)))) rfl (congrArg some hb148) (fun w' h' => x_pick (k := true) (congrArg Value.bool hb249) rfl) (⟨M70, Hp.le_refl M70, S.pick [] (by decide)⟩) ?_
                      exact hrest _ _ ⟨⟨rfl, rfl, rfl, rfl, rfl, rfl, rfl, (by first | rfl | (rw [hb249]; rfl) | (simp only [hb249]; rfl)), trivial⟩, rfl⟩
            · intro hrest
              have H := o133h
              clear o133h o133H
              rcases iteS H with ⟨hb131, H⟩ | ⟨hb131, H⟩
              · skip
                refine Wa_takeN (i := 15) rfl (by kernel_rfl) rfl rfl rfl (skF hb131) (⟨M70, Hp.le_refl M70, S.pick [] (by decide)⟩) ?_
                refine Wa_takeN (i := 16) rfl (by kernel_rfl) rfl rfl rfl (skF hb131) (⟨M70, Hp.le_refl M70, S.pick [] (by decide)⟩) ?_
                refine Wa_takeN (i := 17) rfl (by kernel_rfl) rfl rfl rfl (skF hb131) (⟨M70, Hp.le_refl M70, S.pick [] (by decide)⟩) ?_
                refine Wa_takeN (i := 18) rfl (by kernel_rfl) rfl rfl rfl (skF hb131) (⟨M70, Hp.le_refl M70, S.pick [] (by decide)⟩) ?_
                refine Wa_takeN (i := 19) rfl (by kernel_rfl) rfl rfl rfl (skF hb131) (⟨M70, Hp.le_refl M70, S.pick [] (by decide)⟩) ?_
                refine Wa_takeN (i := 20) rfl (by kernel_rfl) rfl rfl rfl (skF hb131) (⟨M70, Hp.le_refl M70, S.pick [] (by decide)⟩) ?_
                refine Wa_takeN (i := 21) rfl (by kernel_rfl) rfl rfl rfl (skF hb131) (⟨M70, Hp.le_refl M70, S.pick [] (by decide)⟩) ?_
                refine Wa_take (i := 22) rfl (by kernel_rfl) rfl rfl (.bool true) rfl (fun w' h' => x_pick (k := true) (congrArg Value.bool hb131) rfl) (⟨M70, Hp.le_refl M70, S.pick [] (by decide)⟩) ?_
                exact hrest _ _ ⟨true, Option.some.inj H, ⟨rfl, rfl, rfl, rfl, rfl, rfl, rfl, trivial⟩, E, S.pick [] (by decide)⟩
              · skip
                refine Wa_takeY (i := 15) rfl (by kernel_rfl) rfl rfl (.string (bs a0)) rfl (congrArg some hb131) (fun w' h' => x_move rfl) (⟨M70, Hp.le_refl M70, S.pick [] (by decide)⟩) ?_
                refine Wa_takeY (i := 16) rfl (by kernel_rfl) rfl rfl (.int .i64 t76) rfl (congrArg some hb131) (fun w' h' => x_move rfl) (⟨M70, Hp.le_refl M70, S.pick [] (by decide)⟩) ?_
                obtain ⟨⟨p262, p263⟩, H⟩ := chkS H
                refine Wa_takeY (i := 17) rfl (by kernel_rfl) rfl rfl (.string (bs (List.take t76.toNat a0))) rfl (congrArg some hb131) (fun w' h' => x_sliceStr_hi Try.underlying9 rfl rfl p262 p263) (⟨M70, Hp.le_refl M70, S.pick [] (by decide)⟩) ?_
                refine Wa_takeY (i := 18) rfl (by kernel_rfl) rfl rfl (.string (bs a1)) rfl (congrArg some hb131) (fun w' h' => x_move rfl) (⟨M70, Hp.le_refl M70, S.pick [] (by decide)⟩) ?_
                refine Wa_takeY (i := 19) rfl (by kernel_rfl) rfl rfl (.int .i64 t76) rfl (congrArg some hb131) (fun w' h' => x_move rfl) (⟨M70, Hp.le_refl M70, S.pick [] (by decide)⟩) ?_
                obtain ⟨⟨p264, p265⟩, H⟩ := chkS H
                refine Wa_takeY (i := 20) rfl (by kernel_rfl) rfl rfl (.string (bs (List.take t76.toNat a1))) rfl (congrArg some hb131) (fun w' h' => x_sliceStr_hi Try.underlying9 rfl rfl p264 p265) (⟨M70, Hp.le_refl M70, S.pick [] (by decide)⟩) ?_
                refine Wa_takeY (i := 21) rfl (by kernel_rfl) rfl rfl (.bool (sbin .neq (List.take t76.toNat a0) (List.take t76.toNat a1))) rfl (congrArg some hb131) (fun w' h' => x_sbin rfl rfl rfl) (⟨M70, Hp.le_refl M70, S.pick [] (by decide)⟩) ?_
                refine Wa_take (i := 22) rfl (by kernel_rfl) rfl rfl (.bool (sbin .neq (List.take t76.toNat a0) (List.take t76.toNat a1))) rfl (fun w' h' => x_pick (k := false) (congrArg Value.bool hb131) rfl) (⟨M70, Hp.le_refl M70, S.pick [] (by decide)⟩) ?_
                exact hrest _ _ ⟨(sbin .neq (List.take t76.toNat a0) (List.take t76.toNat a1)), Option.some.inj H, ⟨rfl, rfl, rfl, rfl, rfl, rfl, rfl, trivial⟩, E, S.pick [] (by decide)⟩
          · intro hrest
            rcases boolCases ((decide (t76 < (0 : Int))) || (decide (t76 > (a0.length : Int)))) with hb126 | hb126
            · skip
              refine Wa_takeY (i := 9) rfl (by kernel_rfl) rfl rfl (.int .i64 t76) rfl (congrArg some hb126) (fun w' h' => x_move rfl) (⟨M70, Hp.le_refl M70, S.pick [] (by decide)⟩) ?_
              refine Wa_takeY (i := 10) rfl (by kernel_rfl) rfl rfl (.string (bs a1)) rfl (congrArg some hb126) (fun w' h' => x_move rfl) (⟨M70, Hp.le_refl M70, S.pick [] (by decide)⟩) ?_
              refine Wa_takeY (i := 11) rfl (by kernel_rfl) rfl rfl (.int .i64 (a1.length : Int)) rfl (congrArg some hb126) (fun w' h' => x_len_str Try.underlying9 rfl) (⟨M70, Hp.le_refl M70, S.pick [] (by decide)⟩) ?_
              refine Wa_takeY (i := 12) rfl (by kernel_rfl) rfl rfl (.bool (decide (t76 > (a1.length : Int)))) rfl (congrArg some hb126) (fun w' h' => x_ibin rfl rfl rfl rfl) (⟨M70, Hp.le_refl M70, S.pick [] (by decide)⟩) ?_
              refine Wa_take (i := 13) rfl (by kernel_rfl) rfl rfl (.bool (decide (t76 > (a1.length : Int)))) rfl (fun w' h' => x_pick (k := false) (congrArg Value.bool hb126) rfl) (⟨M70, Hp.le_refl M70, S.pick [] (by decide)⟩) ?_
              exact hrest _ _ ⟨⟨rfl, rfl, rfl, rfl, rfl, rfl, (by first | rfl | (rw [hb126]; rfl) | (simp only [hb126]; rfl)), trivial⟩, rfl⟩
            · skip
              refine Wa_takeN (i := 9) rfl (by kernel_rfl) rfl rfl rfl (skF hb126) (⟨M70, Hp.le_refl M70, S.pick [] (by decide)⟩) ?_
              refine Wa_takeN (i := 10) rfl (by kernel_rfl) rfl rfl rfl (skF hb126) (⟨M70, Hp.le_refl M70, S.pick [] (by decide)⟩) ?_
              refine Wa_takeN (i := 11) rfl (by kernel_rfl) rfl rfl rfl (skF hb126) (⟨M70, Hp.le_refl M70, S.pick [] (by decide)⟩) ?_
              refine Wa_takeN (i := 12) rfl (by kernel_rfl) rfl rfl rfl (skF hb126) (⟨M70, Hp.le_refl M70, S.pick [] (by decide)⟩) ?_
              refine Wa_take (i := 13) rfl (by kernel_rfl) rfl rfl (.bool true) rfl (fun w' h' => x_pick (k := true) (congrArg Value.bool hb126) rfl) (⟨M70, Hp.le_refl M70, S.pick [] (by decide)⟩) ?_
              exact hrest _ _ ⟨⟨rfl, rfl, rfl, rfl, rfl, rfl, (by first | rfl | (rw [hb126]; rfl) | (simp only [hb126]; rfl)), trivial⟩, rfl⟩
        · intro hrest
          rcases boolCases (decide (t76 < (0 : Int))) with hb125 | hb125
          · skip
            refine Wa_takeY (i := 3) rfl (by kernel_rfl) rfl rfl (.int .i64 t76) rfl (congrArg some hb125) (fun w' h' => x_move rfl) (⟨M70, Hp.le_refl M70, S.pick [] (by decide)⟩) ?_
            refine Wa_takeY (i := 4) rfl (by kernel_rfl) rfl rfl (.string (bs a0)) rfl (congrArg some hb125) (fun w' h' => x_move rfl) (⟨M70, Hp.le_refl M70, S.pick [] (by decide)⟩) ?_
            refine Wa_takeY (i := 5) rfl (by kernel_rfl) rfl rfl (.int .i64 (a0.length : Int)) rfl (congrArg some hb125) (fun w' h' => x_len_str Try.underlying9 rfl) (⟨M70, Hp.le_refl M70, S.pick [] (by decide)⟩) ?_
            refine Wa_takeY (i := 6) rfl (by kernel_rfl) rfl rfl (.bool (decide (t76 > (a0.length : Int)))) rfl (congrArg some hb125) (fun w' h' => x_ibin rfl rfl rfl rfl) (⟨M70, Hp.le_refl M70, S.pick [] (by decide)⟩) ?_
            refine Wa_take (i := 7) rfl (by kernel_rfl) rfl rfl (.bool (decide (t76 > (a0.length : Int)))) rfl (fun w' h' => x_pick (k := false) (congrArg Value.bool hb125) rfl) (⟨M70, Hp.le_refl M70, S.pick [] (by decide)⟩) ?_
            exact hrest _ _ ⟨⟨rfl, rfl, rfl, rfl, rfl, rfl, (by first | rfl | (rw [hb125]; rfl) | (simp only [hb125]; rfl)), trivial⟩, rfl⟩
          · skip
            refine Wa_takeN (i := 3) rfl (by kernel_rfl) rfl rfl rfl (skF hb125) (⟨M70, Hp.le_refl M70, S.pick [] (by decide)⟩) ?_
            refine Wa_takeN (i := 4) rfl (by kernel_rfl) rfl rfl rfl (skF hb125) (⟨M70, Hp.le_refl M70, S.pick [] (by decide)⟩) ?_
            refine Wa_takeN (i := 5) rfl (by kernel_rfl) rfl rfl rfl (skF hb125) (⟨M70, Hp.le_refl M70, S.pick [] (by decide)⟩) ?_
            refine Wa_takeN (i := 6) rfl (by kernel_rfl) rfl rfl rfl (skF hb125) (⟨M70, Hp.le_refl M70, S.pick [] (by decide)⟩) ?_
            refine Wa_take (i := 7) rfl (by kernel_rfl) rfl rfl (.bool true) rfl (fun w' h' => x_pick (k := true) (congrArg Value.bool hb125) rfl) (⟨M70, Hp.le_refl M70, S.pick [] (by decide)⟩) ?_
            exact hrest _ _ ⟨⟨rfl, rfl, rfl, rfl, rfl, rfl, (by first | rfl | (rw [hb125]; rfl) | (simp only [hb125]; rfl)), trivial⟩, rfl⟩
end Go.Proofs.Ytnfeinhialojnaa
