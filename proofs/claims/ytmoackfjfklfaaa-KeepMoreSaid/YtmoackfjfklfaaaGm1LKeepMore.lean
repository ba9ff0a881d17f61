import Derived.Test.YtmoackfjfklfaaaGm1
namespace Go.Proofs.Ytmoackfjfklfaaa
open Go
set_option linter.unusedVariables false
set_option linter.unusedSimpArgs false
/-! ### ferryman/ferrymanlaw11.KeepMore: function 5 -/
def ferrymanlaw11_KeepMore (k : Nat) (a0 : (List api_Version)) (a1 : api_Version) (a2 : Int) : Option (Bool) :=
  (if ([a1] : List api_Version).length + a0.length ≤ 3518437208883 then (Option.bind (α := Bool) (if (decide ((a0.length : Int) > (300 : Int))) = true then some (true) else (Option.bind (ferrymanref11_Legal k (([a1] : List api_Version) ++ a0)) (fun t24 => some ((!t24))))) (fun x22 => (Option.bind (α := Bool) (if x22 = true then some (true) else (Option.bind (ferrymanlaw11_awake k ) (fun t37 => some ((!t37))))) (fun x35 => (if x35 = true then (Option.bind (ferrymanlaw11_awake k ) (fun t42 => some t42)) else (Option.bind (keep_Seen k (([a1] : List api_Version) ++ a0) a2) (fun t45 => (if (decide (a2 ≥ a1.TS)) = true then (Option.bind (α := Bool) (if ((t45.2 == (!a1.Tomb)) && ((!t45.2) || ((t45.1.Writer == a1.Writer) && ((t45.1.TS == a1.TS) && ((t45.1.Tomb == a1.Tomb) && (t45.1.Value == a1.Value)))))) = true then (Option.bind (keep_Clash k (([a1] : List api_Version) ++ a0) a2) (fun t66 => some ((!t66)))) else some (false)) (fun x64 => some x64)) else (Option.bind (keep_Seen k a0 a2) (fun t70 => (Option.bind (α := Bool) (if (((t45.1.Writer == t70.1.Writer) && ((t45.1.TS == t70.1.TS) && ((t45.1.Tomb == t70.1.Tomb) && (t45.1.Value == t70.1.Value)))) && (t45.2 == t70.2)) = true then (Option.bind (keep_Clash k (([a1] : List api_Version) ++ a0) a2) (fun t87 => some (t87))) else some (false)) (fun x85 => some x85)))))))))))) else none)
set_option maxHeartbeats 2000000 in
theorem ferrymanlaw11_KeepMore.mono {k : Nat} {a0 : (List api_Version)} {a1 : api_Version} {a2 : Int} : OLe (ferrymanlaw11_KeepMore k a0 a1 a2) (ferrymanlaw11_KeepMore (k + 1) a0 a1 a2) := by
  unfold ferrymanlaw11_KeepMore
  repeat' (first | with_reducible exact OLe.none | with_reducible exact OLe.some | with_reducible refine OLe.ite ?_ ?_ | with_reducible refine OLe.bind ?_ (fun _ => ?_) | with_reducible exact ferrymanlaw11_awake.mono | with_reducible exact ferrymanref11_Legal.mono | with_reducible exact keep_Clash.mono | with_reducible exact keep_Seen.mono | refine OLe.bind ?_ (fun _ => ?_) | refine OLe.ite ?_ ?_ | refine OLe.elim (fun _ => ?_) (fun _ => ?_) | split)
set_option maxHeartbeats 1000000 in
set_option maxRecDepth 100000 in
theorem ferrymanlaw11_KeepMore.con (k : Nat) (M : Hp) (A0 : Option Addr) (c0 : Nat) (a0 : (List api_Version)) (a1 : api_Version) (a2 : Int) (r : Bool) (hr0 : SlR r_api_Version M (.slice A0 a0.length c0) a0) (h : ferrymanlaw11_KeepMore k a0 a1 a2 = some r) : Con Try.prog 5 #[.slice A0 a0.length c0, .agg #[.int .i64 a1.Writer, .int .i64 a1.TS, .bool a1.Tomb, .string (bs a1.Value)], .int .i64 a2] M [] (fun v M' Γ' => v = .bool r ∧ Γ' = []) := by
  refine con_of_wp Try.func5 rfl Try.ntmps5 Try.results5 rfl ?_
  intro w F rn S hrn
  have E := Ext.refl w
  have HM := Hp.le_refl M
  have H := h
  unfold ferrymanlaw11_KeepMore at H
  refine Wp_seq ?_
  refine Wp_region_lit ?_
  refine W_box S #[.int .i64 a1.Writer, .int .i64 a1.TS, .bool a1.Tomb, .string (bs a1.Value)] rfl rfl rfl ?_
  intro b1 w2 E' S
  replace E := E.trans E'
  clear E'
  refine W_v (.bool false) (x_assign rfl) rfl ?_
  refine Wl_nil ?_
  refine tn ?_
  refine Wp_seq ?_
  refine Wp_region_lit ?_
  refine W_v (.agg #[.int .i64 a1.Writer, .int .i64 a1.TS, .bool a1.Tomb, .string (bs a1.Value)]) (x_loadA (S.blk 0 rfl) ty27 rfl (sub_of_extract rfl) rfl rfl) rfl ?_
  refine W_bslice S #[.int .i64 a1.Writer, .int .i64 a1.TS, .bool a1.Tomb, .string (bs a1.Value)] Try.underlying22 ty27 rfl rfl #[.int .i64 0, .int .i64 0, .bool false, .string (bs ([] : Str))] (by kernel_rfl) (by kernel_rfl) rfl ?_
  intro b4 w5 E' S
  replace E := E.trans E'
  clear E'
  replace S := S.blk_row (r := r_api_Version) (l := ([a1] : List api_Version)) 0 rfl 1 (Nat.le_refl 1) rfl (Cells.cons (vs := [.int .i64 a1.Writer, .int .i64 a1.TS, .bool a1.Tomb, .string (bs a1.Value)]) (rfl) Cells.nil)
  refine W_v (.slice A0 a0.length c0) (x_move rfl) rfl ?_
  obtain ⟨p7, H⟩ := chkS H
  obtain ⟨src8, hs9, hC10⟩ := src_of_read (P := Try.prog) (ρ := r_api_Version) (l := a0) (SlR.world hr0 S) (by decide)
  refine W_append S 0 rfl rfl rfl Try.underlying22 (.inl Try.underlying22) ty27 rfl (by decide) (by decide) hs9 hC10 rfl (by omega) rfl ?_
  intro v11 w12 E' S
  replace E := E.trans E'
  clear E'
  obtain ⟨A13, c14, rfl, _⟩ := (S.row_read 0 rfl).form
  refine W_v (.slice A13 (([a1] : List api_Version) ++ a0).length c14) (x_assign rfl) rfl ?_
  refine Wl_nil ?_
  refine tn ?_
  refine Wp_seq ?_
  refine Wp_seq ?_
  refine Wp_region_lit ?_
  refine W_v (.slice A0 a0.length c0) (x_move rfl) rfl ?_
  refine W_v (.int .i64 (a0.length : Int)) (x_len_slice (n := a0.length) Try.underlying22 rfl) rfl ?_
  refine W_v (.bool (decide ((a0.length : Int) > (300 : Int)))) (x_ibin rfl rfl rfl rfl) rfl ?_
  refine W_v (.bool (decide ((a0.length : Int) > (300 : Int)))) (x_move rfl) rfl ?_
  obtain ⟨o23, o23h, o23H⟩ := bindS H
  clear H
  refine Wl_cutN 4 (fun ρ w' => ∃ (x22 : Bool), (x22) = o23 ∧ Agree ρ [(0, .slice A0 a0.length c0), (2, .int .i64 a2), (4, .pointer (some ⟨b1, 0, none⟩)), (7, .slice A13 (([a1] : List api_Version) ++ a0).length c14), (23, .bool x22)] ∧ Ext w w' ∧ St w' M F [Row r_api_Version 27 (.slice A13 (([a1] : List api_Version) ++ a0).length c14) (([a1] : List api_Version) ++ a0), Blk b1 (.cells #[.int .i64 a1.Writer, .int .i64 a1.TS, .bool a1.Tomb, .string (bs a1.Value)] 27 (0, 0))]) ?_ ?_
  · have H := o23h
    rcases iteS H with ⟨hb21, H⟩ | ⟨hb21, H⟩
    · skip
      refine W_no (skF hb21) rfl ?_
      refine W_no (skF hb21) rfl ?_
      refine W_no (skF hb21) rfl ?_
      refine W_v (.bool true) (x_pick (k := true) (congrArg Value.bool hb21) rfl) rfl ?_
      refine Wl_nil ?_
      exact ⟨true, Option.some.inj H, ⟨rfl, rfl, rfl, rfl, rfl, trivial⟩, E, S.pick [0, 1] (by decide)⟩
    · skip
      refine W_yes (congrArg some hb21) ?_
      refine W_v (.slice A13 (([a1] : List api_Version) ++ a0).length c14) (x_move rfl) rfl ?_
      refine W_yes (congrArg some hb21) ?_
      obtain ⟨t24, ht25, H⟩ := bindS H
      refine W_callN 1 fn9 (fun h9 hs9 hd9 => ferrymanref11_Legal.con k _ A13 c14 (([a1] : List api_Version) ++ a0) t24 (Sats.row hs9 hd9 0 rfl) ht25) S rfl rfl (by rintro _ _ _ ⟨_, rfl⟩; exact flat_nil) ?_
      rintro _ w26 _ Γ' E' S ⟨rfl, rfl⟩
      replace E := E.trans E'
      clear E'
      refine W_yes (congrArg some hb21) ?_
      refine W_v (.bool (!t24)) (x_not rfl) rfl ?_
      refine W_v (.bool (!t24)) (x_pick (k := false) (congrArg Value.bool hb21) rfl) rfl ?_
      refine Wl_nil ?_
      exact ⟨(!t24), Option.some.inj H, ⟨rfl, rfl, rfl, rfl, rfl, trivial⟩, E, S.pick [0, 1] (by decide)⟩
  clear o23h
  rintro ρ w27 ⟨x22, rfl, hρ, E, S⟩
  rw [agree_eta hρ]
  clear hρ
  have H := o23H
  clear o23H
  refine W_v (.bool x22) (x_move rfl) rfl ?_
  obtain ⟨o36, o36h, o36H⟩ := bindS H
  clear H
  refine Wl_cutN 3 (fun ρ w' => ∃ (x35 : Bool), (x35) = o36 ∧ Agree ρ [(0, .slice A0 a0.length c0), (2, .int .i64 a2), (4, .pointer (some ⟨b1, 0, none⟩)), (7, .slice A13 (([a1] : List api_Version) ++ a0).length c14), (27, .bool x35)] ∧ Ext w w' ∧ St w' M F [Row r_api_Version 27 (.slice A13 (([a1] : List api_Version) ++ a0).length c14) (([a1] : List api_Version) ++ a0), Blk b1 (.cells #[.int .i64 a1.Writer, .int .i64 a1.TS, .bool a1.Tomb, .string (bs a1.Value)] 27 (0, 0))]) ?_ ?_
  · have H := o36h
    rcases iteS H with ⟨hb34, H⟩ | ⟨hb34, H⟩
    · skip
      refine W_no (skF hb34) rfl ?_
      refine W_no (skF hb34) rfl ?_
      refine W_v (.bool true) (x_pick (k := true) (congrArg Value.bool hb34) rfl) rfl ?_
      refine Wl_nil ?_
      exact ⟨true, Option.some.inj H, ⟨rfl, rfl, rfl, rfl, rfl, trivial⟩, E, S.pick [0, 1] (by decide)⟩
    · skip
      refine W_yes (congrArg some hb34) ?_
      obtain ⟨t37, ht38, H⟩ := bindS H
      refine W_callF fn10 (ferrymanlaw11_awake.con k M  t37  ht38) S rfl rfl (by rintro _ _ _ ⟨_, rfl⟩; exact flat_nil) ?_
      rintro _ w39 _ Γ' E' S ⟨rfl, rfl⟩
      replace E := E.trans E'
      clear E'
      refine W_yes (congrArg some hb34) ?_
      refine W_v (.bool (!t37)) (x_not rfl) rfl ?_
      refine W_v (.bool (!t37)) (x_pick (k := false) (congrArg Value.bool hb34) rfl) rfl ?_
      refine Wl_nil ?_
      exact ⟨(!t37), Option.some.inj H, ⟨rfl, rfl, rfl, rfl, rfl, trivial⟩, E, S.pick [0, 1] (by decide)⟩
  clear o36h
  rintro ρ w40 ⟨x35, rfl, hρ, E, S⟩
  rw [agree_eta hρ]
  clear hρ
  have H := o36H
  clear o36H
  refine Wl_nil ?_
  refine tn ?_
  rcases iteS H with ⟨hb41, H⟩ | ⟨hb41, H⟩
  · refine Wp_cond_true (congrArg Value.bool hb41) ?_
    refine Wp_seq ?_
    refine Wp_region_lit ?_
    obtain ⟨t42, ht43, H⟩ := bindS H
    refine W_callF fn10 (ferrymanlaw11_awake.con k M  t42  ht43) S rfl rfl (by rintro _ _ _ ⟨_, rfl⟩; exact flat_nil) ?_
    rintro _ w44 _ Γ' E' S ⟨rfl, rfl⟩
    replace E := E.trans E'
    clear E'
    refine W_v (.bool t42) (x_assign rfl) rfl ?_
    refine Wl_nil ?_
    refine tn ?_
    refine Wp_ret ?_
    refine tr (?_)
    obtain rfl := Option.some.inj H
    exact ⟨_, _, _, fun w1 e1 => run_resR (vs := [.bool t42]) (FA.cons (rfl) (FA.nil)), HM, E, S.pick [] (by decide), ⟨rfl, rfl⟩⟩
  refine Wp_cond_false (congrArg Value.bool hb41) ?_
  refine Wp_skip ?_
  refine tn ?_
  refine Wp_seq ?_
  refine Wp_region_lit ?_
  refine W_v (.slice A13 (([a1] : List api_Version) ++ a0).length c14) (x_move rfl) rfl ?_
  refine W_v (.int .i64 a2) (x_move rfl) rfl ?_
  obtain ⟨t45, ht46, H⟩ := bindS H
  refine W_callN 1 fn12 (fun h9 hs9 hd9 => keep_Seen.con k _ A13 c14 (([a1] : List api_Version) ++ a0) a2 t45 (Sats.row hs9 hd9 0 rfl) ht46) S rfl rfl (by rintro _ _ _ ⟨_, rfl⟩; exact flat_nil) ?_
  rintro _ w47 _ Γ' E' S ⟨rfl, rfl⟩
  replace E := E.trans E'
  clear E'
  refine W_v (.tuple #[.agg #[.int .i64 t45.1.Writer, .int .i64 t45.1.TS, .bool t45.1.Tomb, .string (bs t45.1.Value)], .bool t45.2]) (x_move rfl) rfl ?_
  refine W_v (.agg #[.int .i64 t45.1.Writer, .int .i64 t45.1.TS, .bool t45.1.Tomb, .string (bs t45.1.Value)]) (x_extract rfl rfl) rfl ?_
  refine W_v (.bool t45.2) (x_extract rfl rfl) rfl ?_
  refine W_alloc S #[.int .i64 0, .int .i64 0, .bool false, .string (bs ([] : Str))] ty27 rfl rfl ?_
  intro b48 w49 E' S
  replace E := E.trans E'
  clear E'
  refine W_store S 0 rfl ty27 rfl rfl [.int .i64 t45.1.Writer, .int .i64 t45.1.TS, .bool t45.1.Tomb, .string (bs t45.1.Value)] rfl rfl rfl #[.int .i64 t45.1.Writer, .int .i64 t45.1.TS, .bool t45.1.Tomb, .string (bs t45.1.Value)] rfl rfl ?_
  intro w51 E' S
  replace E := E.trans E'
  clear E'
  refine W_v (.bool t45.2) (x_assign rfl) rfl ?_
  refine Wl_nil ?_
  refine tn ?_
  refine Wp_seq ?_
  refine Wp_seq ?_
  refine Wp_region_lit ?_
  refine W_v (.int .i64 a2) (x_move rfl) rfl ?_
  refine W_v (.pointer (some ⟨b1, 1, none⟩)) (x_fieldAddr (o := 0) (off := 1) Try.underlying27 rfl ty3 rfl rfl) rfl ?_
  refine W_v (.int .i64 a1.TS) (x_load (S.blk 2 rfl) ty3 rfl rfl) rfl ?_
  refine W_v (.bool (decide (a2 ≥ a1.TS))) (x_ibin rfl rfl rfl rfl) rfl ?_
  refine Wl_nil ?_
  refine tn ?_
  rcases iteS H with ⟨hb52, H⟩ | ⟨hb52, H⟩
  · refine Wp_cond_true (congrArg Value.bool hb52) ?_
    refine Wp_seq ?_
    refine Wp_region_lit ?_
    refine W_v (.bool t45.2) (x_move rfl) rfl ?_
    refine W_v (.pointer (some ⟨b1, 2, none⟩)) (x_fieldAddr (o := 0) (off := 2) Try.underlying27 rfl ty4 rfl rfl) rfl ?_
    refine W_v (.bool a1.Tomb) (x_load (S.blk 2 rfl) ty4 rfl rfl) rfl ?_
    refine W_v (.bool (!a1.Tomb)) (x_not rfl) rfl ?_
    refine W_v (.bool (t45.2 == (!a1.Tomb))) (x_beq Try.underlying4 rfl rfl) rfl ?_
    refine W_v (.bool (t45.2 == (!a1.Tomb))) (x_move rfl) rfl ?_
    refine Wl_cutN 8 (fun ρ w' => Agree ρ [(2, .int .i64 a2), (7, .slice A13 (([a1] : List api_Version) ++ a0).length c14), (52, .bool ((t45.2 == (!a1.Tomb)) && ((!t45.2) || ((t45.1.Writer == a1.Writer) && ((t45.1.TS == a1.TS) && ((t45.1.Tomb == a1.Tomb) && (t45.1.Value == a1.Value)))))))] ∧ w51 = w') ?_ ?_
    · rcases boolCases (t45.2 == (!a1.Tomb)) with hb55 | hb55
      · skip
        refine W_no (skT hb55) rfl ?_
        refine W_no (skT hb55) rfl ?_
        refine W_no (skT hb55) rfl ?_
        refine W_no (rfl) rfl ?_
        refine W_no (rfl) rfl ?_
        refine W_no (rfl) rfl ?_
        refine W_no (skT hb55) rfl ?_
        refine W_v (.bool false) (x_pick (k := false) (congrArg Value.bool hb55) rfl) rfl ?_
        refine Wl_nil ?_
        exact ⟨⟨rfl, rfl, (by first | rfl | (rw [hb55]; rfl) | (simp only [hb55]; rfl)), trivial⟩, rfl⟩
      · skip
        refine W_yes (congrArg some hb55) ?_
        refine W_v (.bool t45.2) (x_move rfl) rfl ?_
        refine W_yes (congrArg some hb55) ?_
        refine W_v (.bool (!t45.2)) (x_not rfl) rfl ?_
        refine W_yes (congrArg some hb55) ?_
        refine W_v (.bool (!t45.2)) (x_move rfl) rfl ?_
        refine Wl_cutN 4 (fun ρ w' => Agree ρ [(2, .int .i64 a2), (7, .slice A13 (([a1] : List api_Version) ++ a0).length c14), (44, .bool (t45.2 == (!a1.Tomb))), (51, .bool ((!t45.2) || ((t45.1.Writer == a1.Writer) && ((t45.1.TS == a1.TS) && ((t45.1.Tomb == a1.Tomb) && (t45.1.Value == a1.Value))))))] ∧ w51 = w') ?_ ?_
        · rcases boolCases (!t45.2) with hb56 | hb56
          · skip
            refine W_yes (congrArg some hb56) ?_
            refine W_v (.agg #[.int .i64 t45.1.Writer, .int .i64 t45.1.TS, .bool t45.1.Tomb, .string (bs t45.1.Value)]) (x_loadA (S.blk 0 rfl) ty27 rfl (sub_of_extract rfl) rfl rfl) rfl ?_
            refine W_yes (congrArg some hb56) ?_
            refine W_v (.agg #[.int .i64 a1.Writer, .int .i64 a1.TS, .bool a1.Tomb, .string (bs a1.Value)]) (x_loadA (S.blk 2 rfl) ty27 rfl (sub_of_extract rfl) rfl rfl) rfl ?_
            refine W_yes (congrArg some hb56) ?_
            refine W_v (.bool ((t45.1.Writer == a1.Writer) && ((t45.1.TS == a1.TS) && ((t45.1.Tomb == a1.Tomb) && (t45.1.Value == a1.Value))))) (x_eq_of (eg27 _ _ _ _) rfl (eq27 _ t45.1.Writer t45.1.TS t45.1.Tomb t45.1.Value a1.Writer a1.TS a1.Tomb a1.Value)) rfl ?_
            refine W_yes (congrArg some hb55) ?_
            refine W_v (.bool ((t45.1.Writer == a1.Writer) && ((t45.1.TS == a1.TS) && ((t45.1.Tomb == a1.Tomb) && (t45.1.Value == a1.Value))))) (x_pick (k := false) (congrArg Value.bool hb56) rfl) rfl ?_
            refine Wl_nil ?_
            exact ⟨⟨rfl, rfl, rfl, (by first | rfl | (rw [hb56]; rfl) | (simp only [hb56]; rfl)), trivial⟩, rfl⟩
          · skip
            refine W_no (skF hb56) rfl ?_
            refine W_no (skF hb56) rfl ?_
            refine W_no (skF hb56) rfl ?_
            refine W_yes (congrArg some hb55) ?_
            refine W_v (.bool true) (x_pick (k := true) (congrArg Value.bool hb56) rfl) rfl ?_
            refine Wl_nil ?_
            exact ⟨⟨rfl, rfl, rfl, (by first | rfl | (rw [hb56]; rfl) | (simp only [hb56]; rfl)), trivial⟩, rfl⟩
        rintro ρ _ ⟨hρ, rfl⟩
        rw [agree_eta hρ]
        clear hρ
        refine W_v (.bool ((!t45.2) || ((t45.1.Writer == a1.Writer) && ((t45.1.TS == a1.TS) && ((t45.1.Tomb == a1.Tomb) && (t45.1.Value == a1.Value)))))) (x_pick (k := true) (congrArg Value.bool hb55) rfl) rfl ?_
        refine Wl_nil ?_
        exact ⟨⟨rfl, rfl, (by first | rfl | (rw [hb55]; rfl) | (simp only [hb55]; rfl)), trivial⟩, rfl⟩
    rintro ρ _ ⟨hρ, rfl⟩
    rw [agree_eta hρ]
    clear hρ
    refine W_v (.bool ((t45.2 == (!a1.Tomb)) && ((!t45.2) || ((t45.1.Writer == a1.Writer) && ((t45.1.TS == a1.TS) && ((t45.1.Tomb == a1.Tomb) && (t45.1.Value == a1.Value))))))) (x_move rfl) rfl ?_
    obtain ⟨o65, o65h, o65H⟩ := bindS H
    clear H
    refine Wl_cutN 5 (fun ρ w' => ∃ (x64 : Bool), (x64) = o65 ∧ Agree ρ [(58, .bool x64)] ∧ Ext w w' ∧ St w' M F []) ?_ ?_
    · have H := o65h
      rcases iteS H with ⟨hb63, H⟩ | ⟨hb63, H⟩
      · skip
        refine W_yes (congrArg some hb63) ?_
        refine W_v (.slice A13 (([a1] : List api_Version) ++ a0).length c14) (x_move rfl) rfl ?_
        refine W_yes (congrArg some hb63) ?_
        refine W_v (.int .i64 a2) (x_move rfl) rfl ?_
        refine W_yes (congrArg some hb63) ?_
        replace S : St w51 M F [Row r_api_Version 27 (.slice A13 (([a1] : List api_Version) ++ a0).length c14) (([a1] : List api_Version) ++ a0), Blk b48 (.cells #[.int .i64 t45.1.Writer, .int .i64 t45.1.TS, .bool t45.1.Tomb, .string (bs t45.1.Value)] 27 (0, 0)), Blk b1 (.cells #[.int .i64 a1.Writer, .int .i64 a1.TS, .bool a1.Tomb, .string (bs a1.Value)] 27 (0, 0))] := S.pick [1, 0, 2] (by decide)
        obtain ⟨t66, ht67, H⟩ := bindS H
        refine W_callN 1 fn13 (fun h9 hs9 hd9 => keep_Clash.con k _ A13 c14 (([a1] : List api_Version) ++ a0) a2 t66 (Sats.row hs9 hd9 0 rfl) ht67) S rfl rfl (by rintro _ _ _ ⟨_, rfl⟩; exact flat_nil) ?_
        rintro _ w68 _ Γ' E' S ⟨rfl, rfl⟩
        replace E := E.trans E'
        clear E'
        refine W_yes (congrArg some hb63) ?_
        refine W_v (.bool (!t66)) (x_not rfl) rfl ?_
        refine W_v (.bool (!t66)) (x_pick (k := true) (congrArg Value.bool hb63) rfl) rfl ?_
        refine Wl_nil ?_
        exact ⟨(!t66), Option.some.inj H, ⟨rfl, trivial⟩, E, S.pick [] (by decide)⟩
      · skip
        refine W_no (skT hb63) rfl ?_
        refine W_no (skT hb63) rfl ?_
        refine W_no (skT hb63) rfl ?_
        refine W_no (skT hb63) rfl ?_
        refine W_v (.bool false) (x_pick (k := false) (congrArg Value.bool hb63) rfl) rfl ?_
        refine Wl_nil ?_
        exact ⟨false, Option.some.inj H, ⟨rfl, trivial⟩, E, S.pick [] (by decide)⟩
    clear o65h
    rintro ρ w69 ⟨x64, rfl, hρ, E, S⟩
    rw [agree_eta hρ]
    clear hρ
    have H := o65H
    clear o65H
    refine W_v (.bool x64) (x_assign rfl) rfl ?_
    refine Wl_nil ?_
    refine tn ?_
    refine Wp_ret ?_
    refine tr (?_)
    obtain rfl := Option.some.inj H
    exact ⟨_, _, _, fun w1 e1 => run_resR (vs := [.bool x64]) (FA.cons (rfl) (FA.nil)), HM, E, S.pick [] (by decide), ⟨rfl, rfl⟩⟩
  refine Wp_cond_false (congrArg Value.bool hb52) ?_
  refine Wp_skip ?_
  refine tn ?_
  refine Wp_seq ?_
  refine Wp_region_lit ?_
  refine W_v (.slice A0 a0.length c0) (x_move rfl) rfl ?_
  refine W_v (.int .i64 a2) (x_move rfl) rfl ?_
  obtain ⟨t70, ht71, H⟩ := bindS H
  refine W_callF fn12 (keep_Seen.con k M A0 c0 a0 a2 t70 hr0 ht71) S rfl rfl (by rintro _ _ _ ⟨_, rfl⟩; exact flat_nil) ?_
  rintro _ w72 _ Γ' E' S ⟨rfl, rfl⟩
  replace E := E.trans E'
  clear E'
  refine W_v (.tuple #[.agg #[.int .i64 t70.1.Writer, .int .i64 t70.1.TS, .bool t70.1.Tomb, .string (bs t70.1.Value)], .bool t70.2]) (x_move rfl) rfl ?_
  refine W_v (.agg #[.int .i64 t70.1.Writer, .int .i64 t70.1.TS, .bool t70.1.Tomb, .string (bs t70.1.Value)]) (x_extract rfl rfl) rfl ?_
  refine W_v (.bool t70.2) (x_extract rfl rfl) rfl ?_
  refine W_alloc S #[.int .i64 0, .int .i64 0, .bool false, .string (bs ([] : Str))] ty27 rfl rfl ?_
  intro b73 w74 E' S
  replace E := E.trans E'
  clear E'
  refine W_store S 0 rfl ty27 rfl rfl [.int .i64 t70.1.Writer, .int .i64 t70.1.TS, .bool t70.1.Tomb, .string (bs t70.1.Value)] rfl rfl rfl #[.int .i64 t70.1.Writer, .int .i64 t70.1.TS, .bool t70.1.Tomb, .string (bs t70.1.Value)] rfl rfl ?_
  intro w76 E' S
  replace E := E.trans E'
  clear E'
  refine W_v (.bool t70.2) (x_assign rfl) rfl ?_
  refine Wl_nil ?_
  refine tn ?_
  refine Wp_seq ?_
  refine Wp_region_lit ?_
  refine W_v (.agg #[.int .i64 t45.1.Writer, .int .i64 t45.1.TS, .bool t45.1.Tomb, .string (bs t45.1.Value)]) (x_loadA (S.blk 1 rfl) ty27 rfl (sub_of_extract rfl) rfl rfl) rfl ?_
  refine W_v (.agg #[.int .i64 t70.1.Writer, .int .i64 t70.1.TS, .bool t70.1.Tomb, .string (bs t70.1.Value)]) (x_loadA (S.blk 0 rfl) ty27 rfl (sub_of_extract rfl) rfl rfl) rfl ?_
  refine W_v (.bool ((t45.1.Writer == t70.1.Writer) && ((t45.1.TS == t70.1.TS) && ((t45.1.Tomb == t70.1.Tomb) && (t45.1.Value == t70.1.Value))))) (x_eq_of (eg27 _ _ _ _) rfl (eq27 _ t45.1.Writer t45.1.TS t45.1.Tomb t45.1.Value t70.1.Writer t70.1.TS t70.1.Tomb t70.1.Value)) rfl ?_
  refine W_v (.bool ((t45.1.Writer == t70.1.Writer) && ((t45.1.TS == t70.1.TS) && ((t45.1.Tomb == t70.1.Tomb) && (t45.1.Value == t70.1.Value))))) (x_move rfl) rfl ?_
  refine Wl_cutN 4 (fun ρ w' => Agree ρ [(2, .int .i64 a2), (7, .slice A13 (([a1] : List api_Version) ++ a0).length c14), (72, .bool (((t45.1.Writer == t70.1.Writer) && ((t45.1.TS == t70.1.TS) && ((t45.1.Tomb == t70.1.Tomb) && (t45.1.Value == t70.1.Value)))) && (t45.2 == t70.2)))] ∧ w76 = w') ?_ ?_
  · rcases boolCases ((t45.1.Writer == t70.1.Writer) && ((t45.1.TS == t70.1.TS) && ((t45.1.Tomb == t70.1.Tomb) && (t45.1.Value == t70.1.Value)))) with hb77 | hb77
    · skip
      refine W_no (skT hb77) rfl ?_
      refine W_no (skT hb77) rfl ?_
      refine W_no (skT hb77) rfl ?_
      refine W_v (.bool false) (x_pick (k := false) (congrArg Value.bool hb77) rfl) rfl ?_
      refine Wl_nil ?_
      exact ⟨⟨rfl, rfl, (by first | rfl | (rw [hb77]; rfl) | (simp only [hb77]; rfl)), trivial⟩, rfl⟩
    · skip
      refine W_yes (congrArg some hb77) ?_
      refine W_v (.bool t45.2) (x_move rfl) rfl ?_
      refine W_yes (congrArg some hb77) ?_
      refine W_v (.bool t70.2) (x_move rfl) rfl ?_
      refine W_yes (congrArg some hb77) ?_
      refine W_v (.bool (t45.2 == t70.2)) (x_beq Try.underlying4 rfl rfl) rfl ?_
      refine W_v (.bool (t45.2 == t70.2)) (x_pick (k := true) (congrArg Value.bool hb77) rfl) rfl ?_
      refine Wl_nil ?_
      exact ⟨⟨rfl, rfl, (by first | rfl | (rw [hb77]; rfl) | (simp only [hb77]; rfl)), trivial⟩, rfl⟩
  rintro ρ _ ⟨hρ, rfl⟩
  rw [agree_eta hρ]
  clear hρ
  refine W_v (.bool (((t45.1.Writer == t70.1.Writer) && ((t45.1.TS == t70.1.TS) && ((t45.1.Tomb == t70.1.Tomb) && (t45.1.Value == t70.1.Value)))) && (t45.2 == t70.2))) (x_move rfl) rfl ?_
  obtain ⟨o86, o86h, o86H⟩ := bindS H
  clear H
  refine Wl_cutN 4 (fun ρ w' => ∃ (x85 : Bool), (x85) = o86 ∧ Agree ρ [(77, .bool x85)] ∧ Ext w w' ∧ St w' M F []) ?_ ?_
  · have H := o86h
    rcases iteS H with ⟨hb84, H⟩ | ⟨hb84, H⟩
    · skip
      refine W_yes (congrArg some hb84) ?_
      refine W_v (.slice A13 (([a1] : List api_Version) ++ a0).length c14) (x_move rfl) rfl ?_
      refine W_yes (congrArg some hb84) ?_
      refine W_v (.int .i64 a2) (x_move rfl) rfl ?_
      refine W_yes (congrArg some hb84) ?_
      replace S : St w76 M F [Row r_api_Version 27 (.slice A13 (([a1] : List api_Version) ++ a0).length c14) (([a1] : List api_Version) ++ a0), Blk b73 (.cells #[.int .i64 t70.1.Writer, .int .i64 t70.1.TS, .bool t70.1.Tomb, .string (bs t70.1.Value)] 27 (0, 0)), Blk b48 (.cells #[.int .i64 t45.1.Writer, .int .i64 t45.1.TS, .bool t45.1.Tomb, .string (bs t45.1.Value)] 27 (0, 0)), Blk b1 (.cells #[.int .i64 a1.Writer, .int .i64 a1.TS, .bool a1.Tomb, .string (bs a1.Value)] 27 (0, 0))] := S.pick [2, 0, 1, 3] (by decide)
      obtain ⟨t87, ht88, H⟩ := bindS H
      refine W_callN 1 fn13 (fun h9 hs9 hd9 => keep_Clash.con k _ A13 c14 (([a1] : List api_Version) ++ a0) a2 t87 (Sats.row hs9 hd9 0 rfl) ht88) S rfl rfl (by rintro _ _ _ ⟨_, rfl⟩; exact flat_nil) ?_
      rintro _ w89 _ Γ' E' S ⟨rfl, rfl⟩
      replace E := E.trans E'
      clear E'
      refine W_v (.bool t87) (x_pick (k := true) (congrArg Value.bool hb84) rfl) rfl ?_
      refine Wl_nil ?_
      exact ⟨t87, Option.some.inj H, ⟨rfl, trivial⟩, E, S.pick [] (by decide)⟩
    · skip
      refine W_no (skT hb84) rfl ?_
      refine W_no (skT hb84) rfl ?_
      refine W_no (skT hb84) rfl ?_
      refine W_v (.bool false) (x_pick (k := false) (congrArg Value.bool hb84) rfl) rfl ?_
      refine Wl_nil ?_
      exact ⟨false, Option.some.inj H, ⟨rfl, trivial⟩, E, S.pick [] (by decide)⟩
  clear o86h
  rintro ρ w90 ⟨x85, rfl, hρ, E, S⟩
  rw [agree_eta hρ]
  clear hρ
  have H := o86H
  clear o86H
  refine W_v (.bool x85) (x_assign rfl) rfl ?_
  refine Wl_nil ?_
  refine tn ?_
  refine Wp_ret ?_
  obtain rfl := Option.some.inj H
  exact ⟨_, _, _, fun w1 e1 => run_resR (vs := [.bool x85]) (FA.cons (rfl) (FA.nil)), HM, E, S.pick [] (by decide), ⟨rfl, rfl⟩⟩
end Go.Proofs.Ytmoackfjfklfaaa
