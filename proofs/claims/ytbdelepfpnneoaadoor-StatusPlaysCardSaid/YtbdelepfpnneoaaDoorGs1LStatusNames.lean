import Derived.Test.YtbdelepfpnneoaaDoorGs1
namespace Go.Proofs.YtbdelepfpnneoaaDoor
open Go
set_option linter.unusedVariables false
set_option linter.unusedSimpArgs false
/-! ### ferryman/ferrymanlaw08.StatusNames: function 4 -/
def ferrymanlaw08_StatusNames (k : Nat)  : Option (Bool) :=
  (Option.bind (ferrymanlaw08_works k ) (fun t1 => (Option.bind (α := Bool) (if (cond (cond (cond (cond (cond (cond (!t1) true false) true false) true false) true false) true false) true false) = true then some (true) else (Option.bind (status_Writers_Begin_Z k ) (fun t17 => some ((t17 != (0 : Int)))))) (fun x15 => (Option.bind (α := Bool) (if x15 = true then some (true) else (Option.bind (status_Writers_Commit_Z k (1 : Int) (1 : Int)) (fun t36 => some ((t36 != (2 : Int)))))) (fun x34 => (Option.bind (α := Bool) (if x34 = true then some (true) else (Option.bind (status_Writers_Fall_Z k (1 : Int)) (fun t55 => some ((t55 != (2 : Int)))))) (fun x53 => (Option.bind (α := Bool) (if x53 = true then some (true) else (Option.bind (status_Writers_Fallen_Z k (1 : Int)) (fun t74 => some ((t74 != (2 : Int)))))) (fun x72 => (Option.bind (α := Bool) (if x72 = true then some (true) else (Option.bind (ferrymanlaw08_is_Z k (1 : Int) (0 : Int) (0 : Int)) (fun t93 => some ((!t93))))) (fun x91 => (Option.bind (α := Bool) (if x91 = true then some (true) else (Option.bind (status_Writers_Busy_Z k ) (fun t118 => some (((t118.length : Int) != (0 : Int)))))) (fun x116 => (Option.bind (α := Bool) (if x116 = true then some (true) else (Option.bind (status_Writers_Active_Z k ) (fun t160 => (Option.bind (status_Writers_High_Z k ) (fun t165 => (Option.bind (status_Writers_Last_Z k ) (fun t170 => some (((IntKind.i64.wrap ((IntKind.i64.wrap (t160 + t165)) + t170)) != (0 : Int)))))))))) (fun x158 => (Option.bind (α := Bool) (if x158 = true then some (true) else (Option.bind (status_Writers_Copy_Z k ) (fun t189 => some (false)))) (fun x187 => (if x187 = true then some false else (Option.bind (status_New k ) (fun t196 => (Option.bind (status_Writers_High_PO k t196) (fun t206 => (Option.bind (α := Bool) (if (t206 != (1 : Int)) = true then some (true) else (Option.bind (status_Writers_Last_PO k t196) (fun t224 => some ((t224 != (0 : Int)))))) (fun x222 => (Option.bind (α := Bool × List status_writer × Int) (if x222 = true then some (true, t196.l, t196.last) else (Option.bind (status_Writers_Commit_PO k t196 (1 : Int) (1 : Int)) (fun t254 => some ((t254.1 != (5 : Int)), t254.2.l, t254.2.last)))) (fun ⟨x247, x248, x252⟩ => (Option.bind (α := Bool × List status_writer × Int) (if x247 = true then some (true, x248, x252) else (Option.bind (status_Writers_Fall_PO k (⟨x248, x252⟩ : status_Writers) (0 : Int)) (fun t287 => some ((t287.1 != (5 : Int)), t287.2.l, t287.2.last)))) (fun ⟨x280, x281, x285⟩ => (Option.bind (α := Bool × List status_writer × Int) (if x280 = true then some (true, x281, x285) else (Option.bind (status_Writers_Fallen_PO k (⟨x281, x285⟩ : status_Writers) (-1 : Int)) (fun t320 => some ((t320.1 != (5 : Int)), t320.2.l, t320.2.last)))) (fun ⟨x313, x314, x318⟩ => (Option.bind (α := Bool × List status_writer × Int) (if x313 = true then some (true, x314, x318) else (Option.bind (status_Writers_Begin_PO k (⟨x314, x318⟩ : status_Writers)) (fun t353 => some ((t353.1 != (1 : Int)), t353.2.l, t353.2.last)))) (fun ⟨x346, x347, x351⟩ => (Option.bind (α := Bool) (if x346 = true then some (true) else (Option.bind (ferrymanlaw08_is_PO k (⟨x347, x351⟩ : status_Writers) (1 : Int) (1 : Int) (0 : Int)) (fun t375 => some ((!t375))))) (fun x373 => (Option.bind (α := Bool × List status_writer × Int) (if x373 = true then some (true, x347, x351) else (Option.bind (status_Writers_Fallen_PO k (⟨x347, x351⟩ : status_Writers) (1 : Int)) (fun t405 => some ((t405.1 != (7 : Int)), t405.2.l, t405.2.last)))) (fun ⟨x398, x399, x403⟩ => (Option.bind (α := Bool × List status_writer × Int) (if x398 = true then some (true, x399, x403) else (Option.bind (status_Writers_Commit_PO k (⟨x399, x403⟩ : status_Writers) (1 : Int) (-1 : Int)) (fun t438 => some ((t438.1 != (1 : Int)), t438.2.l, t438.2.last)))) (fun ⟨x431, x432, x436⟩ => (Option.bind (α := Bool × List status_writer × Int) (if x431 = true then some (true, x432, x436) else (Option.bind (status_Writers_Commit_PO k (⟨x432, x436⟩ : status_Writers) (1 : Int) (1048577 : Int)) (fun t471 => some ((t471.1 != (1 : Int)), t471.2.l, t471.2.last)))) (fun ⟨x464, x465, x469⟩ => (Option.bind (α := Bool × List status_writer × Int) (if x464 = true then some (true, x465, x469) else (Option.bind (status_Writers_Commit_PO k (⟨x465, x469⟩ : status_Writers) (1 : Int) (1048576 : Int)) (fun t504 => some ((t504.1 != (0 : Int)), t504.2.l, t504.2.last)))) (fun ⟨x497, x498, x502⟩ => (Option.bind (α := Bool × List status_writer × Int) (if x497 = true then some (true, x498, x502) else (Option.bind (status_Writers_Fall_PO k (⟨x498, x502⟩ : status_Writers) (1 : Int)) (fun t537 => some ((t537.1 != (7 : Int)), t537.2.l, t537.2.last)))) (fun ⟨x530, x531, x535⟩ => (if x530 = true then some false else (Option.bind (status_Writers_Begin_PO k (⟨x531, x535⟩ : status_Writers)) (fun t547 => (Option.bind (α := Bool × List status_writer × Int) (if (t547.1 != (2 : Int)) = true then some (true, t547.2.l, t547.2.last) else (Option.bind (status_Writers_Commit_PO k t547.2 (2 : Int) (1048576 : Int)) (fun t579 => some ((t579.1 != (1 : Int)), t579.2.l, t579.2.last)))) (fun ⟨x572, x573, x577⟩ => (Option.bind (α := Bool × List status_writer × Int) (if x572 = true then some (true, x573, x577) else (Option.bind (status_Writers_Commit_PO k (⟨x573, x577⟩ : status_Writers) (2 : Int) (0 : Int)) (fun t612 => some ((t612.1 != (0 : Int)), t612.2.l, t612.2.last)))) (fun ⟨x605, x606, x610⟩ => (Option.bind (α := Bool) (if x605 = true then some (true) else (Option.bind (ferrymanlaw08_is_PO k (⟨x606, x610⟩ : status_Writers) (2 : Int) (3 : Int) (0 : Int)) (fun t634 => some ((!t634))))) (fun x632 => (Option.bind (α := Bool) (if x632 = true then some (true) else (Option.bind (status_Writers_Last_PO k (⟨x606, x610⟩ : status_Writers)) (fun t653 => some ((t653 != (1048576 : Int)))))) (fun x651 => (Option.bind (α := Bool × List status_writer × Int) (if x651 = true then some (true, x606, x610) else (Option.bind (status_Writers_Begin_PO k (⟨x606, x610⟩ : status_Writers)) (fun t683 => some ((t683.1 != (3 : Int)), t683.2.l, t683.2.last)))) (fun ⟨x676, x677, x681⟩ => (Option.bind (α := Bool × List status_writer × Int) (if x676 = true then some (true, x677, x681) else (Option.bind (status_Writers_Fall_PO k (⟨x677, x681⟩ : status_Writers) (3 : Int)) (fun t716 => some ((t716.1 != (0 : Int)), t716.2.l, t716.2.last)))) (fun ⟨x709, x710, x714⟩ => (Option.bind (α := Bool × List status_writer × Int) (if x709 = true then some (true, x710, x714) else (Option.bind (status_Writers_Fall_PO k (⟨x710, x714⟩ : status_Writers) (3 : Int)) (fun t749 => some ((t749.1 != (7 : Int)), t749.2.l, t749.2.last)))) (fun ⟨x742, x743, x747⟩ => (Option.bind (α := Bool) (if x742 = true then some (true) else (Option.bind (ferrymanlaw08_is_PO k (⟨x743, x747⟩ : status_Writers) (3 : Int) (2 : Int) (0 : Int)) (fun t771 => some ((!t771))))) (fun x769 => (Option.bind (α := Bool × List status_writer × Int) (if x769 = true then some (true, x743, x747) else (Option.bind (status_Writers_Fallen_PO k (⟨x743, x747⟩ : status_Writers) (3 : Int)) (fun t801 => some ((t801.1 != (0 : Int)), t801.2.l, t801.2.last)))) (fun ⟨x794, x795, x799⟩ => (if x794 = true then some false else (Option.bind (status_Writers_Fallen_PO k (⟨x795, x799⟩ : status_Writers) (3 : Int)) (fun t811 => (Option.bind (α := Bool × List status_writer × Int) (if (t811.1 == (7 : Int)) = true then (Option.bind (status_Writers_Commit_PO k t811.2 (3 : Int) (0 : Int)) (fun t843 => some ((t843.1 == (7 : Int)), t843.2.l, t843.2.last))) else some (false, t811.2.l, t811.2.last)) (fun ⟨x836, x837, x841⟩ => (Option.bind (α := Bool) (if x836 = true then (Option.bind (status_Writers_Commit_PO k (⟨x837, x841⟩ : status_Writers) (4 : Int) (0 : Int)) (fun t876 => some ((t876.1 == (5 : Int))))) else some (false)) (fun x869 => some x869)))))))))))))))))))))))))))))))))))))))))))))))))))))))))))))))))))))))))
set_option maxHeartbeats 2000000 in
theorem ferrymanlaw08_StatusNames.mono {k : Nat}  : OLe (ferrymanlaw08_StatusNames k ) (ferrymanlaw08_StatusNames (k + 1) ) := by
  unfold ferrymanlaw08_StatusNames
  repeat' (first | with_reducible exact OLe.none | with_reducible exact OLe.some | with_reducible refine OLe.ite ?_ ?_ | with_reducible refine OLe.bind ?_ (fun _ => ?_) | with_reducible exact ferrymanlaw08_is_PO.mono | with_reducible exact ferrymanlaw08_is_Z.mono | with_reducible exact ferrymanlaw08_works.mono | with_reducible exact status_New.mono | with_reducible exact status_Writers_Active_Z.mono | with_reducible exact status_Writers_Begin_PO.mono | with_reducible exact status_Writers_Begin_Z.mono | with_reducible exact status_Writers_Busy_Z.mono | with_reducible exact status_Writers_Commit_PO.mono | with_reducible exact status_Writers_Commit_Z.mono | with_reducible exact status_Writers_Copy_Z.mono | with_reducible exact status_Writers_Fall_PO.mono | with_reducible exact status_Writers_Fall_Z.mono | with_reducible exact status_Writers_Fallen_PO.mono | with_reducible exact status_Writers_Fallen_Z.mono | with_reducible exact status_Writers_High_PO.mono | with_reducible exact status_Writers_High_Z.mono | with_reducible exact status_Writers_Last_PO.mono | with_reducible exact status_Writers_Last_Z.mono | refine OLe.bind ?_ (fun _ => ?_) | refine OLe.ite ?_ ?_ | refine OLe.elim (fun _ => ?_) (fun _ => ?_) | split)
set_option maxHeartbeats 8000000 in
set_option maxRecDepth 100000 in
theorem ferrymanlaw08_StatusNames.con (k : Nat) (M : Hp)  (r : Bool)  (hg0 : ∃ gt fr, M 0 = some (.cells #[.int .u8 0, .int .u8 0, .int .u8 1, .int .u8 1, .int .u8 2] gt fr)) (h : ferrymanlaw08_StatusNames k  = some r) : Con Tryd.prog 4 #[] M [] (fun v M' Γ' => v = .bool r ∧ Γ' = []) := by
  refine con_of_wp Tryd.func4 rfl Tryd.ntmps4 Tryd.results4 rfl ?_
  intro w F rn S hrn
  have E := Ext.refl w
  have HM := Hp.le_refl M
  have H := h
  unfold ferrymanlaw08_StatusNames at H
  refine Wp_seq ?_
  refine Wp_region_lit ?_
  refine W_v (.bool false) (x_assign rfl) rfl ?_
  refine Wl_nil ?_
  refine tn ?_
  refine Wp_seq ?_
  refine Wp_region_lit ?_
  refine W_v (.pointer none) (x_assign rfl) rfl ?_
  refine Wl_nil ?_
  refine tn ?_
  refine Wp_seq ?_
  refine Wp_seq ?_
  refine Wp_region_lit ?_
  obtain ⟨t1, ht2, H⟩ := bindS H
  refine W_callF fn8 (ferrymanlaw08_works.con k M  t1 hg0 ht2) S rfl rfl (by rintro _ _ _ ⟨_, rfl⟩; exact flat_nil) ?_
  rintro _ w3 _ Γ' E' S ⟨rfl, rfl⟩
  replace E := E.trans E'
  clear E'
  refine W_v (.bool (!t1)) (x_not rfl) rfl ?_
  refine W_v (.bool (!t1)) (x_move rfl) rfl ?_
  refine W_v (.bool (cond (!t1) true false)) (x_pickB rfl rfl rfl) rfl ?_
  refine W_v (.bool (cond (!t1) true false)) (x_move rfl) rfl ?_
  refine W_v (.bool (cond (cond (!t1) true false) true false)) (x_pickB rfl rfl rfl) rfl ?_
  refine W_v (.bool (cond (cond (!t1) true false) true false)) (x_move rfl) rfl ?_
  refine W_v (.bool (cond (cond (cond (!t1) true false) true false) true false)) (x_pickB rfl rfl rfl) rfl ?_
  refine W_v (.bool (cond (cond (cond (!t1) true false) true false) true false)) (x_move rfl) rfl ?_
  refine W_v (.bool (cond (cond (cond (cond (!t1) true false) true false) true false) true false)) (x_pickB rfl rfl rfl) rfl ?_
  refine W_v (.bool (cond (cond (cond (cond (!t1) true false) true false) true false) true false)) (x_move rfl) rfl ?_
  refine W_v (.bool (cond (cond (cond (cond (cond (!t1) true false) true false) true false) true false) true false)) (x_pickB rfl rfl rfl) rfl ?_
  refine W_v (.bool (cond (cond (cond (cond (cond (!t1) true false) true false) true false) true false) true false)) (x_move rfl) rfl ?_
  refine W_v (.bool (cond (cond (cond (cond (cond (cond (!t1) true false) true false) true false) true false) true false) true false)) (x_pickB rfl rfl rfl) rfl ?_
  refine W_v (.bool (cond (cond (cond (cond (cond (cond (!t1) true false) true false) true false) true false) true false) true false)) (x_move rfl) rfl ?_
  obtain ⟨o16, o16h, o16H⟩ := bindS H
  clear H
  refine Wl_cutN 4 (fun ρ w' => ∃ (x15 : Bool), (x15) = o16 ∧ Agree ρ [(1, .pointer none), (21, .bool x15)] ∧ Ext w w' ∧ St w' M F []) ?_ ?_
  · have H := o16h
    rcases iteS H with ⟨hb14, H⟩ | ⟨hb14, H⟩
    · skip
      refine W_no (skF hb14) rfl ?_
      refine W_no (skF hb14) rfl ?_
      refine W_no (skF hb14) rfl ?_
      refine W_v (.bool true) (x_pick (k := true) (congrArg Value.bool hb14) rfl) rfl ?_
      refine Wl_nil ?_
      exact ⟨true, Option.some.inj H, ⟨rfl, rfl, trivial⟩, E, S.pick [] (by decide)⟩
    · skip
      refine W_yes (congrArg some hb14) ?_
      refine W_v (.pointer none) (x_move rfl) rfl ?_
      refine W_yes (congrArg some hb14) ?_
      obtain ⟨t17, ht18, H⟩ := bindS H
      refine W_callF2 fn16 (status_Writers_Begin_Z.con k M  t17 hg0 ht18) (Γ1 := []) (Γ2 := []) S rfl rfl (by rintro _ _ _ ⟨rfl, rfl⟩; exact flat_nil) ?_
      rintro _ w19 _ Γ' E' S ⟨rfl, rfl⟩
      replace E := E.trans E'
      clear E'
      replace S : St w19 M F [] := S
      refine W_yes (congrArg some hb14) ?_
      refine W_v (.bool (t17 != (0 : Int))) (x_ibin rfl rfl rfl rfl) rfl ?_
      refine W_v (.bool (t17 != (0 : Int))) (x_pick (k := false) (congrArg Value.bool hb14) rfl) rfl ?_
      refine Wl_nil ?_
      exact ⟨(t17 != (0 : Int)), Option.some.inj H, ⟨rfl, rfl, trivial⟩, E, S.pick [] (by decide)⟩
  clear o16h
  rintro ρ w22 ⟨x15, rfl, hρ, E, S⟩
  rw [agree_eta hρ]
  clear hρ
  have H := o16H
  clear o16H
  refine W_v (.bool x15) (x_move rfl) rfl ?_
  obtain ⟨o35, o35h, o35H⟩ := bindS H
  clear H
  refine Wl_cutN 4 (fun ρ w' => ∃ (x34 : Bool), (x34) = o35 ∧ Agree ρ [(1, .pointer none), (26, .bool x34)] ∧ Ext w w' ∧ St w' M F []) ?_ ?_
  · have H := o35h
    rcases iteS H with ⟨hb33, H⟩ | ⟨hb33, H⟩
    · skip
      refine W_no (skF hb33) rfl ?_
      refine W_no (skF hb33) rfl ?_
      refine W_no (skF hb33) rfl ?_
      refine W_v (.bool true) (x_pick (k := true) (congrArg Value.bool hb33) rfl) rfl ?_
      refine Wl_nil ?_
      exact ⟨true, Option.some.inj H, ⟨rfl, rfl, trivial⟩, E, S.pick [] (by decide)⟩
    · skip
      refine W_yes (congrArg some hb33) ?_
      refine W_v (.pointer none) (x_move rfl) rfl ?_
      refine W_yes (congrArg some hb33) ?_
      obtain ⟨t36, ht37, H⟩ := bindS H
      refine W_callF2 fn17 (status_Writers_Commit_Z.con k M (1 : Int) (1 : Int) t36 hg0 ht37) (Γ1 := []) (Γ2 := []) S rfl rfl (by rintro _ _ _ ⟨rfl, rfl⟩; exact flat_nil) ?_
      rintro _ w38 _ Γ' E' S ⟨rfl, rfl⟩
      replace E := E.trans E'
      clear E'
      replace S : St w38 M F [] := S
      refine W_yes (congrArg some hb33) ?_
      refine W_v (.bool (t36 != (2 : Int))) (x_ibin rfl rfl rfl rfl) rfl ?_
      refine W_v (.bool (t36 != (2 : Int))) (x_pick (k := false) (congrArg Value.bool hb33) rfl) rfl ?_
      refine Wl_nil ?_
      exact ⟨(t36 != (2 : Int)), Option.some.inj H, ⟨rfl, rfl, trivial⟩, E, S.pick [] (by decide)⟩
  clear o35h
  rintro ρ w41 ⟨x34, rfl, hρ, E, S⟩
  rw [agree_eta hρ]
  clear hρ
  have H := o35H
  clear o35H
  refine W_v (.bool x34) (x_move rfl) rfl ?_
  obtain ⟨o54, o54h, o54H⟩ := bindS H
  clear H
  refine Wl_cutN 4 (fun ρ w' => ∃ (x53 : Bool), (x53) = o54 ∧ Agree ρ [(1, .pointer none), (31, .bool x53)] ∧ Ext w w' ∧ St w' M F []) ?_ ?_
  · have H := o54h
    rcases iteS H with ⟨hb52, H⟩ | ⟨hb52, H⟩
    · skip
      refine W_no (skF hb52) rfl ?_
      refine W_no (skF hb52) rfl ?_
      refine W_no (skF hb52) rfl ?_
      refine W_v (.bool true) (x_pick (k := true) (congrArg Value.bool hb52) rfl) rfl ?_
      refine Wl_nil ?_
      exact ⟨true, Option.some.inj H, ⟨rfl, rfl, trivial⟩, E, S.pick [] (by decide)⟩
    · skip
      refine W_yes (congrArg some hb52) ?_
      refine W_v (.pointer none) (x_move rfl) rfl ?_
      refine W_yes (congrArg some hb52) ?_
      obtain ⟨t55, ht56, H⟩ := bindS H
      refine W_callF2 fn18 (status_Writers_Fall_Z.con k M (1 : Int) t55 hg0 ht56) (Γ1 := []) (Γ2 := []) S rfl rfl (by rintro _ _ _ ⟨rfl, rfl⟩; exact flat_nil) ?_
      rintro _ w57 _ Γ' E' S ⟨rfl, rfl⟩
      replace E := E.trans E'
      clear E'
      replace S : St w57 M F [] := S
      refine W_yes (congrArg some hb52) ?_
      refine W_v (.bool (t55 != (2 : Int))) (x_ibin rfl rfl rfl rfl) rfl ?_
      refine W_v (.bool (t55 != (2 : Int))) (x_pick (k := false) (congrArg Value.bool hb52) rfl) rfl ?_
      refine Wl_nil ?_
      exact ⟨(t55 != (2 : Int)), Option.some.inj H, ⟨rfl, rfl, trivial⟩, E, S.pick [] (by decide)⟩
  clear o54h
  rintro ρ w60 ⟨x53, rfl, hρ, E, S⟩
  rw [agree_eta hρ]
  clear hρ
  have H := o54H
  clear o54H
  refine W_v (.bool x53) (x_move rfl) rfl ?_
  obtain ⟨o73, o73h, o73H⟩ := bindS H
  clear H
  refine Wl_cutN 4 (fun ρ w' => ∃ (x72 : Bool), (x72) = o73 ∧ Agree ρ [(1, .pointer none), (36, .bool x72)] ∧ Ext w w' ∧ St w' M F []) ?_ ?_
  · have H := o73h
    rcases iteS H with ⟨hb71, H⟩ | ⟨hb71, H⟩
    · skip
      refine W_no (skF hb71) rfl ?_
      refine W_no (skF hb71) rfl ?_
      refine W_no (skF hb71) rfl ?_
      refine W_v (.bool true) (x_pick (k := true) (congrArg Value.bool hb71) rfl) rfl ?_
      refine Wl_nil ?_
      exact ⟨true, Option.some.inj H, ⟨rfl, rfl, trivial⟩, E, S.pick [] (by decide)⟩
    · skip
      refine W_yes (congrArg some hb71) ?_
      refine W_v (.pointer none) (x_move rfl) rfl ?_
      refine W_yes (congrArg some hb71) ?_
      obtain ⟨t74, ht75, H⟩ := bindS H
      refine W_callF2 fn19 (status_Writers_Fallen_Z.con k M (1 : Int) t74 hg0 ht75) (Γ1 := []) (Γ2 := []) S rfl rfl (by rintro _ _ _ ⟨rfl, rfl⟩; exact flat_nil) ?_
      rintro _ w76 _ Γ' E' S ⟨rfl, rfl⟩
      replace E := E.trans E'
      clear E'
      replace S : St w76 M F [] := S
      refine W_yes (congrArg some hb71) ?_
      refine W_v (.bool (t74 != (2 : Int))) (x_ibin rfl rfl rfl rfl) rfl ?_
      refine W_v (.bool (t74 != (2 : Int))) (x_pick (k := false) (congrArg Value.bool hb71) rfl) rfl ?_
      refine Wl_nil ?_
      exact ⟨(t74 != (2 : Int)), Option.some.inj H, ⟨rfl, rfl, trivial⟩, E, S.pick [] (by decide)⟩
  clear o73h
  rintro ρ w79 ⟨x72, rfl, hρ, E, S⟩
  rw [agree_eta hρ]
  clear hρ
  have H := o73H
  clear o73H
  refine W_v (.bool x72) (x_move rfl) rfl ?_
  obtain ⟨o92, o92h, o92H⟩ := bindS H
  clear H
  refine Wl_cutN 4 (fun ρ w' => ∃ (x91 : Bool), (x91) = o92 ∧ Agree ρ [(1, .pointer none), (41, .bool x91)] ∧ Ext w w' ∧ St w' M F []) ?_ ?_
  · have H := o92h
    rcases iteS H with ⟨hb90, H⟩ | ⟨hb90, H⟩
    · skip
      refine W_no (skF hb90) rfl ?_
      refine W_no (skF hb90) rfl ?_
      refine W_no (skF hb90) rfl ?_
      refine W_v (.bool true) (x_pick (k := true) (congrArg Value.bool hb90) rfl) rfl ?_
      refine Wl_nil ?_
      exact ⟨true, Option.some.inj H, ⟨rfl, rfl, trivial⟩, E, S.pick [] (by decide)⟩
    · skip
      refine W_yes (congrArg some hb90) ?_
      refine W_v (.pointer none) (x_move rfl) rfl ?_
      refine W_yes (congrArg some hb90) ?_
      obtain ⟨t93, ht94, H⟩ := bindS H
      refine W_callF2 fn20 (ferrymanlaw08_is_Z.con k M (1 : Int) (0 : Int) (0 : Int) t93 hg0 ht94) (Γ1 := []) (Γ2 := []) S rfl rfl (by rintro _ _ _ ⟨rfl, rfl⟩; exact flat_nil) ?_
      rintro _ w95 _ Γ' E' S ⟨rfl, rfl⟩
      replace E := E.trans E'
      clear E'
      replace S : St w95 M F [] := S
      refine W_yes (congrArg some hb90) ?_
      refine W_v (.bool (!t93)) (x_not rfl) rfl ?_
      refine W_v (.bool (!t93)) (x_pick (k := false) (congrArg Value.bool hb90) rfl) rfl ?_
      refine Wl_nil ?_
      exact ⟨(!t93), Option.some.inj H, ⟨rfl, rfl, trivial⟩, E, S.pick [] (by decide)⟩
  clear o92h
  rintro ρ w98 ⟨x91, rfl, hρ, E, S⟩
  rw [agree_eta hρ]
  clear hρ
  have H := o92H
  clear o92H
  refine W_v (.bool x91) (x_move rfl) rfl ?_
  obtain ⟨o117, o117h, o117H⟩ := bindS H
  clear H
  refine Wl_cutN 5 (fun ρ w' => ∃ (x116 : Bool), (x116) = o117 ∧ Agree ρ [(1, .pointer none), (47, .bool x116)] ∧ Ext w w' ∧ St w' M F []) ?_ ?_
  · have H := o117h
    rcases iteS H with ⟨hb115, H⟩ | ⟨hb115, H⟩
    · skip
      refine W_no (skF hb115) rfl ?_
      refine W_no (skF hb115) rfl ?_
      refine W_no (skF hb115) rfl ?_
      refine W_no (skF hb115) rfl ?_
      refine W_v (.bool true) (x_pick (k := true) (congrArg Value.bool hb115) rfl) rfl ?_
      refine Wl_nil ?_
      exact ⟨true, Option.some.inj H, ⟨rfl, rfl, trivial⟩, E, S.pick [] (by decide)⟩
    · skip
      refine W_yes (congrArg some hb115) ?_
      refine W_v (.pointer none) (x_move rfl) rfl ?_
      refine W_yes (congrArg some hb115) ?_
      obtain ⟨t118, ht119, H⟩ := bindS H
      refine W_callF2 fn14 (status_Writers_Busy_Z.con k M  t118 hg0 ht119) (Γ1 := []) (Γ2 := []) S rfl rfl (by rintro _ _ _ ⟨_, _, rfl, rfl⟩; exact (flat_cons (flat_row (fun _ _ _ _ h => h)) flat_nil)) ?_
      rintro _ w123 _ Γ' E' S ⟨A120, c121, rfl, rfl⟩
      replace E := E.trans E'
      clear E'
      replace S : St w123 M F [Row (rInt .i64) 3 (.slice A120 t118.length c121) t118] := S
      refine W_yes (congrArg some hb115) ?_
      refine W_v (.int .i64 (t118.length : Int)) (x_len_slice (n := t118.length) Tryd.underlying32 rfl) rfl ?_
      refine W_yes (congrArg some hb115) ?_
      refine W_v (.bool ((t118.length : Int) != (0 : Int))) (x_ibin rfl rfl rfl rfl) rfl ?_
      refine W_v (.bool ((t118.length : Int) != (0 : Int))) (x_pick (k := false) (congrArg Value.bool hb115) rfl) rfl ?_
      refine Wl_nil ?_
      exact ⟨((t118.length : Int) != (0 : Int)), Option.some.inj H, ⟨rfl, rfl, trivial⟩, E, S.pick [] (by decide)⟩
  clear o117h
  rintro ρ w126 ⟨x116, rfl, hρ, E, S⟩
  rw [agree_eta hρ]
  clear hρ
  have H := o117H
  clear o117H
  refine W_v (.bool x116) (x_move rfl) rfl ?_
  obtain ⟨o159, o159h, o159H⟩ := bindS H
  clear H
  refine Wl_cutN 10 (fun ρ w' => ∃ (x158 : Bool), (x158) = o159 ∧ Agree ρ [(1, .pointer none), (58, .bool x158)] ∧ Ext w w' ∧ St w' M F []) ?_ ?_
  · have H := o159h
    rcases iteS H with ⟨hb157, H⟩ | ⟨hb157, H⟩
    · skip
      refine W_no (skF hb157) rfl ?_
      refine W_no (skF hb157) rfl ?_
      refine W_no (skF hb157) rfl ?_
      refine W_no (skF hb157) rfl ?_
      refine W_no (skF hb157) rfl ?_
      refine W_no (skF hb157) rfl ?_
      refine W_no (skF hb157) rfl ?_
      refine W_no (skF hb157) rfl ?_
      refine W_no (skF hb157) rfl ?_
      refine W_v (.bool true) (x_pick (k := true) (congrArg Value.bool hb157) rfl) rfl ?_
      refine Wl_nil ?_
      exact ⟨true, Option.some.inj H, ⟨rfl, rfl, trivial⟩, E, S.pick [] (by decide)⟩
    · skip
      refine W_yes (congrArg some hb157) ?_
      refine W_v (.pointer none) (x_move rfl) rfl ?_
      refine W_yes (congrArg some hb157) ?_
      obtain ⟨t160, ht161, H⟩ := bindS H
      refine W_callF2 fn15 (status_Writers_Active_Z.con k M  t160 hg0 ht161) (Γ1 := []) (Γ2 := []) S rfl rfl (by rintro _ _ _ ⟨rfl, rfl⟩; exact flat_nil) ?_
      rintro _ w162 _ Γ' E' S ⟨rfl, rfl⟩
      replace E := E.trans E'
      clear E'
      replace S : St w162 M F [] := S
      refine W_yes (congrArg some hb157) ?_
      refine W_v (.pointer none) (x_move rfl) rfl ?_
      refine W_yes (congrArg some hb157) ?_
      obtain ⟨t165, ht166, H⟩ := bindS H
      refine W_callF2 fn10 (status_Writers_High_Z.con k M  t165 hg0 ht166) (Γ1 := []) (Γ2 := []) S rfl rfl (by rintro _ _ _ ⟨rfl, rfl⟩; exact flat_nil) ?_
      rintro _ w167 _ Γ' E' S ⟨rfl, rfl⟩
      replace E := E.trans E'
      clear E'
      replace S : St w167 M F [] := S
      refine W_yes (congrArg some hb157) ?_
      refine W_v (.int .i64 (IntKind.i64.wrap (t160 + t165))) (x_ibin rfl rfl rfl rfl) rfl ?_
      refine W_yes (congrArg some hb157) ?_
      refine W_v (.pointer none) (x_move rfl) rfl ?_
      refine W_yes (congrArg some hb157) ?_
      obtain ⟨t170, ht171, H⟩ := bindS H
      refine W_callF2 fn21 (status_Writers_Last_Z.con k M  t170 hg0 ht171) (Γ1 := []) (Γ2 := []) S rfl rfl (by rintro _ _ _ ⟨rfl, rfl⟩; exact flat_nil) ?_
      rintro _ w172 _ Γ' E' S ⟨rfl, rfl⟩
      replace E := E.trans E'
      clear E'
      replace S : St w172 M F [] := S
      refine W_yes (congrArg some hb157) ?_
      refine W_v (.int .i64 (IntKind.i64.wrap ((IntKind.i64.wrap (t160 + t165)) + t170))) (x_ibin rfl rfl rfl rfl) rfl ?_
      refine W_yes (congrArg some hb157) ?_
      refine W_v (.bool ((IntKind.i64.wrap ((IntKind.i64.wrap (t160 + t165)) + t170)) != (0 : Int))) (x_ibin rfl rfl rfl rfl) rfl ?_
      refine W_v (.bool ((IntKind.i64.wrap ((IntKind.i64.wrap (t160 + t165)) + t170)) != (0 : Int))) (x_pick (k := false) (congrArg Value.bool hb157) rfl) rfl ?_
      refine Wl_nil ?_
      exact ⟨((IntKind.i64.wrap ((IntKind.i64.wrap (t160 + t165)) + t170)) != (0 : Int)), Option.some.inj H, ⟨rfl, rfl, trivial⟩, E, S.pick [] (by decide)⟩
  clear o159h
  rintro ρ w175 ⟨x158, rfl, hρ, E, S⟩
  rw [agree_eta hρ]
  clear hρ
  have H := o159H
  clear o159H
  refine W_v (.bool x158) (x_move rfl) rfl ?_
  obtain ⟨o188, o188h, o188H⟩ := bindS H
  clear H
  refine Wl_cutN 4 (fun ρ w' => ∃ (x187 : Bool), (x187) = o188 ∧ Agree ρ [(63, .bool x187)] ∧ Ext w w' ∧ St w' M F []) ?_ ?_
  · have H := o188h
    rcases iteS H with ⟨hb186, H⟩ | ⟨hb186, H⟩
    · skip
      refine W_no (skF hb186) rfl ?_
      refine W_no (skF hb186) rfl ?_
      refine W_no (skF hb186) rfl ?_
      refine W_v (.bool true) (x_pick (k := true) (congrArg Value.bool hb186) rfl) rfl ?_
      refine Wl_nil ?_
      exact ⟨true, Option.some.inj H, ⟨rfl, trivial⟩, E, S.pick [] (by decide)⟩
    · skip
      refine W_yes (congrArg some hb186) ?_
      refine W_v (.pointer none) (x_move rfl) rfl ?_
      refine W_yes (congrArg some hb186) ?_
      obtain ⟨t189, ht190, H⟩ := bindS H
      refine W_callF2 fn22 (status_Writers_Copy_Z.con k M  t189 hg0 ht190) (Γ1 := []) (Γ2 := []) S rfl rfl (by rintro _ _ _ ⟨rfl, rfl⟩; exact flat_nil) ?_
      rintro _ w191 _ Γ' E' S ⟨rfl, rfl⟩
      replace E := E.trans E'
      clear E'
      replace S : St w191 M F [] := S
      refine W_yes (congrArg some hb186) ?_
      refine W_v (.bool false) (x_ne_of (r := true) rfl rfl (run_eq_ptrnn Tryd.underlying24)) rfl ?_
      refine W_v (.bool false) (x_pick (k := false) (congrArg Value.bool hb186) rfl) rfl ?_
      refine Wl_nil ?_
      exact ⟨false, Option.some.inj H, ⟨rfl, trivial⟩, E, S.pick [] (by decide)⟩
  clear o188h
  rintro ρ w194 ⟨x187, rfl, hρ, E, S⟩
  rw [agree_eta hρ]
  clear hρ
  have H := o188H
  clear o188H
  refine Wl_nil ?_
  refine tn ?_
  rcases iteS H with ⟨hb195, H⟩ | ⟨hb195, H⟩
  · refine Wp_cond_true (congrArg Value.bool hb195) ?_
    refine Wp_seq ?_
    refine Wp_region_lit ?_
    refine W_v (.bool false) (x_assign rfl) rfl ?_
    refine Wl_nil ?_
    refine tn ?_
    refine Wp_ret ?_
    refine tr (?_)
    obtain rfl := Option.some.inj H
    exact ⟨_, _, _, fun w1 e1 => run_resR (vs := [.bool false]) (FA.cons (rfl) (FA.nil)), HM, E, S.pick [] (by decide), ⟨rfl, rfl⟩⟩
  refine Wp_cond_false (congrArg Value.bool hb195) ?_
  refine Wp_skip ?_
  refine tn ?_
  refine Wp_seq ?_
  refine Wp_region_lit ?_
  obtain ⟨t196, ht197, H⟩ := bindS H
  refine W_callF2 fn9 (status_New.con k M  t196 hg0 ht197) (Γ1 := []) (Γ2 := []) S rfl rfl (by rintro _ _ _ ⟨_, _, _, rfl, rfl⟩; exact (flat_cons flat_blk (flat_cons (flat_row (fun _ _ _ _ h => h)) flat_nil))) ?_
  rintro _ w203 _ Γ' E' S ⟨b198, A200, c201, rfl, rfl⟩
  replace E := E.trans E'
  clear E'
  replace S : St w203 M F [Blk b198 (.cells #[.slice A200 t196.l.length c201, .int .i64 t196.last] 47 (0, 0)), Row r_status_writer 49 (.slice A200 t196.l.length c201) t196.l] := S
  refine W_v (.pointer (some ⟨b198, 0, none⟩)) (x_assign rfl) rfl ?_
  refine Wl_nil ?_
  refine tn ?_
  refine Wp_seq ?_
  refine Wp_seq ?_
  refine Wp_region_lit ?_
  refine W_v (.pointer (some ⟨b198, 0, none⟩)) (x_move rfl) rfl ?_
  obtain ⟨t206, ht207, H⟩ := bindS H
  refine W_callF2 fn10 (status_Writers_High_PO.con k M A200 c201 t196 b198 t206 hg0 ht207) (Γ1 := [Blk b198 (.cells #[.slice A200 t196.l.length c201, .int .i64 t196.last] 47 (0, 0)), Row r_status_writer 49 (.slice A200 t196.l.length c201) t196.l]) (Γ2 := []) S rfl rfl (by rintro _ _ _ ⟨rfl, rfl⟩; exact (flat_cons flat_blk (flat_cons (flat_row (fun _ _ _ _ h => h)) flat_nil))) ?_
  rintro _ w208 _ Γ' E' S ⟨rfl, rfl⟩
  replace E := E.trans E'
  clear E'
  replace S : St w208 M F [Blk b198 (.cells #[.slice A200 t196.l.length c201, .int .i64 t196.last] 47 (0, 0)), Row r_status_writer 49 (.slice A200 t196.l.length c201) t196.l] := S
  refine W_v (.bool (t206 != (1 : Int))) (x_ibin rfl rfl rfl rfl) rfl ?_
  refine W_v (.bool (t206 != (1 : Int))) (x_move rfl) rfl ?_
  obtain ⟨o223, o223h, o223H⟩ := bindS H
  clear H
  refine Wl_cutN 4 (fun ρ w' => ∃ (x222 : Bool), (x222) = o223 ∧ Agree ρ [(2, .pointer (some ⟨b198, 0, none⟩)), (72, .bool x222)] ∧ Ext w w' ∧ St w' M F [Blk b198 (.cells #[.slice A200 t196.l.length c201, .int .i64 t196.last] 47 (0, 0)), Row r_status_writer 49 (.slice A200 t196.l.length c201) t196.l]) ?_ ?_
  · have H := o223h
    rcases iteS H with ⟨hb221, H⟩ | ⟨hb221, H⟩
    · skip
      refine W_no (skF hb221) rfl ?_
      refine W_no (skF hb221) rfl ?_
      refine W_no (skF hb221) rfl ?_
      refine W_v (.bool true) (x_pick (k := true) (congrArg Value.bool hb221) rfl) rfl ?_
      refine Wl_nil ?_
      exact ⟨true, Option.some.inj H, ⟨rfl, rfl, trivial⟩, E, S.pick [0, 1] (by decide)⟩
    · skip
      refine W_yes (congrArg some hb221) ?_
      refine W_v (.pointer (some ⟨b198, 0, none⟩)) (x_move rfl) rfl ?_
      refine W_yes (congrArg some hb221) ?_
      obtain ⟨t224, ht225, H⟩ := bindS H
      refine W_callF2 fn21 (status_Writers_Last_PO.con k M A200 c201 t196 b198 t224 hg0 ht225) (Γ1 := [Blk b198 (.cells #[.slice A200 t196.l.length c201, .int .i64 t196.last] 47 (0, 0)), Row r_status_writer 49 (.slice A200 t196.l.length c201) t196.l]) (Γ2 := []) S rfl rfl (by rintro _ _ _ ⟨rfl, rfl⟩; exact (flat_cons flat_blk (flat_cons (flat_row (fun _ _ _ _ h => h)) flat_nil))) ?_
      rintro _ w226 _ Γ' E' S ⟨rfl, rfl⟩
      replace E := E.trans E'
      clear E'
      replace S : St w226 M F [Blk b198 (.cells #[.slice A200 t196.l.length c201, .int .i64 t196.last] 47 (0, 0)), Row r_status_writer 49 (.slice A200 t196.l.length c201) t196.l] := S
      refine W_yes (congrArg some hb221) ?_
      refine W_v (.bool (t224 != (0 : Int))) (x_ibin rfl rfl rfl rfl) rfl ?_
      refine W_v (.bool (t224 != (0 : Int))) (x_pick (k := false) (congrArg Value.bool hb221) rfl) rfl ?_
      refine Wl_nil ?_
      exact ⟨(t224 != (0 : Int)), Option.some.inj H, ⟨rfl, rfl, trivial⟩, E, S.pick [0, 1] (by decide)⟩
  clear o223h
  rintro ρ w229 ⟨x222, rfl, hρ, E, S⟩
  rw [agree_eta hρ]
  clear hρ
  have H := o223H
  clear o223H
  refine W_v (.bool x222) (x_move rfl) rfl ?_
  obtain ⟨o253, o253h, o253H⟩ := bindS H
  clear H
  refine Wl_cutN 4 (fun ρ w' => ∃ (x247 : Bool) (x248 : List status_writer) (x252 : Int) (A249 : Option Addr) (c250 : Nat), (x247, x248, x252) = o253 ∧ Agree ρ [(2, .pointer (some ⟨b198, 0, none⟩)), (77, .bool x247)] ∧ Ext w w' ∧ St w' M F [Row r_status_writer 49 (.slice A249 x248.length c250) x248, Blk b198 (.cells #[.slice A249 x248.length c250, .int .i64 x252] 47 (0, 0))]) ?_ ?_
  · have H := o253h
    rcases iteS H with ⟨hb246, H⟩ | ⟨hb246, H⟩
    · skip
      refine W_no (skF hb246) rfl ?_
      refine W_no (skF hb246) rfl ?_
      refine W_no (skF hb246) rfl ?_
      refine W_v (.bool true) (x_pick (k := true) (congrArg Value.bool hb246) rfl) rfl ?_
      refine Wl_nil ?_
      exact ⟨true, t196.l, t196.last, A200, c201, Option.some.inj H, ⟨rfl, rfl, trivial⟩, E, S.pick [1, 0] (by decide)⟩
    · skip
      refine W_yes (congrArg some hb246) ?_
      refine W_v (.pointer (some ⟨b198, 0, none⟩)) (x_move rfl) rfl ?_
      refine W_yes (congrArg some hb246) ?_
      obtain ⟨t254, ht255, H⟩ := bindS H
      refine W_callF2 fn17 (status_Writers_Commit_PO.con k M A200 c201 t196 (1 : Int) (1 : Int) b198 t254 hg0 ht255) (Γ1 := [Blk b198 (.cells #[.slice A200 t196.l.length c201, .int .i64 t196.last] 47 (0, 0)), Row r_status_writer 49 (.slice A200 t196.l.length c201) t196.l]) (Γ2 := []) S rfl rfl (by rintro _ _ _ ⟨_, _, rfl, rfl⟩; exact (flat_cons flat_blk (flat_cons (flat_row (fun _ _ _ _ h => h)) flat_nil))) ?_
      rintro _ w259 _ Γ' E' S ⟨A256, c257, rfl, rfl⟩
      replace E := E.trans E'
      clear E'
      replace S : St w259 M F [Blk b198 (.cells #[.slice A256 t254.2.l.length c257, .int .i64 t254.2.last] 47 (0, 0)), Row r_status_writer 49 (.slice A256 t254.2.l.length c257) t254.2.l] := S
      refine W_yes (congrArg some hb246) ?_
      refine W_v (.bool (t254.1 != (5 : Int))) (x_ibin rfl rfl rfl rfl) rfl ?_
      refine W_v (.bool (t254.1 != (5 : Int))) (x_pick (k := false) (congrArg Value.bool hb246) rfl) rfl ?_
      refine Wl_nil ?_
      exact ⟨(t254.1 != (5 : Int)), t254.2.l, t254.2.last, A256, c257, Option.some.inj H, ⟨rfl, rfl, trivial⟩, E, S.pick [1, 0] (by decide)⟩
  clear o253h
  rintro ρ w262 ⟨x247, x248, x252, A249, c250, rfl, hρ, E, S⟩
  rw [agree_eta hρ]
  clear hρ
  have H := o253H
  clear o253H
  refine W_v (.bool x247) (x_move rfl) rfl ?_
  obtain ⟨o286, o286h, o286H⟩ := bindS H
  clear H
  refine Wl_cutN 4 (fun ρ w' => ∃ (x280 : Bool) (x281 : List status_writer) (x285 : Int) (A282 : Option Addr) (c283 : Nat), (x280, x281, x285) = o286 ∧ Agree ρ [(2, .pointer (some ⟨b198, 0, none⟩)), (82, .bool x280)] ∧ Ext w w' ∧ St w' M F [Row r_status_writer 49 (.slice A282 x281.length c283) x281, Blk b198 (.cells #[.slice A282 x281.length c283, .int .i64 x285] 47 (0, 0))]) ?_ ?_
  · have H := o286h
    rcases iteS H with ⟨hb279, H⟩ | ⟨hb279, H⟩
    · skip
      refine W_no (skF hb279) rfl ?_
      refine W_no (skF hb279) rfl ?_
      refine W_no (skF hb279) rfl ?_
      refine W_v (.bool true) (x_pick (k := true) (congrArg Value.bool hb279) rfl) rfl ?_
      refine Wl_nil ?_
      exact ⟨true, x248, x252, A249, c250, Option.some.inj H, ⟨rfl, rfl, trivial⟩, E, S.pick [0, 1] (by decide)⟩
    · skip
      refine W_yes (congrArg some hb279) ?_
      refine W_v (.pointer (some ⟨b198, 0, none⟩)) (x_move rfl) rfl ?_
      refine W_yes (congrArg some hb279) ?_
      obtain ⟨t287, ht288, H⟩ := bindS H
      replace S : St w262 M F [Blk b198 (.cells #[.slice A249 x248.length c250, .int .i64 x252] 47 (0, 0)), Row r_status_writer 49 (.slice A249 x248.length c250) x248] := S.pick [1, 0] (by decide)
      refine W_callF2 fn18 (status_Writers_Fall_PO.con k M A249 c250 (⟨x248, x252⟩ : status_Writers) (0 : Int) b198 t287 hg0 ht288) (Γ1 := [Blk b198 (.cells #[.slice A249 x248.length c250, .int .i64 x252] 47 (0, 0)), Row r_status_writer 49 (.slice A249 x248.length c250) x248]) (Γ2 := []) S rfl rfl (by rintro _ _ _ ⟨_, _, rfl, rfl⟩; exact (flat_cons flat_blk (flat_cons (flat_row (fun _ _ _ _ h => h)) flat_nil))) ?_
      rintro _ w292 _ Γ' E' S ⟨A289, c290, rfl, rfl⟩
      replace E := E.trans E'
      clear E'
      replace S : St w292 M F [Blk b198 (.cells #[.slice A289 t287.2.l.length c290, .int .i64 t287.2.last] 47 (0, 0)), Row r_status_writer 49 (.slice A289 t287.2.l.length c290) t287.2.l] := S
      refine W_yes (congrArg some hb279) ?_
      refine W_v (.bool (t287.1 != (5 : Int))) (x_ibin rfl rfl rfl rfl) rfl ?_
      refine W_v (.bool (t287.1 != (5 : Int))) (x_pick (k := false) (congrArg Value.bool hb279) rfl) rfl ?_
      refine Wl_nil ?_
      exact ⟨(t287.1 != (5 : Int)), t287.2.l, t287.2.last, A289, c290, Option.some.inj H, ⟨rfl, rfl, trivial⟩, E, S.pick [1, 0] (by decide)⟩
  clear o286h
  rintro ρ w295 ⟨x280, x281, x285, A282, c283, rfl, hρ, E, S⟩
  rw [agree_eta hρ]
  clear hρ
  have H := o286H
  clear o286H
  refine W_v (.bool x280) (x_move rfl) rfl ?_
  obtain ⟨o319, o319h, o319H⟩ := bindS H
  clear H
  refine Wl_cutN 4 (fun ρ w' => ∃ (x313 : Bool) (x314 : List status_writer) (x318 : Int) (A315 : Option Addr) (c316 : Nat), (x313, x314, x318) = o319 ∧ Agree ρ [(2, .pointer (some ⟨b198, 0, none⟩)), (87, .bool x313)] ∧ Ext w w' ∧ St w' M F [Row r_status_writer 49 (.slice A315 x314.length c316) x314, Blk b198 (.cells #[.slice A315 x314.length c316, .int .i64 x318] 47 (0, 0))]) ?_ ?_
  · have H := o319h
    rcases iteS H with ⟨hb312, H⟩ | ⟨hb312, H⟩
    · skip
      refine W_no (skF hb312) rfl ?_
      refine W_no (skF hb312) rfl ?_
      refine W_no (skF hb312) rfl ?_
      refine W_v (.bool true) (x_pick (k := true) (congrArg Value.bool hb312) rfl) rfl ?_
      refine Wl_nil ?_
      exact ⟨true, x281, x285, A282, c283, Option.some.inj H, ⟨rfl, rfl, trivial⟩, E, S.pick [0, 1] (by decide)⟩
    · skip
      refine W_yes (congrArg some hb312) ?_
      refine W_v (.pointer (some ⟨b198, 0, none⟩)) (x_move rfl) rfl ?_
      refine W_yes (congrArg some hb312) ?_
      obtain ⟨t320, ht321, H⟩ := bindS H
      replace S : St w295 M F [Blk b198 (.cells #[.slice A282 x281.length c283, .int .i64 x285] 47 (0, 0)), Row r_status_writer 49 (.slice A282 x281.length c283) x281] := S.pick [1, 0] (by decide)
      refine W_callF2 fn19 (status_Writers_Fallen_PO.con k M A282 c283 (⟨x281, x285⟩ : status_Writers) (-1 : Int) b198 t320 hg0 ht321) (Γ1 := [Blk b198 (.cells #[.slice A282 x281.length c283, .int .i64 x285] 47 (0, 0)), Row r_status_writer 49 (.slice A282 x281.length c283) x281]) (Γ2 := []) S rfl rfl (by rintro _ _ _ ⟨_, _, rfl, rfl⟩; exact (flat_cons flat_blk (flat_cons (flat_row (fun _ _ _ _ h => h)) flat_nil))) ?_
      rintro _ w325 _ Γ' E' S ⟨A322, c323, rfl, rfl⟩
      replace E := E.trans E'
      clear E'
      replace S : St w325 M F [Blk b198 (.cells #[.slice A322 t320.2.l.length c323, .int .i64 t320.2.last] 47 (0, 0)), Row r_status_writer 49 (.slice A322 t320.2.l.length c323) t320.2.l] := S
      refine W_yes (congrArg some hb312) ?_
      refine W_v (.bool (t320.1 != (5 : Int))) (x_ibin rfl rfl rfl rfl) rfl ?_
      refine W_v (.bool (t320.1 != (5 : Int))) (x_pick (k := false) (congrArg Value.bool hb312) rfl) rfl ?_
      refine Wl_nil ?_
      exact ⟨(t320.1 != (5 : Int)), t320.2.l, t320.2.last, A322, c323, Option.some.inj H, ⟨rfl, rfl, trivial⟩, E, S.pick [1, 0] (by decide)⟩
  clear o319h
  rintro ρ w328 ⟨x313, x314, x318, A315, c316, rfl, hρ, E, S⟩
  rw [agree_eta hρ]
  clear hρ
  have H := o319H
  clear o319H
  refine W_v (.bool x313) (x_move rfl) rfl ?_
  obtain ⟨o352, o352h, o352H⟩ := bindS H
  clear H
  refine Wl_cutN 4 (fun ρ w' => ∃ (x346 : Bool) (x347 : List status_writer) (x351 : Int) (A348 : Option Addr) (c349 : Nat), (x346, x347, x351) = o352 ∧ Agree ρ [(2, .pointer (some ⟨b198, 0, none⟩)), (92, .bool x346)] ∧ Ext w w' ∧ St w' M F [Row r_status_writer 49 (.slice A348 x347.length c349) x347, Blk b198 (.cells #[.slice A348 x347.length c349, .int .i64 x351] 47 (0, 0))]) ?_ ?_
  · have H := o352h
    rcases iteS H with ⟨hb345, H⟩ | ⟨hb345, H⟩
    · skip
      refine W_no (skF hb345) rfl ?_
      refine W_no (skF hb345) rfl ?_
      refine W_no (skF hb345) rfl ?_
      refine W_v (.bool true) (x_pick (k := true) (congrArg Value.bool hb345) rfl) rfl ?_
      refine Wl_nil ?_
      exact ⟨true, x314, x318, A315, c316, Option.some.inj H, ⟨rfl, rfl, trivial⟩, E, S.pick [0, 1] (by decide)⟩
    · skip
      refine W_yes (congrArg some hb345) ?_
      refine W_v (.pointer (some ⟨b198, 0, none⟩)) (x_move rfl) rfl ?_
      refine W_yes (congrArg some hb345) ?_
      obtain ⟨t353, ht354, H⟩ := bindS H
      replace S : St w328 M F [Blk b198 (.cells #[.slice A315 x314.length c316, .int .i64 x318] 47 (0, 0)), Row r_status_writer 49 (.slice A315 x314.length c316) x314] := S.pick [1, 0] (by decide)
      refine W_callF2 fn16 (status_Writers_Begin_PO.con k M A315 c316 (⟨x314, x318⟩ : status_Writers) b198 t353 hg0 ht354) (Γ1 := [Blk b198 (.cells #[.slice A315 x314.length c316, .int .i64 x318] 47 (0, 0)), Row r_status_writer 49 (.slice A315 x314.length c316) x314]) (Γ2 := []) S rfl rfl (by rintro _ _ _ ⟨_, _, rfl, rfl⟩; exact (flat_cons flat_blk (flat_cons (flat_row (fun _ _ _ _ h => h)) flat_nil))) ?_
      rintro _ w358 _ Γ' E' S ⟨A355, c356, rfl, rfl⟩
      replace E := E.trans E'
      clear E'
      replace S : St w358 M F [Blk b198 (.cells #[.slice A355 t353.2.l.length c356, .int .i64 t353.2.last] 47 (0, 0)), Row r_status_writer 49 (.slice A355 t353.2.l.length c356) t353.2.l] := S
      refine W_yes (congrArg some hb345) ?_
      refine W_v (.bool (t353.1 != (1 : Int))) (x_ibin rfl rfl rfl rfl) rfl ?_
      refine W_v (.bool (t353.1 != (1 : Int))) (x_pick (k := false) (congrArg Value.bool hb345) rfl) rfl ?_
      refine Wl_nil ?_
      exact ⟨(t353.1 != (1 : Int)), t353.2.l, t353.2.last, A355, c356, Option.some.inj H, ⟨rfl, rfl, trivial⟩, E, S.pick [1, 0] (by decide)⟩
  clear o352h
  rintro ρ w361 ⟨x346, x347, x351, A348, c349, rfl, hρ, E, S⟩
  rw [agree_eta hρ]
  clear hρ
  have H := o352H
  clear o352H
  refine W_v (.bool x346) (x_move rfl) rfl ?_
  obtain ⟨o374, o374h, o374H⟩ := bindS H
  clear H
  refine Wl_cutN 4 (fun ρ w' => ∃ (x373 : Bool), (x373) = o374 ∧ Agree ρ [(2, .pointer (some ⟨b198, 0, none⟩)), (97, .bool x373)] ∧ Ext w w' ∧ St w' M F [Row r_status_writer 49 (.slice A348 x347.length c349) x347, Blk b198 (.cells #[.slice A348 x347.length c349, .int .i64 x351] 47 (0, 0))]) ?_ ?_
  · have H := o374h
    rcases iteS H with ⟨hb372, H⟩ | ⟨hb372, H⟩
    · skip
      refine W_no (skF hb372) rfl ?_
      refine W_no (skF hb372) rfl ?_
      refine W_no (skF hb372) rfl ?_
      refine W_v (.bool true) (x_pick (k := true) (congrArg Value.bool hb372) rfl) rfl ?_
      refine Wl_nil ?_
      exact ⟨true, Option.some.inj H, ⟨rfl, rfl, trivial⟩, E, S.pick [0, 1] (by decide)⟩
    · skip
      refine W_yes (congrArg some hb372) ?_
      refine W_v (.pointer (some ⟨b198, 0, none⟩)) (x_move rfl) rfl ?_
      refine W_yes (congrArg some hb372) ?_
      obtain ⟨t375, ht376, H⟩ := bindS H
      replace S : St w361 M F [Blk b198 (.cells #[.slice A348 x347.length c349, .int .i64 x351] 47 (0, 0)), Row r_status_writer 49 (.slice A348 x347.length c349) x347] := S.pick [1, 0] (by decide)
      refine W_callF2 fn20 (ferrymanlaw08_is_PO.con k M A348 c349 (⟨x347, x351⟩ : status_Writers) (1 : Int) (1 : Int) (0 : Int) b198 t375 hg0 ht376) (Γ1 := [Blk b198 (.cells #[.slice A348 x347.length c349, .int .i64 x351] 47 (0, 0)), Row r_status_writer 49 (.slice A348 x347.length c349) x347]) (Γ2 := []) S rfl rfl (by rintro _ _ _ ⟨rfl, rfl⟩; exact (flat_cons flat_blk (flat_cons (flat_row (fun _ _ _ _ h => h)) flat_nil))) ?_
      rintro _ w377 _ Γ' E' S ⟨rfl, rfl⟩
      replace E := E.trans E'
      clear E'
      replace S : St w377 M F [Blk b198 (.cells #[.slice A348 x347.length c349, .int .i64 x351] 47 (0, 0)), Row r_status_writer 49 (.slice A348 x347.length c349) x347] := S
      refine W_yes (congrArg some hb372) ?_
      refine W_v (.bool (!t375)) (x_not rfl) rfl ?_
      refine W_v (.bool (!t375)) (x_pick (k := false) (congrArg Value.bool hb372) rfl) rfl ?_
      refine Wl_nil ?_
      exact ⟨(!t375), Option.some.inj H, ⟨rfl, rfl, trivial⟩, E, S.pick [1, 0] (by decide)⟩
  clear o374h
  rintro ρ w380 ⟨x373, rfl, hρ, E, S⟩
  rw [agree_eta hρ]
  clear hρ
  have H := o374H
  clear o374H
  refine W_v (.bool x373) (x_move rfl) rfl ?_
  obtain ⟨o404, o404h, o404H⟩ := bindS H
  clear H
  refine Wl_cutN 4 (fun ρ w' => ∃ (x398 : Bool) (x399 : List status_writer) (x403 : Int) (A400 : Option Addr) (c401 : Nat), (x398, x399, x403) = o404 ∧ Agree ρ [(2, .pointer (some ⟨b198, 0, none⟩)), (102, .bool x398)] ∧ Ext w w' ∧ St w' M F [Row r_status_writer 49 (.slice A400 x399.length c401) x399, Blk b198 (.cells #[.slice A400 x399.length c401, .int .i64 x403] 47 (0, 0))]) ?_ ?_
  · have H := o404h
    rcases iteS H with ⟨hb397, H⟩ | ⟨hb397, H⟩
    · skip
      refine W_no (skF hb397) rfl ?_
      refine W_no (skF hb397) rfl ?_
      refine W_no (skF hb397) rfl ?_
      refine W_v (.bool true) (x_pick (k := true) (congrArg Value.bool hb397) rfl) rfl ?_
      refine Wl_nil ?_
      exact ⟨true, x347, x351, A348, c349, Option.some.inj H, ⟨rfl, rfl, trivial⟩, E, S.pick [0, 1] (by decide)⟩
    · skip
      refine W_yes (congrArg some hb397) ?_
      refine W_v (.pointer (some ⟨b198, 0, none⟩)) (x_move rfl) rfl ?_
      refine W_yes (congrArg some hb397) ?_
      obtain ⟨t405, ht406, H⟩ := bindS H
      replace S : St w380 M F [Blk b198 (.cells #[.slice A348 x347.length c349, .int .i64 x351] 47 (0, 0)), Row r_status_writer 49 (.slice A348 x347.length c349) x347] := S.pick [1, 0] (by decide)
      refine W_callF2 fn19 (status_Writers_Fallen_PO.con k M A348 c349 (⟨x347, x351⟩ : status_Writers) (1 : Int) b198 t405 hg0 ht406) (Γ1 := [Blk b198 (.cells #[.slice A348 x347.length c349, .int .i64 x351] 47 (0, 0)), Row r_status_writer 49 (.slice A348 x347.length c349) x347]) (Γ2 := []) S rfl rfl (by rintro _ _ _ ⟨_, _, rfl, rfl⟩; exact (flat_cons flat_blk (flat_cons (flat_row (fun _ _ _ _ h => h)) flat_nil))) ?_
      rintro _ w410 _ Γ' E' S ⟨A407, c408, rfl, rfl⟩
      replace E := E.trans E'
      clear E'
      replace S : St w410 M F [Blk b198 (.cells #[.slice A407 t405.2.l.length c408, .int .i64 t405.2.last] 47 (0, 0)), Row r_status_writer 49 (.slice A407 t405.2.l.length c408) t405.2.l] := S
      refine W_yes (congrArg some hb397) ?_
      refine W_v (.bool (t405.1 != (7 : Int))) (x_ibin rfl rfl rfl rfl) rfl ?_
      refine W_v (.bool (t405.1 != (7 : Int))) (x_pick (k := false) (congrArg Value.bool hb397) rfl) rfl ?_
      refine Wl_nil ?_
      exact ⟨(t405.1 != (7 : Int)), t405.2.l, t405.2.last, A407, c408, Option.some.inj H, ⟨rfl, rfl, trivial⟩, E, S.pick [1, 0] (by decide)⟩
  clear o404h
  rintro ρ w413 ⟨x398, x399, x403, A400, c401, rfl, hρ, E, S⟩
  rw [agree_eta hρ]
  clear hρ
  have H := o404H
  clear o404H
  refine W_v (.bool x398) (x_move rfl) rfl ?_
  obtain ⟨o437, o437h, o437H⟩ := bindS H
  clear H
  refine Wl_cutN 4 (fun ρ w' => ∃ (x431 : Bool) (x432 : List status_writer) (x436 : Int) (A433 : Option Addr) (c434 : Nat), (x431, x432, x436) = o437 ∧ Agree ρ [(2, .pointer (some ⟨b198, 0, none⟩)), (107, .bool x431)] ∧ Ext w w' ∧ St w' M F [Row r_status_writer 49 (.slice A433 x432.length c434) x432, Blk b198 (.cells #[.slice A433 x432.length c434, .int .i64 x436] 47 (0, 0))]) ?_ ?_
  · have H := o437h
    rcases iteS H with ⟨hb430, H⟩ | ⟨hb430, H⟩
    · skip
      refine W_no (skF hb430) rfl ?_
      refine W_no (skF hb430) rfl ?_
      refine W_no (skF hb430) rfl ?_
      refine W_v (.bool true) (x_pick (k := true) (congrArg Value.bool hb430) rfl) rfl ?_
      refine Wl_nil ?_
      exact ⟨true, x399, x403, A400, c401, Option.some.inj H, ⟨rfl, rfl, trivial⟩, E, S.pick [0, 1] (by decide)⟩
    · skip
      refine W_yes (congrArg some hb430) ?_
      refine W_v (.pointer (some ⟨b198, 0, none⟩)) (x_move rfl) rfl ?_
      refine W_yes (congrArg some hb430) ?_
      obtain ⟨t438, ht439, H⟩ := bindS H
      replace S : St w413 M F [Blk b198 (.cells #[.slice A400 x399.length c401, .int .i64 x403] 47 (0, 0)), Row r_status_writer 49 (.slice A400 x399.length c401) x399] := S.pick [1, 0] (by decide)
      refine W_callF2 fn17 (status_Writers_Commit_PO.con k M A400 c401 (⟨x399, x403⟩ : status_Writers) (1 : Int) (-1 : Int) b198 t438 hg0 ht439) (Γ1 := [Blk b198 (.cells #[.slice A400 x399.length c401, .int .i64 x403] 47 (0, 0)), Row r_status_writer 49 (.slice A400 x399.length c401) x399]) (Γ2 := []) S rfl rfl (by rintro _ _ _ ⟨_, _, rfl, rfl⟩; exact (flat_cons flat_blk (flat_cons (flat_row (fun _ _ _ _ h => h)) flat_nil))) ?_
      rintro _ w443 _ Γ' E' S ⟨A440, c441, rfl, rfl⟩
      replace E := E.trans E'
      clear E'
      replace S : St w443 M F [Blk b198 (.cells #[.slice A440 t438.2.l.length c441, .int .i64 t438.2.last] 47 (0, 0)), Row r_status_writer 49 (.slice A440 t438.2.l.length c441) t438.2.l] := S
      refine W_yes (congrArg some hb430) ?_
      refine W_v (.bool (t438.1 != (1 : Int))) (x_ibin rfl rfl rfl rfl) rfl ?_
      refine W_v (.bool (t438.1 != (1 : Int))) (x_pick (k := false) (congrArg Value.bool hb430) rfl) rfl ?_
      refine Wl_nil ?_
      exact ⟨(t438.1 != (1 : Int)), t438.2.l, t438.2.last, A440, c441, Option.some.inj H, ⟨rfl, rfl, trivial⟩, E, S.pick [1, 0] (by decide)⟩
  clear o437h
  rintro ρ w446 ⟨x431, x432, x436, A433, c434, rfl, hρ, E, S⟩
  rw [agree_eta hρ]
  clear hρ
  have H := o437H
  clear o437H
  refine W_v (.bool x431) (x_move rfl) rfl ?_
  obtain ⟨o470, o470h, o470H⟩ := bindS H
  clear H
  refine Wl_cutN 4 (fun ρ w' => ∃ (x464 : Bool) (x465 : List status_writer) (x469 : Int) (A466 : Option Addr) (c467 : Nat), (x464, x465, x469) = o470 ∧ Agree ρ [(2, .pointer (some ⟨b198, 0, none⟩)), (112, .bool x464)] ∧ Ext w w' ∧ St w' M F [Row r_status_writer 49 (.slice A466 x465.length c467) x465, Blk b198 (.cells #[.slice A466 x465.length c467, .int .i64 x469] 47 (0, 0))]) ?_ ?_
  · have H := o470h
    rcases iteS H with ⟨hb463, H⟩ | ⟨hb463, H⟩
    · skip
      refine W_no (skF hb463) rfl ?_
      refine W_no (skF hb463) rfl ?_
      refine W_no (skF hb463) rfl ?_
      refine W_v (.bool true) (x_pick (k := true) (congrArg Value.bool hb463) rfl) rfl ?_
      refine Wl_nil ?_
      exact ⟨true, x432, x436, A433, c434, Option.some.inj H, ⟨rfl, rfl, trivial⟩, E, S.pick [0, 1] (by decide)⟩
    · skip
      refine W_yes (congrArg some hb463) ?_
      refine W_v (.pointer (some ⟨b198, 0, none⟩)) (x_move rfl) rfl ?_
      refine W_yes (congrArg some hb463) ?_
      obtain ⟨t471, ht472, H⟩ := bindS H
      replace S : St w446 M F [Blk b198 (.cells #[.slice A433 x432.length c434, .int .i64 x436] 47 (0, 0)), Row r_status_writer 49 (.slice A433 x432.length c434) x432] := S.pick [1, 0] (by decide)
      refine W_callF2 fn17 (status_Writers_Commit_PO.con k M A433 c434 (⟨x432, x436⟩ : status_Writers) (1 : Int) (1048577 : Int) b198 t471 hg0 ht472) (Γ1 := [Blk b198 (.cells #[.slice A433 x432.length c434, .int .i64 x436] 47 (0, 0)), Row r_status_writer 49 (.slice A433 x432.length c434) x432]) (Γ2 := []) S rfl rfl (by rintro _ _ _ ⟨_, _, rfl, rfl⟩; exact (flat_cons flat_blk (flat_cons (flat_row (fun _ _ _ _ h => h)) flat_nil))) ?_
      rintro _ w476 _ Γ' E' S ⟨A473, c474, rfl, rfl⟩
      replace E := E.trans E'
      clear E'
      replace S : St w476 M F [Blk b198 (.cells #[.slice A473 t471.2.l.length c474, .int .i64 t471.2.last] 47 (0, 0)), Row r_status_writer 49 (.slice A473 t471.2.l.length c474) t471.2.l] := S
      refine W_yes (congrArg some hb463) ?_
      refine W_v (.bool (t471.1 != (1 : Int))) (x_ibin rfl rfl rfl rfl) rfl ?_
      refine W_v (.bool (t471.1 != (1 : Int))) (x_pick (k := false) (congrArg Value.bool hb463) rfl) rfl ?_
      refine Wl_nil ?_
      exact ⟨(t471.1 != (1 : Int)), t471.2.l, t471.2.last, A473, c474, Option.some.inj H, ⟨rfl, rfl, trivial⟩, E, S.pick [1, 0] (by decide)⟩
  clear o470h
  rintro ρ w479 ⟨x464, x465, x469, A466, c467, rfl, hρ, E, S⟩
  rw [agree_eta hρ]
  clear hρ
  have H := o470H
  clear o470H
  refine W_v (.bool x464) (x_move rfl) rfl ?_
  obtain ⟨o503, o503h, o503H⟩ := bindS H
  clear H
  refine Wl_cutN 4 (fun ρ w' => ∃ (x497 : Bool) (x498 : List status_writer) (x502 : Int) (A499 : Option Addr) (c500 : Nat), (x497, x498, x502) = o503 ∧ Agree ρ [(2, .pointer (some ⟨b198, 0, none⟩)), (117, .bool x497)] ∧ Ext w w' ∧ St w' M F [Row r_status_writer 49 (.slice A499 x498.length c500) x498, Blk b198 (.cells #[.slice A499 x498.length c500, .int .i64 x502] 47 (0, 0))]) ?_ ?_
  · have H := o503h
    rcases iteS H with ⟨hb496, H⟩ | ⟨hb496, H⟩
    · skip
      refine W_no (skF hb496) rfl ?_
      refine W_no (skF hb496) rfl ?_
      refine W_no (skF hb496) rfl ?_
      refine W_v (.bool true) (x_pick (k := true) (congrArg Value.bool hb496) rfl) rfl ?_
      refine Wl_nil ?_
      exact ⟨true, x465, x469, A466, c467, Option.some.inj H, ⟨rfl, rfl, trivial⟩, E, S.pick [0, 1] (by decide)⟩
    · skip
      refine W_yes (congrArg some hb496) ?_
      refine W_v (.pointer (some ⟨b198, 0, none⟩)) (x_move rfl) rfl ?_
      refine W_yes (congrArg some hb496) ?_
      obtain ⟨t504, ht505, H⟩ := bindS H
      replace S : St w479 M F [Blk b198 (.cells #[.slice A466 x465.length c467, .int .i64 x469] 47 (0, 0)), Row r_status_writer 49 (.slice A466 x465.length c467) x465] := S.pick [1, 0] (by decide)
      refine W_callF2 fn17 (status_Writers_Commit_PO.con k M A466 c467 (⟨x465, x469⟩ : status_Writers) (1 : Int) (1048576 : Int) b198 t504 hg0 ht505) (Γ1 := [Blk b198 (.cells #[.slice A466 x465.length c467, .int .i64 x469] 47 (0, 0)), Row r_status_writer 49 (.slice A466 x465.length c467) x465]) (Γ2 := []) S rfl rfl (by rintro _ _ _ ⟨_, _, rfl, rfl⟩; exact (flat_cons flat_blk (flat_cons (flat_row (fun _ _ _ _ h => h)) flat_nil))) ?_
      rintro _ w509 _ Γ' E' S ⟨A506, c507, rfl, rfl⟩
      replace E := E.trans E'
      clear E'
      replace S : St w509 M F [Blk b198 (.cells #[.slice A506 t504.2.l.length c507, .int .i64 t504.2.last] 47 (0, 0)), Row r_status_writer 49 (.slice A506 t504.2.l.length c507) t504.2.l] := S
      refine W_yes (congrArg some hb496) ?_
      refine W_v (.bool (t504.1 != (0 : Int))) (x_ibin rfl rfl rfl rfl) rfl ?_
      refine W_v (.bool (t504.1 != (0 : Int))) (x_pick (k := false) (congrArg Value.bool hb496) rfl) rfl ?_
      refine Wl_nil ?_
      exact ⟨(t504.1 != (0 : Int)), t504.2.l, t504.2.last, A506, c507, Option.some.inj H, ⟨rfl, rfl, trivial⟩, E, S.pick [1, 0] (by decide)⟩
  clear o503h
  rintro ρ w512 ⟨x497, x498, x502, A499, c500, rfl, hρ, E, S⟩
  rw [agree_eta hρ]
  clear hρ
  have H := o503H
  clear o503H
  refine W_v (.bool x497) (x_move rfl) rfl ?_
  obtain ⟨o536, o536h, o536H⟩ := bindS H
  clear H
  refine Wl_cutN 4 (fun ρ w' => ∃ (x530 : Bool) (x531 : List status_writer) (x535 : Int) (A532 : Option Addr) (c533 : Nat), (x530, x531, x535) = o536 ∧ Agree ρ [(2, .pointer (some ⟨b198, 0, none⟩)), (122, .bool x530)] ∧ Ext w w' ∧ St w' M F [Row r_status_writer 49 (.slice A532 x531.length c533) x531, Blk b198 (.cells #[.slice A532 x531.length c533, .int .i64 x535] 47 (0, 0))]) ?_ ?_
  · have H := o536h
    rcases iteS H with ⟨hb529, H⟩ | ⟨hb529, H⟩
    · skip
      refine W_no (skF hb529) rfl ?_
      refine W_no (skF hb529) rfl ?_
      refine W_no (skF hb529) rfl ?_
      refine W_v (.bool true) (x_pick (k := true) (congrArg Value.bool hb529) rfl) rfl ?_
      refine Wl_nil ?_
      exact ⟨true, x498, x502, A499, c500, Option.some.inj H, ⟨rfl, rfl, trivial⟩, E, S.pick [0, 1] (by decide)⟩
    · skip
      refine W_yes (congrArg some hb529) ?_
      refine W_v (.pointer (some ⟨b198, 0, none⟩)) (x_move rfl) rfl ?_
      refine W_yes (congrArg some hb529) ?_
      obtain ⟨t537, ht538, H⟩ := bindS H
      replace S : St w512 M F [Blk b198 (.cells #[.slice A499 x498.length c500, .int .i64 x502] 47 (0, 0)), Row r_status_writer 49 (.slice A499 x498.length c500) x498] := S.pick [1, 0] (by decide)
      refine W_callF2 fn18 (status_Writers_Fall_PO.con k M A499 c500 (⟨x498, x502⟩ : status_Writers) (1 : Int) b198 t537 hg0 ht538) (Γ1 := [Blk b198 (.cells #[.slice A499 x498.length c500, .int .i64 x502] 47 (0, 0)), Row r_status_writer 49 (.slice A499 x498.length c500) x498]) (Γ2 := []) S rfl rfl (by rintro _ _ _ ⟨_, _, rfl, rfl⟩; exact (flat_cons flat_blk (flat_cons (flat_row (fun _ _ _ _ h => h)) flat_nil))) ?_
      rintro _ w542 _ Γ' E' S ⟨A539, c540, rfl, rfl⟩
      replace E := E.trans E'
      clear E'
      replace S : St w542 M F [Blk b198 (.cells #[.slice A539 t537.2.l.length c540, .int .i64 t537.2.last] 47 (0, 0)), Row r_status_writer 49 (.slice A539 t537.2.l.length c540) t537.2.l] := S
      refine W_yes (congrArg some hb529) ?_
      refine W_v (.bool (t537.1 != (7 : Int))) (x_ibin rfl rfl rfl rfl) rfl ?_
      refine W_v (.bool (t537.1 != (7 : Int))) (x_pick (k := false) (congrArg Value.bool hb529) rfl) rfl ?_
      refine Wl_nil ?_
      exact ⟨(t537.1 != (7 : Int)), t537.2.l, t537.2.last, A539, c540, Option.some.inj H, ⟨rfl, rfl, trivial⟩, E, S.pick [1, 0] (by decide)⟩
  clear o536h
  rintro ρ w545 ⟨x530, x531, x535, A532, c533, rfl, hρ, E, S⟩
  rw [agree_eta hρ]
  clear hρ
  have H := o536H
  clear o536H
  refine Wl_nil ?_
  refine tn ?_
  rcases iteS H with ⟨hb546, H⟩ | ⟨hb546, H⟩
  · refine Wp_cond_true (congrArg Value.bool hb546) ?_
    refine Wp_seq ?_
    refine Wp_region_lit ?_
    refine W_v (.bool false) (x_assign rfl) rfl ?_
    refine Wl_nil ?_
    refine tn ?_
    refine Wp_ret ?_
    refine tr (?_)
    obtain rfl := Option.some.inj H
    exact ⟨_, _, _, fun w1 e1 => run_resR (vs := [.bool false]) (FA.cons (rfl) (FA.nil)), HM, E, S.pick [] (by decide), ⟨rfl, rfl⟩⟩
  refine Wp_cond_false (congrArg Value.bool hb546) ?_
  refine Wp_skip ?_
  refine tn ?_
  refine Wp_seq ?_
  refine Wp_seq ?_
  refine Wp_region_lit ?_
  refine W_v (.pointer (some ⟨b198, 0, none⟩)) (x_move rfl) rfl ?_
  obtain ⟨t547, ht548, H⟩ := bindS H
  replace S : St w545 M F [Blk b198 (.cells #[.slice A532 x531.length c533, .int .i64 x535] 47 (0, 0)), Row r_status_writer 49 (.slice A532 x531.length c533) x531] := S.pick [1, 0] (by decide)
  refine W_callF2 fn16 (status_Writers_Begin_PO.con k M A532 c533 (⟨x531, x535⟩ : status_Writers) b198 t547 hg0 ht548) (Γ1 := [Blk b198 (.cells #[.slice A532 x531.length c533, .int .i64 x535] 47 (0, 0)), Row r_status_writer 49 (.slice A532 x531.length c533) x531]) (Γ2 := []) S rfl rfl (by rintro _ _ _ ⟨_, _, rfl, rfl⟩; exact (flat_cons flat_blk (flat_cons (flat_row (fun _ _ _ _ h => h)) flat_nil))) ?_
  rintro _ w552 _ Γ' E' S ⟨A549, c550, rfl, rfl⟩
  replace E := E.trans E'
  clear E'
  replace S : St w552 M F [Blk b198 (.cells #[.slice A549 t547.2.l.length c550, .int .i64 t547.2.last] 47 (0, 0)), Row r_status_writer 49 (.slice A549 t547.2.l.length c550) t547.2.l] := S
  refine W_v (.bool (t547.1 != (2 : Int))) (x_ibin rfl rfl rfl rfl) rfl ?_
  refine W_v (.bool (t547.1 != (2 : Int))) (x_move rfl) rfl ?_
  obtain ⟨o578, o578h, o578H⟩ := bindS H
  clear H
  refine Wl_cutN 4 (fun ρ w' => ∃ (x572 : Bool) (x573 : List status_writer) (x577 : Int) (A574 : Option Addr) (c575 : Nat), (x572, x573, x577) = o578 ∧ Agree ρ [(2, .pointer (some ⟨b198, 0, none⟩)), (130, .bool x572)] ∧ Ext w w' ∧ St w' M F [Row r_status_writer 49 (.slice A574 x573.length c575) x573, Blk b198 (.cells #[.slice A574 x573.length c575, .int .i64 x577] 47 (0, 0))]) ?_ ?_
  · have H := o578h
    rcases iteS H with ⟨hb571, H⟩ | ⟨hb571, H⟩
    · skip
      refine W_no (skF hb571) rfl ?_
      refine W_no (skF hb571) rfl ?_
      refine W_no (skF hb571) rfl ?_
      refine W_v (.bool true) (x_pick (k := true) (congrArg Value.bool hb571) rfl) rfl ?_
      refine Wl_nil ?_
      exact ⟨true, t547.2.l, t547.2.last, A549, c550, Option.some.inj H, ⟨rfl, rfl, trivial⟩, E, S.pick [1, 0] (by decide)⟩
    · skip
      refine W_yes (congrArg some hb571) ?_
      refine W_v (.pointer (some ⟨b198, 0, none⟩)) (x_move rfl) rfl ?_
      refine W_yes (congrArg some hb571) ?_
      obtain ⟨t579, ht580, H⟩ := bindS H
      refine W_callF2 fn17 (status_Writers_Commit_PO.con k M A549 c550 t547.2 (2 : Int) (1048576 : Int) b198 t579 hg0 ht580) (Γ1 := [Blk b198 (.cells #[.slice A549 t547.2.l.length c550, .int .i64 t547.2.last] 47 (0, 0)), Row r_status_writer 49 (.slice A549 t547.2.l.length c550) t547.2.l]) (Γ2 := []) S rfl rfl (by rintro _ _ _ ⟨_, _, rfl, rfl⟩; exact (flat_cons flat_blk (flat_cons (flat_row (fun _ _ _ _ h => h)) flat_nil))) ?_
      rintro _ w584 _ Γ' E' S ⟨A581, c582, rfl, rfl⟩
      replace E := E.trans E'
      clear E'
      replace S : St w584 M F [Blk b198 (.cells #[.slice A581 t579.2.l.length c582, .int .i64 t579.2.last] 47 (0, 0)), Row r_status_writer 49 (.slice A581 t579.2.l.length c582) t579.2.l] := S
      refine W_yes (congrArg some hb571) ?_
      refine W_v (.bool (t579.1 != (1 : Int))) (x_ibin rfl rfl rfl rfl) rfl ?_
      refine W_v (.bool (t579.1 != (1 : Int))) (x_pick (k := false) (congrArg Value.bool hb571) rfl) rfl ?_
      refine Wl_nil ?_
      exact ⟨(t579.1 != (1 : Int)), t579.2.l, t579.2.last, A581, c582, Option.some.inj H, ⟨rfl, rfl, trivial⟩, E, S.pick [1, 0] (by decide)⟩
  clear o578h
  rintro ρ w587 ⟨x572, x573, x577, A574, c575, rfl, hρ, E, S⟩
  rw [agree_eta hρ]
  clear hρ
  have H := o578H
  clear o578H
  refine W_v (.bool x572) (x_move rfl) rfl ?_
  obtain ⟨o611, o611h, o611H⟩ := bindS H
  clear H
  refine Wl_cutN 4 (fun ρ w' => ∃ (x605 : Bool) (x606 : List status_writer) (x610 : Int) (A607 : Option Addr) (c608 : Nat), (x605, x606, x610) = o611 ∧ Agree ρ [(2, .pointer (some ⟨b198, 0, none⟩)), (135, .bool x605)] ∧ Ext w w' ∧ St w' M F [Row r_status_writer 49 (.slice A607 x606.length c608) x606, Blk b198 (.cells #[.slice A607 x606.length c608, .int .i64 x610] 47 (0, 0))]) ?_ ?_
  · have H := o611h
    rcases iteS H with ⟨hb604, H⟩ | ⟨hb604, H⟩
    · skip
      refine W_no (skF hb604) rfl ?_
      refine W_no (skF hb604) rfl ?_
      refine W_no (skF hb604) rfl ?_
      refine W_v (.bool true) (x_pick (k := true) (congrArg Value.bool hb604) rfl) rfl ?_
      refine Wl_nil ?_
      exact ⟨true, x573, x577, A574, c575, Option.some.inj H, ⟨rfl, rfl, trivial⟩, E, S.pick [0, 1] (by decide)⟩
    · skip
      refine W_yes (congrArg some hb604) ?_
      refine W_v (.pointer (some ⟨b198, 0, none⟩)) (x_move rfl) rfl ?_
      refine W_yes (congrArg some hb604) ?_
      obtain ⟨t612, ht613, H⟩ := bindS H
      replace S : St w587 M F [Blk b198 (.cells #[.slice A574 x573.length c575, .int .i64 x577] 47 (0, 0)), Row r_status_writer 49 (.slice A574 x573.length c575) x573] := S.pick [1, 0] (by decide)
      refine W_callF2 fn17 (status_Writers_Commit_PO.con k M A574 c575 (⟨x573, x577⟩ : status_Writers) (2 : Int) (0 : Int) b198 t612 hg0 ht613) (Γ1 := [Blk b198 (.cells #[.slice A574 x573.length c575, .int .i64 x577] 47 (0, 0)), Row r_status_writer 49 (.slice A574 x573.length c575) x573]) (Γ2 := []) S rfl rfl (by rintro _ _ _ ⟨_, _, rfl, rfl⟩; exact (flat_cons flat_blk (flat_cons (flat_row (fun _ _ _ _ h => h)) flat_nil))) ?_
      rintro _ w617 _ Γ' E' S ⟨A614, c615, rfl, rfl⟩
      replace E := E.trans E'
      clear E'
      replace S : St w617 M F [Blk b198 (.cells #[.slice A614 t612.2.l.length c615, .int .i64 t612.2.last] 47 (0, 0)), Row r_status_writer 49 (.slice A614 t612.2.l.length c615) t612.2.l] := S
      refine W_yes (congrArg some hb604) ?_
      refine W_v (.bool (t612.1 != (0 : Int))) (x_ibin rfl rfl rfl rfl) rfl ?_
      refine W_v (.bool (t612.1 != (0 : Int))) (x_pick (k := false) (congrArg Value.bool hb604) rfl) rfl ?_
      refine Wl_nil ?_
      exact ⟨(t612.1 != (0 : Int)), t612.2.l, t612.2.last, A614, c615, Option.some.inj H, ⟨rfl, rfl, trivial⟩, E, S.pick [1, 0] (by decide)⟩
  clear o611h
  rintro ρ w620 ⟨x605, x606, x610, A607, c608, rfl, hρ, E, S⟩
  rw [agree_eta hρ]
  clear hρ
  have H := o611H
  clear o611H
  refine W_v (.bool x605) (x_move rfl) rfl ?_
  obtain ⟨o633, o633h, o633H⟩ := bindS H
  clear H
  refine Wl_cutN 4 (fun ρ w' => ∃ (x632 : Bool), (x632) = o633 ∧ Agree ρ [(2, .pointer (some ⟨b198, 0, none⟩)), (140, .bool x632)] ∧ Ext w w' ∧ St w' M F [Row r_status_writer 49 (.slice A607 x606.length c608) x606, Blk b198 (.cells #[.slice A607 x606.length c608, .int .i64 x610] 47 (0, 0))]) ?_ ?_
  · have H := o633h
    rcases iteS H with ⟨hb631, H⟩ | ⟨hb631, H⟩
    · skip
      refine W_no (skF hb631) rfl ?_
      refine W_no (skF hb631) rfl ?_
      refine W_no (skF hb631) rfl ?_
      refine W_v (.bool true) (x_pick (k := true) (congrArg Value.bool hb631) rfl) rfl ?_
      refine Wl_nil ?_
      exact ⟨true, Option.some.inj H, ⟨rfl, rfl, trivial⟩, E, S.pick [0, 1] (by decide)⟩
    · skip
      refine W_yes (congrArg some hb631) ?_
      refine W_v (.pointer (some ⟨b198, 0, none⟩)) (x_move rfl) rfl ?_
      refine W_yes (congrArg some hb631) ?_
      obtain ⟨t634, ht635, H⟩ := bindS H
      replace S : St w620 M F [Blk b198 (.cells #[.slice A607 x606.length c608, .int .i64 x610] 47 (0, 0)), Row r_status_writer 49 (.slice A607 x606.length c608) x606] := S.pick [1, 0] (by decide)
      refine W_callF2 fn20 (ferrymanlaw08_is_PO.con k M A607 c608 (⟨x606, x610⟩ : status_Writers) (2 : Int) (3 : Int) (0 : Int) b198 t634 hg0 ht635) (Γ1 := [Blk b198 (.cells #[.slice A607 x606.length c608, .int .i64 x610] 47 (0, 0)), Row r_status_writer 49 (.slice A607 x606.length c608) x606]) (Γ2 := []) S rfl rfl (by rintro _ _ _ ⟨rfl, rfl⟩; exact (flat_cons flat_blk (flat_cons (flat_row (fun _ _ _ _ h => h)) flat_nil))) ?_
      rintro _ w636 _ Γ' E' S ⟨rfl, rfl⟩
      replace E := E.trans E'
      clear E'
      replace S : St w636 M F [Blk b198 (.cells #[.slice A607 x606.length c608, .int .i64 x610] 47 (0, 0)), Row r_status_writer 49 (.slice A607 x606.length c608) x606] := S
      refine W_yes (congrArg some hb631) ?_
      refine W_v (.bool (!t634)) (x_not rfl) rfl ?_
      refine W_v (.bool (!t634)) (x_pick (k := false) (congrArg Value.bool hb631) rfl) rfl ?_
      refine Wl_nil ?_
      exact ⟨(!t634), Option.some.inj H, ⟨rfl, rfl, trivial⟩, E, S.pick [1, 0] (by decide)⟩
  clear o633h
  rintro ρ w639 ⟨x632, rfl, hρ, E, S⟩
  rw [agree_eta hρ]
  clear hρ
  have H := o633H
  clear o633H
  refine W_v (.bool x632) (x_move rfl) rfl ?_
  obtain ⟨o652, o652h, o652H⟩ := bindS H
  clear H
  refine Wl_cutN 4 (fun ρ w' => ∃ (x651 : Bool), (x651) = o652 ∧ Agree ρ [(2, .pointer (some ⟨b198, 0, none⟩)), (145, .bool x651)] ∧ Ext w w' ∧ St w' M F [Row r_status_writer 49 (.slice A607 x606.length c608) x606, Blk b198 (.cells #[.slice A607 x606.length c608, .int .i64 x610] 47 (0, 0))]) ?_ ?_
  · have H := o652h
    rcases iteS H with ⟨hb650, H⟩ | ⟨hb650, H⟩
    · skip
      refine W_no (skF hb650) rfl ?_
      refine W_no (skF hb650) rfl ?_
      refine W_no (skF hb650) rfl ?_
      refine W_v (.bool true) (x_pick (k := true) (congrArg Value.bool hb650) rfl) rfl ?_
      refine Wl_nil ?_
      exact ⟨true, Option.some.inj H, ⟨rfl, rfl, trivial⟩, E, S.pick [0, 1] (by decide)⟩
    · skip
      refine W_yes (congrArg some hb650) ?_
      refine W_v (.pointer (some ⟨b198, 0, none⟩)) (x_move rfl) rfl ?_
      refine W_yes (congrArg some hb650) ?_
      obtain ⟨t653, ht654, H⟩ := bindS H
      replace S : St w639 M F [Blk b198 (.cells #[.slice A607 x606.length c608, .int .i64 x610] 47 (0, 0)), Row r_status_writer 49 (.slice A607 x606.length c608) x606] := S.pick [1, 0] (by decide)
      refine W_callF2 fn21 (status_Writers_Last_PO.con k M A607 c608 (⟨x606, x610⟩ : status_Writers) b198 t653 hg0 ht654) (Γ1 := [Blk b198 (.cells #[.slice A607 x606.length c608, .int .i64 x610] 47 (0, 0)), Row r_status_writer 49 (.slice A607 x606.length c608) x606]) (Γ2 := []) S rfl rfl (by rintro _ _ _ ⟨rfl, rfl⟩; exact (flat_cons flat_blk (flat_cons (flat_row (fun _ _ _ _ h => h)) flat_nil))) ?_
      rintro _ w655 _ Γ' E' S ⟨rfl, rfl⟩
      replace E := E.trans E'
      clear E'
      replace S : St w655 M F [Blk b198 (.cells #[.slice A607 x606.length c608, .int .i64 x610] 47 (0, 0)), Row r_status_writer 49 (.slice A607 x606.length c608) x606] := S
      refine W_yes (congrArg some hb650) ?_
      refine W_v (.bool (t653 != (1048576 : Int))) (x_ibin rfl rfl rfl rfl) rfl ?_
      refine W_v (.bool (t653 != (1048576 : Int))) (x_pick (k := false) (congrArg Value.bool hb650) rfl) rfl ?_
      refine Wl_nil ?_
      exact ⟨(t653 != (1048576 : Int)), Option.some.inj H, ⟨rfl, rfl, trivial⟩, E, S.pick [1, 0] (by decide)⟩
  clear o652h
  rintro ρ w658 ⟨x651, rfl, hρ, E, S⟩
  rw [agree_eta hρ]
  clear hρ
  have H := o652H
  clear o652H
  refine W_v (.bool x651) (x_move rfl) rfl ?_
  obtain ⟨o682, o682h, o682H⟩ := bindS H
  clear H
  refine Wl_cutN 4 (fun ρ w' => ∃ (x676 : Bool) (x677 : List status_writer) (x681 : Int) (A678 : Option Addr) (c679 : Nat), (x676, x677, x681) = o682 ∧ Agree ρ [(2, .pointer (some ⟨b198, 0, none⟩)), (150, .bool x676)] ∧ Ext w w' ∧ St w' M F [Row r_status_writer 49 (.slice A678 x677.length c679) x677, Blk b198 (.cells #[.slice A678 x677.length c679, .int .i64 x681] 47 (0, 0))]) ?_ ?_
  · have H := o682h
    rcases iteS H with ⟨hb675, H⟩ | ⟨hb675, H⟩
    · skip
      refine W_no (skF hb675) rfl ?_
      refine W_no (skF hb675) rfl ?_
      refine W_no (skF hb675) rfl ?_
      refine W_v (.bool true) (x_pick (k := true) (congrArg Value.bool hb675) rfl) rfl ?_
      refine Wl_nil ?_
      exact ⟨true, x606, x610, A607, c608, Option.some.inj H, ⟨rfl, rfl, trivial⟩, E, S.pick [0, 1] (by decide)⟩
    · skip
      refine W_yes (congrArg some hb675) ?_
      refine W_v (.pointer (some ⟨b198, 0, none⟩)) (x_move rfl) rfl ?_
      refine W_yes (congrArg some hb675) ?_
      obtain ⟨t683, ht684, H⟩ := bindS H
      replace S : St w658 M F [Blk b198 (.cells #[.slice A607 x606.length c608, .int .i64 x610] 47 (0, 0)), Row r_status_writer 49 (.slice A607 x606.length c608) x606] := S.pick [1, 0] (by decide)
      refine W_callF2 fn16 (status_Writers_Begin_PO.con k M A607 c608 (⟨x606, x610⟩ : status_Writers) b198 t683 hg0 ht684) (Γ1 := [Blk b198 (.cells #[.slice A607 x606.length c608, .int .i64 x610] 47 (0, 0)), Row r_status_writer 49 (.slice A607 x606.length c608) x606]) (Γ2 := []) S rfl rfl (by rintro _ _ _ ⟨_, _, rfl, rfl⟩; exact (flat_cons flat_blk (flat_cons (flat_row (fun _ _ _ _ h => h)) flat_nil))) ?_
      rintro _ w688 _ Γ' E' S ⟨A685, c686, rfl, rfl⟩
      replace E := E.trans E'
      clear E'
      replace S : St w688 M F [Blk b198 (.cells #[.slice A685 t683.2.l.length c686, .int .i64 t683.2.last] 47 (0, 0)), Row r_status_writer 49 (.slice A685 t683.2.l.length c686) t683.2.l] := S
      refine W_yes (congrArg some hb675) ?_
      refine W_v (.bool (t683.1 != (3 : Int))) (x_ibin rfl rfl rfl rfl) rfl ?_
      refine W_v (.bool (t683.1 != (3 : Int))) (x_pick (k := false) (congrArg Value.bool hb675) rfl) rfl ?_
      refine Wl_nil ?_
      exact ⟨(t683.1 != (3 : Int)), t683.2.l, t683.2.last, A685, c686, Option.some.inj H, ⟨rfl, rfl, trivial⟩, E, S.pick [1, 0] (by decide)⟩
  clear o682h
  rintro ρ w691 ⟨x676, x677, x681, A678, c679, rfl, hρ, E, S⟩
  rw [agree_eta hρ]
  clear hρ
  have H := o682H
  clear o682H
  refine W_v (.bool x676) (x_move rfl) rfl ?_
  obtain ⟨o715, o715h, o715H⟩ := bindS H
  clear H
  refine Wl_cutN 4 (fun ρ w' => ∃ (x709 : Bool) (x710 : List status_writer) (x714 : Int) (A711 : Option Addr) (c712 : Nat), (x709, x710, x714) = o715 ∧ Agree ρ [(2, .pointer (some ⟨b198, 0, none⟩)), (155, .bool x709)] ∧ Ext w w' ∧ St w' M F [Row r_status_writer 49 (.slice A711 x710.length c712) x710, Blk b198 (.cells #[.slice A711 x710.length c712, .int .i64 x714] 47 (0, 0))]) ?_ ?_
  · have H := o715h
    rcases iteS H with ⟨hb708, H⟩ | ⟨hb708, H⟩
    · skip
      refine W_no (skF hb708) rfl ?_
      refine W_no (skF hb708) rfl ?_
      refine W_no (skF hb708) rfl ?_
      refine W_v (.bool true) (x_pick (k := true) (congrArg Value.bool hb708) rfl) rfl ?_
      refine Wl_nil ?_
      exact ⟨true, x677, x681, A678, c679, Option.some.inj H, ⟨rfl, rfl, trivial⟩, E, S.pick [0, 1] (by decide)⟩
    · skip
      refine W_yes (congrArg some hb708) ?_
      refine W_v (.pointer (some ⟨b198, 0, none⟩)) (x_move rfl) rfl ?_
      refine W_yes (congrArg some hb708) ?_
      obtain ⟨t716, ht717, H⟩ := bindS H
      replace S : St w691 M F [Blk b198 (.cells #[.slice A678 x677.length c679, .int .i64 x681] 47 (0, 0)), Row r_status_writer 49 (.slice A678 x677.length c679) x677] := S.pick [1, 0] (by decide)
      refine W_callF2 fn18 (status_Writers_Fall_PO.con k M A678 c679 (⟨x677, x681⟩ : status_Writers) (3 : Int) b198 t716 hg0 ht717) (Γ1 := [Blk b198 (.cells #[.slice A678 x677.length c679, .int .i64 x681] 47 (0, 0)), Row r_status_writer 49 (.slice A678 x677.length c679) x677]) (Γ2 := []) S rfl rfl (by rintro _ _ _ ⟨_, _, rfl, rfl⟩; exact (flat_cons flat_blk (flat_cons (flat_row (fun _ _ _ _ h => h)) flat_nil))) ?_
      rintro _ w721 _ Γ' E' S ⟨A718, c719, rfl, rfl⟩
      replace E := E.trans E'
      clear E'
      replace S : St w721 M F [Blk b198 (.cells #[.slice A718 t716.2.l.length c719, .int .i64 t716.2.last] 47 (0, 0)), Row r_status_writer 49 (.slice A718 t716.2.l.length c719) t716.2.l] := S
      refine W_yes (congrArg some hb708) ?_
      refine W_v (.bool (t716.1 != (0 : Int))) (x_ibin rfl rfl rfl rfl) rfl ?_
      refine W_v (.bool (t716.1 != (0 : Int))) (x_pick (k := false) (congrArg Value.bool hb708) rfl) rfl ?_
      refine Wl_nil ?_
      exact ⟨(t716.1 != (0 : Int)), t716.2.l, t716.2.last, A718, c719, Option.some.inj H, ⟨rfl, rfl, trivial⟩, E, S.pick [1, 0] (by decide)⟩
  clear o715h
  rintro ρ w724 ⟨x709, x710, x714, A711, c712, rfl, hρ, E, S⟩
  rw [agree_eta hρ]
  clear hρ
  have H := o715H
  clear o715H
  refine W_v (.bool x709) (x_move rfl) rfl ?_
  obtain ⟨o748, o748h, o748H⟩ := bindS H
  clear H
  refine Wl_cutN 4 (fun ρ w' => ∃ (x742 : Bool) (x743 : List status_writer) (x747 : Int) (A744 : Option Addr) (c745 : Nat), (x742, x743, x747) = o748 ∧ Agree ρ [(2, .pointer (some ⟨b198, 0, none⟩)), (160, .bool x742)] ∧ Ext w w' ∧ St w' M F [Row r_status_writer 49 (.slice A744 x743.length c745) x743, Blk b198 (.cells #[.slice A744 x743.length c745, .int .i64 x747] 47 (0, 0))]) ?_ ?_
  · have H := o748h
    rcases iteS H with ⟨hb741, H⟩ | ⟨hb741, H⟩
    · skip
      refine W_no (skF hb741) rfl ?_
      refine W_no (skF hb741) rfl ?_
      refine W_no (skF hb741) rfl ?_
      refine W_v (.bool true) (x_pick (k := true) (congrArg Value.bool hb741) rfl) rfl ?_
      refine Wl_nil ?_
      exact ⟨true, x710, x714, A711, c712, Option.some.inj H, ⟨rfl, rfl, trivial⟩, E, S.pick [0, 1] (by decide)⟩
    · skip
      refine W_yes (congrArg some hb741) ?_
      refine W_v (.pointer (some ⟨b198, 0, none⟩)) (x_move rfl) rfl ?_
      refine W_yes (congrArg some hb741) ?_
      obtain ⟨t749, ht750, H⟩ := bindS H
      replace S : St w724 M F [Blk b198 (.cells #[.slice A711 x710.length c712, .int .i64 x714] 47 (0, 0)), Row r_status_writer 49 (.slice A711 x710.length c712) x710] := S.pick [1, 0] (by decide)
      refine W_callF2 fn18 (status_Writers_Fall_PO.con k M A711 c712 (⟨x710, x714⟩ : status_Writers) (3 : Int) b198 t749 hg0 ht750) (Γ1 := [Blk b198 (.cells #[.slice A711 x710.length c712, .int .i64 x714] 47 (0, 0)), Row r_status_writer 49 (.slice A711 x710.length c712) x710]) (Γ2 := []) S rfl rfl (by rintro _ _ _ ⟨_, _, rfl, rfl⟩; exact (flat_cons flat_blk (flat_cons (flat_row (fun _ _ _ _ h => h)) flat_nil))) ?_
      rintro _ w754 _ Γ' E' S ⟨A751, c752, rfl, rfl⟩
      replace E := E.trans E'
      clear E'
      replace S : St w754 M F [Blk b198 (.cells #[.slice A751 t749.2.l.length c752, .int .i64 t749.2.last] 47 (0, 0)), Row r_status_writer 49 (.slice A751 t749.2.l.length c752) t749.2.l] := S
      refine W_yes (congrArg some hb741) ?_
      refine W_v (.bool (t749.1 != (7 : Int))) (x_ibin rfl rfl rfl rfl) rfl ?_
      refine W_v (.bool (t749.1 != (7 : Int))) (x_pick (k := false) (congrArg Value.bool hb741) rfl) rfl ?_
      refine Wl_nil ?_
      exact ⟨(t749.1 != (7 : Int)), t749.2.l, t749.2.last, A751, c752, Option.some.inj H, ⟨rfl, rfl, trivial⟩, E, S.pick [1, 0] (by decide)⟩
  clear o748h
  rintro ρ w757 ⟨x742, x743, x747, A744, c745, rfl, hρ, E, S⟩
  rw [agree_eta hρ]
  clear hρ
  have H := o748H
  clear o748H
  refine W_v (.bool x742) (x_move rfl) rfl ?_
  obtain ⟨o770, o770h, o770H⟩ := bindS H
  clear H
  refine Wl_cutN 4 (fun ρ w' => ∃ (x769 : Bool), (x769) = o770 ∧ Agree ρ [(2, .pointer (some ⟨b198, 0, none⟩)), (165, .bool x769)] ∧ Ext w w' ∧ St w' M F [Row r_status_writer 49 (.slice A744 x743.length c745) x743, Blk b198 (.cells #[.slice A744 x743.length c745, .int .i64 x747] 47 (0, 0))]) ?_ ?_
  · have H := o770h
    rcases iteS H with ⟨hb768, H⟩ | ⟨hb768, H⟩
    · skip
      refine W_no (skF hb768) rfl ?_
      refine W_no (skF hb768) rfl ?_
      refine W_no (skF hb768) rfl ?_
      refine W_v (.bool true) (x_pick (k := true) (congrArg Value.bool hb768) rfl) rfl ?_
      refine Wl_nil ?_
      exact ⟨true, Option.some.inj H, ⟨rfl, rfl, trivial⟩, E, S.pick [0, 1] (by decide)⟩
    · skip
      refine W_yes (congrArg some hb768) ?_
      refine W_v (.pointer (some ⟨b198, 0, none⟩)) (x_move rfl) rfl ?_
      refine W_yes (congrArg some hb768) ?_
      obtain ⟨t771, ht772, H⟩ := bindS H
      replace S : St w757 M F [Blk b198 (.cells #[.slice A744 x743.length c745, .int .i64 x747] 47 (0, 0)), Row r_status_writer 49 (.slice A744 x743.length c745) x743] := S.pick [1, 0] (by decide)
      refine W_callF2 fn20 (ferrymanlaw08_is_PO.con k M A744 c745 (⟨x743, x747⟩ : status_Writers) (3 : Int) (2 : Int) (0 : Int) b198 t771 hg0 ht772) (Γ1 := [Blk b198 (.cells #[.slice A744 x743.length c745, .int .i64 x747] 47 (0, 0)), Row r_status_writer 49 (.slice A744 x743.length c745) x743]) (Γ2 := []) S rfl rfl (by rintro _ _ _ ⟨rfl, rfl⟩; exact (flat_cons flat_blk (flat_cons (flat_row (fun _ _ _ _ h => h)) flat_nil))) ?_
      rintro _ w773 _ Γ' E' S ⟨rfl, rfl⟩
      replace E := E.trans E'
      clear E'
      replace S : St w773 M F [Blk b198 (.cells #[.slice A744 x743.length c745, .int .i64 x747] 47 (0, 0)), Row r_status_writer 49 (.slice A744 x743.length c745) x743] := S
      refine W_yes (congrArg some hb768) ?_
      refine W_v (.bool (!t771)) (x_not rfl) rfl ?_
      refine W_v (.bool (!t771)) (x_pick (k := false) (congrArg Value.bool hb768) rfl) rfl ?_
      refine Wl_nil ?_
      exact ⟨(!t771), Option.some.inj H, ⟨rfl, rfl, trivial⟩, E, S.pick [1, 0] (by decide)⟩
  clear o770h
  rintro ρ w776 ⟨x769, rfl, hρ, E, S⟩
  rw [agree_eta hρ]
  clear hρ
  have H := o770H
  clear o770H
  refine W_v (.bool x769) (x_move rfl) rfl ?_
  obtain ⟨o800, o800h, o800H⟩ := bindS H
  clear H
  refine Wl_cutN 4 (fun ρ w' => ∃ (x794 : Bool) (x795 : List status_writer) (x799 : Int) (A796 : Option Addr) (c797 : Nat), (x794, x795, x799) = o800 ∧ Agree ρ [(2, .pointer (some ⟨b198, 0, none⟩)), (170, .bool x794)] ∧ Ext w w' ∧ St w' M F [Row r_status_writer 49 (.slice A796 x795.length c797) x795, Blk b198 (.cells #[.slice A796 x795.length c797, .int .i64 x799] 47 (0, 0))]) ?_ ?_
  · have H := o800h
    rcases iteS H with ⟨hb793, H⟩ | ⟨hb793, H⟩
    · skip
      refine W_no (skF hb793) rfl ?_
      refine W_no (skF hb793) rfl ?_
      refine W_no (skF hb793) rfl ?_
      refine W_v (.bool true) (x_pick (k := true) (congrArg Value.bool hb793) rfl) rfl ?_
      refine Wl_nil ?_
      exact ⟨true, x743, x747, A744, c745, Option.some.inj H, ⟨rfl, rfl, trivial⟩, E, S.pick [0, 1] (by decide)⟩
    · skip
      refine W_yes (congrArg some hb793) ?_
      refine W_v (.pointer (some ⟨b198, 0, none⟩)) (x_move rfl) rfl ?_
      refine W_yes (congrArg some hb793) ?_
      obtain ⟨t801, ht802, H⟩ := bindS H
      replace S : St w776 M F [Blk b198 (.cells #[.slice A744 x743.length c745, .int .i64 x747] 47 (0, 0)), Row r_status_writer 49 (.slice A744 x743.length c745) x743] := S.pick [1, 0] (by decide)
      refine W_callF2 fn19 (status_Writers_Fallen_PO.con k M A744 c745 (⟨x743, x747⟩ : status_Writers) (3 : Int) b198 t801 hg0 ht802) (Γ1 := [Blk b198 (.cells #[.slice A744 x743.length c745, .int .i64 x747] 47 (0, 0)), Row r_status_writer 49 (.slice A744 x743.length c745) x743]) (Γ2 := []) S rfl rfl (by rintro _ _ _ ⟨_, _, rfl, rfl⟩; exact (flat_cons flat_blk (flat_cons (flat_row (fun _ _ _ _ h => h)) flat_nil))) ?_
      rintro _ w806 _ Γ' E' S ⟨A803, c804, rfl, rfl⟩
      replace E := E.trans E'
      clear E'
      replace S : St w806 M F [Blk b198 (.cells #[.slice A803 t801.2.l.length c804, .int .i64 t801.2.last] 47 (0, 0)), Row r_status_writer 49 (.slice A803 t801.2.l.length c804) t801.2.l] := S
      refine W_yes (congrArg some hb793) ?_
      refine W_v (.bool (t801.1 != (0 : Int))) (x_ibin rfl rfl rfl rfl) rfl ?_
      refine W_v (.bool (t801.1 != (0 : Int))) (x_pick (k := false) (congrArg Value.bool hb793) rfl) rfl ?_
      refine Wl_nil ?_
      exact ⟨(t801.1 != (0 : Int)), t801.2.l, t801.2.last, A803, c804, Option.some.inj H, ⟨rfl, rfl, trivial⟩, E, S.pick [1, 0] (by decide)⟩
  clear o800h
  rintro ρ w809 ⟨x794, x795, x799, A796, c797, rfl, hρ, E, S⟩
  rw [agree_eta hρ]
  clear hρ
  have H := o800H
  clear o800H
  refine Wl_nil ?_
  refine tn ?_
  rcases iteS H with ⟨hb810, H⟩ | ⟨hb810, H⟩
  · refine Wp_cond_true (congrArg Value.bool hb810) ?_
    refine Wp_seq ?_
    refine Wp_region_lit ?_
    refine W_v (.bool false) (x_assign rfl) rfl ?_
    refine Wl_nil ?_
    refine tn ?_
    refine Wp_ret ?_
    refine tr (?_)
    obtain rfl := Option.some.inj H
    exact ⟨_, _, _, fun w1 e1 => run_resR (vs := [.bool false]) (FA.cons (rfl) (FA.nil)), HM, E, S.pick [] (by decide), ⟨rfl, rfl⟩⟩
  refine Wp_cond_false (congrArg Value.bool hb810) ?_
  refine Wp_skip ?_
  refine tn ?_
  refine Wp_seq ?_
  refine Wp_region_lit ?_
  refine W_v (.pointer (some ⟨b198, 0, none⟩)) (x_move rfl) rfl ?_
  obtain ⟨t811, ht812, H⟩ := bindS H
  replace S : St w809 M F [Blk b198 (.cells #[.slice A796 x795.length c797, .int .i64 x799] 47 (0, 0)), Row r_status_writer 49 (.slice A796 x795.length c797) x795] := S.pick [1, 0] (by decide)
  refine W_callF2 fn19 (status_Writers_Fallen_PO.con k M A796 c797 (⟨x795, x799⟩ : status_Writers) (3 : Int) b198 t811 hg0 ht812) (Γ1 := [Blk b198 (.cells #[.slice A796 x795.length c797, .int .i64 x799] 47 (0, 0)), Row r_status_writer 49 (.slice A796 x795.length c797) x795]) (Γ2 := []) S rfl rfl (by rintro _ _ _ ⟨_, _, rfl, rfl⟩; exact (flat_cons flat_blk (flat_cons (flat_row (fun _ _ _ _ h => h)) flat_nil))) ?_
  rintro _ w816 _ Γ' E' S ⟨A813, c814, rfl, rfl⟩
  replace E := E.trans E'
  clear E'
  replace S : St w816 M F [Blk b198 (.cells #[.slice A813 t811.2.l.length c814, .int .i64 t811.2.last] 47 (0, 0)), Row r_status_writer 49 (.slice A813 t811.2.l.length c814) t811.2.l] := S
  refine W_v (.bool (t811.1 == (7 : Int))) (x_ibin rfl rfl rfl rfl) rfl ?_
  refine W_v (.bool (t811.1 == (7 : Int))) (x_move rfl) rfl ?_
  obtain ⟨o842, o842h, o842H⟩ := bindS H
  clear H
  refine Wl_cutN 4 (fun ρ w' => ∃ (x836 : Bool) (x837 : List status_writer) (x841 : Int) (A838 : Option Addr) (c839 : Nat), (x836, x837, x841) = o842 ∧ Agree ρ [(2, .pointer (some ⟨b198, 0, none⟩)), (178, .bool x836)] ∧ Ext w w' ∧ St w' M F [Row r_status_writer 49 (.slice A838 x837.length c839) x837, Blk b198 (.cells #[.slice A838 x837.length c839, .int .i64 x841] 47 (0, 0))]) ?_ ?_
  · have H := o842h
    rcases iteS H with ⟨hb835, H⟩ | ⟨hb835, H⟩
    · skip
      refine W_yes (congrArg some hb835) ?_
      refine W_v (.pointer (some ⟨b198, 0, none⟩)) (x_move rfl) rfl ?_
      refine W_yes (congrArg some hb835) ?_
      obtain ⟨t843, ht844, H⟩ := bindS H
      refine W_callF2 fn17 (status_Writers_Commit_PO.con k M A813 c814 t811.2 (3 : Int) (0 : Int) b198 t843 hg0 ht844) (Γ1 := [Blk b198 (.cells #[.slice A813 t811.2.l.length c814, .int .i64 t811.2.last] 47 (0, 0)), Row r_status_writer 49 (.slice A813 t811.2.l.length c814) t811.2.l]) (Γ2 := []) S rfl rfl (by rintro _ _ _ ⟨_, _, rfl, rfl⟩; exact (flat_cons flat_blk (flat_cons (flat_row (fun _ _ _ _ h => h)) flat_nil))) ?_
      rintro _ w848 _ Γ' E' S ⟨A845, c846, rfl, rfl⟩
      replace E := E.trans E'
      clear E'
      replace S : St w848 M F [Blk b198 (.cells #[.slice A845 t843.2.l.length c846, .int .i64 t843.2.last] 47 (0, 0)), Row r_status_writer 49 (.slice A845 t843.2.l.length c846) t843.2.l] := S
      refine W_yes (congrArg some hb835) ?_
      refine W_v (.bool (t843.1 == (7 : Int))) (x_ibin rfl rfl rfl rfl) rfl ?_
      refine W_v (.bool (t843.1 == (7 : Int))) (x_pick (k := true) (congrArg Value.bool hb835) rfl) rfl ?_
      refine Wl_nil ?_
      exact ⟨(t843.1 == (7 : Int)), t843.2.l, t843.2.last, A845, c846, Option.some.inj H, ⟨rfl, rfl, trivial⟩, E, S.pick [1, 0] (by decide)⟩
    · skip
      refine W_no (skT hb835) rfl ?_
      refine W_no (skT hb835) rfl ?_
      refine W_no (skT hb835) rfl ?_
      refine W_v (.bool false) (x_pick (k := false) (congrArg Value.bool hb835) rfl) rfl ?_
      refine Wl_nil ?_
      exact ⟨false, t811.2.l, t811.2.last, A813, c814, Option.some.inj H, ⟨rfl, rfl, trivial⟩, E, S.pick [1, 0] (by decide)⟩
  clear o842h
  rintro ρ w851 ⟨x836, x837, x841, A838, c839, rfl, hρ, E, S⟩
  rw [agree_eta hρ]
  clear hρ
  have H := o842H
  clear o842H
  refine W_v (.bool x836) (x_move rfl) rfl ?_
  obtain ⟨o875, o875h, o875H⟩ := bindS H
  clear H
  refine Wl_cutN 4 (fun ρ w' => ∃ (x869 : Bool), (x869) = o875 ∧ Agree ρ [(183, .bool x869)] ∧ Ext w w' ∧ St w' M F []) ?_ ?_
  · have H := o875h
    rcases iteS H with ⟨hb868, H⟩ | ⟨hb868, H⟩
    · skip
      refine W_yes (congrArg some hb868) ?_
      refine W_v (.pointer (some ⟨b198, 0, none⟩)) (x_move rfl) rfl ?_
      refine W_yes (congrArg some hb868) ?_
      obtain ⟨t876, ht877, H⟩ := bindS H
      replace S : St w851 M F [Blk b198 (.cells #[.slice A838 x837.length c839, .int .i64 x841] 47 (0, 0)), Row r_status_writer 49 (.slice A838 x837.length c839) x837] := S.pick [1, 0] (by decide)
      refine W_callF2 fn17 (status_Writers_Commit_PO.con k M A838 c839 (⟨x837, x841⟩ : status_Writers) (4 : Int) (0 : Int) b198 t876 hg0 ht877) (Γ1 := [Blk b198 (.cells #[.slice A838 x837.length c839, .int .i64 x841] 47 (0, 0)), Row r_status_writer 49 (.slice A838 x837.length c839) x837]) (Γ2 := []) S rfl rfl (by rintro _ _ _ ⟨_, _, rfl, rfl⟩; exact (flat_cons flat_blk (flat_cons (flat_row (fun _ _ _ _ h => h)) flat_nil))) ?_
      rintro _ w881 _ Γ' E' S ⟨A878, c879, rfl, rfl⟩
      replace E := E.trans E'
      clear E'
      replace S : St w881 M F [Blk b198 (.cells #[.slice A878 t876.2.l.length c879, .int .i64 t876.2.last] 47 (0, 0)), Row r_status_writer 49 (.slice A878 t876.2.l.length c879) t876.2.l] := S
      refine W_yes (congrArg some hb868) ?_
      refine W_v (.bool (t876.1 == (5 : Int))) (x_ibin rfl rfl rfl rfl) rfl ?_
      refine W_v (.bool (t876.1 == (5 : Int))) (x_pick (k := true) (congrArg Value.bool hb868) rfl) rfl ?_
      refine Wl_nil ?_
      exact ⟨(t876.1 == (5 : Int)), Option.some.inj H, ⟨rfl, trivial⟩, E, S.pick [] (by decide)⟩
    · skip
      refine W_no (skT hb868) rfl ?_
      refine W_no (skT hb868) rfl ?_
      refine W_no (skT hb868) rfl ?_
      refine W_v (.bool false) (x_pick (k := false) (congrArg Value.bool hb868) rfl) rfl ?_
      refine Wl_nil ?_
      exact ⟨false, Option.some.inj H, ⟨rfl, trivial⟩, E, S.pick [] (by decide)⟩
  clear o875h
  rintro ρ w884 ⟨x869, rfl, hρ, E, S⟩
  rw [agree_eta hρ]
  clear hρ
  have H := o875H
  clear o875H
  refine W_v (.bool x869) (x_assign rfl) rfl ?_
  refine Wl_nil ?_
  refine tn ?_
  refine Wp_ret ?_
  obtain rfl := Option.some.inj H
  exact ⟨_, _, _, fun w1 e1 => run_resR (vs := [.bool x869]) (FA.cons (rfl) (FA.nil)), HM, E, S.pick [] (by decide), ⟨rfl, rfl⟩⟩
end Go.Proofs.YtbdelepfpnneoaaDoor
