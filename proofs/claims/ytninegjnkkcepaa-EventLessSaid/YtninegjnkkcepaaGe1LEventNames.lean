import Derived.Test.YtninegjnkkcepaaGe1
namespace Go.Proofs.Ytninegjnkkcepaa
open Go
set_option linter.unusedVariables false
set_option linter.unusedSimpArgs false
/-! ### ferryman/ferrymanlaw06.EventNames: function 9 -/
def ferrymanlaw06_EventNames_l1 (x767 : List (List api_Event)) : Nat → Int → Option ((Bool) ⊕ (Unit))
  | 0, _ => none
  | k + 1, x809 => (if (decide (x809 < (x767.length : Int))) = true then (if 0 ≤ x809 ∧ x809 < (x767.length : Int) then (Option.bind (event_Legal k (1 : Int) (rd x767 x809)) (fun t846 => (if t846 = true then some (.inl false) else ferrymanlaw06_EventNames_l1 x767 k (IntKind.i64.wrap (x809 + (1 : Int)))))) else none) else some (.inr ()))
set_option maxHeartbeats 2000000 in
theorem ferrymanlaw06_EventNames_l1.mono {x767 : List (List api_Event)} : ∀ {k : Nat} {x0}, OLe (ferrymanlaw06_EventNames_l1 x767 k x0) (ferrymanlaw06_EventNames_l1 x767 (k + 1) x0) := by
  intro k
  induction k with
  | zero => intros; exact OLe.none
  | succ k ih =>
    intros
    rw [ferrymanlaw06_EventNames_l1.eq_2, ferrymanlaw06_EventNames_l1.eq_2]
    repeat' (first | with_reducible exact OLe.none | with_reducible exact OLe.some | with_reducible refine OLe.ite ?_ ?_ | with_reducible refine OLe.bind ?_ (fun _ => ?_) | with_reducible exact event_Legal.mono | exact ih | refine OLe.bind ?_ (fun _ => ?_) | refine OLe.ite ?_ ?_ | refine OLe.elim (fun _ => ?_) (fun _ => ?_) | split)
def ferrymanlaw06_EventNames_l0 : Nat → Int → Option ((Bool) ⊕ (Unit))
  | 0, _ => none
  | k + 1, x189 => (if (decide (x189 < (([(0 : Int), (-1 : Int), (7 : Int)] : List Int).length : Int))) = true then (if 0 ≤ x189 ∧ x189 < (([(0 : Int), (-1 : Int), (7 : Int)] : List Int).length : Int) then (Option.bind (event_New_v k (rd ([(0 : Int), (-1 : Int), (7 : Int)] : List Int) x189)) (fun t236 => (Sum.elim (fun t238 => (Option.bind (event_Legal k (rd ([(0 : Int), (-1 : Int), (7 : Int)] : List Int) x189) ([] : (List api_Event))) (fun t243 => (if t243 = true then some (.inl false) else ferrymanlaw06_EventNames_l0 k (IntKind.i64.wrap (x189 + (1 : Int))))))) (fun t239 => some (.inl false))) t236)) else none) else some (.inr ()))
set_option maxHeartbeats 2000000 in
theorem ferrymanlaw06_EventNames_l0.mono  : ∀ {k : Nat} {x0}, OLe (ferrymanlaw06_EventNames_l0  k x0) (ferrymanlaw06_EventNames_l0  (k + 1) x0) := by
  intro k
  induction k with
  | zero => intros; exact OLe.none
  | succ k ih =>
    intros
    rw [ferrymanlaw06_EventNames_l0.eq_2, ferrymanlaw06_EventNames_l0.eq_2]
    repeat' (first | with_reducible exact OLe.none | with_reducible exact OLe.some | with_reducible refine OLe.ite ?_ ?_ | with_reducible refine OLe.bind ?_ (fun _ => ?_) | with_reducible exact event_Legal.mono | with_reducible exact event_New_v.mono | exact ih | refine OLe.bind ?_ (fun _ => ?_) | refine OLe.ite ?_ ?_ | refine OLe.elim (fun _ => ?_) (fun _ => ?_) | split)
def ferrymanlaw06_EventNames (k : Nat)  : Option (Bool) :=
  (Option.bind (event_Recorder_Under_Z k (0 : Int)) (fun t1 => (Option.bind (ferrymanlaw06_works k ) (fun t6 => (Option.bind (α := Bool) (if (cond (cond (cond (cond (!t6) true false) true false) true false) true false) = true then some (true) else (Option.bind (event_Recorder_Invoke_Z k (0 : Int)) (fun t22 => some ((t22 != (2 : Int)))))) (fun x20 => (Option.bind (α := Bool) (if x20 = true then some (true) else (Option.bind (event_Recorder_Mark_Z k (0 : Int)) (fun t41 => some ((t41 != (2 : Int)))))) (fun x39 => (Option.bind (α := Bool) (if x39 = true then some (true) else (Option.bind (event_Recorder_Return_Z k (0 : Int) (⟨(0 : Int), false, ([] : Str), ([] : (List api_Pair))⟩ : api_Answer)) (fun t60 => some ((t60 != (2 : Int)))))) (fun x58 => (Option.bind (α := Bool) (if x58 = true then some (true) else (Option.bind (event_Recorder_Events_Z k ) (fun t86 => some (((t86.length : Int) != (0 : Int)))))) (fun x83 => (Option.bind (α := Bool) (if (x83 || t1.2.2) = true then some (true) else (Option.bind (event_Recorder_Copy_Z k ) (fun t111 => some (false)))) (fun x109 => (if x109 = true then some false else (Option.bind (ferrymanlaw06_EventNames_l0 k (0 : Int)) (fun o223o => Sum.elim (fun r' => some r') (fun _ => (Option.bind (event_New_v k (6 : Int)) (fun t259 => (Sum.elim (fun t261 => some false) (fun t262 => (Option.bind (event_Recorder_Mark_POO k t262 (5 : Int)) (fun t277 => (Option.bind (α := Bool × List event_task × List api_Event) (if (t277.1 != (7 : Int)) = true then some (true, t277.2.tasks, t277.2.l) else (Option.bind (event_Recorder_Return_POO k t277.2 (5 : Int) (⟨(0 : Int), false, ([] : Str), ([] : (List api_Pair))⟩ : api_Answer)) (fun t322 => some ((t322.1 != (7 : Int)), t322.2.tasks, t322.2.l)))) (fun ⟨x311, x312, x316⟩ => (Option.bind (α := Bool × List event_task × List api_Event) (if x311 = true then some (true, x312, x316) else (Option.bind (event_Recorder_Mark_POO k (⟨x312, x316⟩ : event_Recorder) (-1 : Int)) (fun t370 => some ((t370.1 != (1 : Int)), t370.2.tasks, t370.2.l)))) (fun ⟨x359, x360, x364⟩ => (Option.bind (α := Bool × List event_task × List api_Event) (if x359 = true then some (true, x360, x364) else (Option.bind (event_Recorder_Return_POO k (⟨x360, x364⟩ : event_Recorder) (6 : Int) (⟨(0 : Int), false, ([] : Str), ([] : (List api_Pair))⟩ : api_Answer)) (fun t418 => some ((t418.1 != (1 : Int)), t418.2.tasks, t418.2.l)))) (fun ⟨x407, x408, x412⟩ => (Option.bind (α := Bool × List event_task × List api_Event) (if x407 = true then some (true, x408, x412) else (Option.bind (event_Recorder_Invoke_POO k (⟨x408, x412⟩ : event_Recorder) (5 : Int)) (fun t466 => some ((t466.1 != (0 : Int)), t466.2.tasks, t466.2.l)))) (fun ⟨x455, x456, x460⟩ => (Option.bind (α := Bool × List event_task × List api_Event) (if x455 = true then some (true, x456, x460) else (Option.bind (event_Recorder_Mark_POO k (⟨x456, x460⟩ : event_Recorder) (5 : Int)) (fun t514 => some ((t514.1 != (0 : Int)), t514.2.tasks, t514.2.l)))) (fun ⟨x503, x504, x508⟩ => (Option.bind (α := Bool × List event_task × List api_Event) (if x503 = true then some (true, x504, x508) else (Option.bind (event_Recorder_Mark_POO k (⟨x504, x508⟩ : event_Recorder) (5 : Int)) (fun t562 => some ((t562.1 != (7 : Int)), t562.2.tasks, t562.2.l)))) (fun ⟨x551, x552, x556⟩ => (Option.bind (α := Bool × List event_task × List api_Event) (if x551 = true then some (true, x552, x556) else (Option.bind (event_Recorder_Invoke_POO k (⟨x552, x556⟩ : event_Recorder) (5 : Int)) (fun t610 => some ((t610.1 != (7 : Int)), t610.2.tasks, t610.2.l)))) (fun ⟨x599, x600, x604⟩ => (if x599 = true then some false else (Option.bind (event_Recorder_Under_POO k (⟨x600, x604⟩ : event_Recorder) (5 : Int)) (fun t625 => (Option.bind (event_Recorder_Under_POO k (⟨x600, x604⟩ : event_Recorder) (0 : Int)) (fun t630 => (Option.bind (event_Recorder_Under_POO k (⟨x600, x604⟩ : event_Recorder) (9 : Int)) (fun t635 => (if (((((t625.1 != (0 : Int)) || (!t625.2.1)) || (!t625.2.2)) || t630.2.2) || t635.2.2) = true then some false else (Option.bind (α := List api_Event) (some ([(⟨(1 : Int), (0 : Int), (0 : Int), ⟨(0 : Int), false, ([] : Str), ([] : (List api_Pair))⟩⟩ : api_Event), (⟨(1 : Int), (0 : Int), (0 : Int), ⟨(0 : Int), false, ([] : Str), ([] : (List api_Pair))⟩⟩ : api_Event)] : List api_Event)) (fun x681 => (Option.bind (α := List api_Event) (some ([(⟨(1 : Int), (0 : Int), (0 : Int), ⟨(0 : Int), false, ([] : Str), ([] : (List api_Pair))⟩⟩ : api_Event), (⟨(3 : Int), (0 : Int), (0 : Int), ⟨(0 : Int), false, ([] : Str), ([] : (List api_Pair))⟩⟩ : api_Event)] : List api_Event)) (fun x686 => (Option.bind (α := List api_Event) (some ([(⟨(1 : Int), (0 : Int), (0 : Int), ⟨(0 : Int), false, ([] : Str), ([] : (List api_Pair))⟩⟩ : api_Event), (⟨(2 : Int), (0 : Int), (0 : Int), ⟨(0 : Int), false, ([] : Str), ([] : (List api_Pair))⟩⟩ : api_Event), (⟨(2 : Int), (0 : Int), (0 : Int), ⟨(0 : Int), false, ([] : Str), ([] : (List api_Pair))⟩⟩ : api_Event)] : List api_Event)) (fun x691 => (Option.bind (α := List api_Event) (some ([(⟨(1 : Int), (0 : Int), (0 : Int), ⟨(0 : Int), false, ([] : Str), ([] : (List api_Pair))⟩⟩ : api_Event), (⟨(2 : Int), (0 : Int), (0 : Int), ⟨(0 : Int), false, ([] : Str), ([] : (List api_Pair))⟩⟩ : api_Event), (⟨(3 : Int), (0 : Int), (0 : Int), ⟨(0 : Int), false, ([] : Str), ([] : (List api_Pair))⟩⟩ : api_Event), (⟨(1 : Int), (0 : Int), (0 : Int), ⟨(0 : Int), false, ([] : Str), ([] : (List api_Pair))⟩⟩ : api_Event)] : List api_Event)) (fun x699 => (Option.bind (α := List api_Event) (some ([(⟨(1 : Int), (0 : Int), (0 : Int), ⟨(0 : Int), false, ([] : Str), ([] : (List api_Pair))⟩⟩ : api_Event), (⟨(2 : Int), (0 : Int), (0 : Int), ⟨(0 : Int), false, ([] : Str), ([] : (List api_Pair))⟩⟩ : api_Event), (⟨(3 : Int), (0 : Int), (0 : Int), ⟨(0 : Int), false, ([] : Str), ([] : (List api_Pair))⟩⟩ : api_Event), (⟨(1 : Int), (0 : Int), (1 : Int), ⟨(0 : Int), false, ([] : Str), ([] : (List api_Pair))⟩⟩ : api_Event), (⟨(1 : Int), (0 : Int), (1 : Int), ⟨(0 : Int), false, ([] : Str), ([] : (List api_Pair))⟩⟩ : api_Event)] : List api_Event)) (fun x704 => (Option.bind (α := List api_Event) (some ([(⟨(1 : Int), (0 : Int), (0 : Int), ⟨(0 : Int), false, ([] : Str), ([] : (List api_Pair))⟩⟩ : api_Event), (⟨(2 : Int), (0 : Int), (0 : Int), ⟨(0 : Int), true, ([] : Str), ([] : (List api_Pair))⟩⟩ : api_Event)] : List api_Event)) (fun x709 => (Option.bind (α := List api_Event) (some ([(⟨(1 : Int), (0 : Int), (0 : Int), ⟨(0 : Int), false, ([] : Str), ([] : (List api_Pair))⟩⟩ : api_Event), (⟨(2 : Int), (0 : Int), (0 : Int), ⟨(0 : Int), false, ([] : Str), ([] : (List api_Pair))⟩⟩ : api_Event), (⟨(3 : Int), (0 : Int), (0 : Int), ⟨(0 : Int), false, ([] : Str), ([] : (List api_Pair))⟩⟩ : api_Event), (⟨(3 : Int), (0 : Int), (0 : Int), ⟨(0 : Int), false, ([] : Str), ([] : (List api_Pair))⟩⟩ : api_Event)] : List api_Event)) (fun x723 => (Option.bind (α := List (List api_Event)) (some ([([(⟨(2 : Int), (0 : Int), (0 : Int), ⟨(0 : Int), false, ([] : Str), ([] : (List api_Pair))⟩⟩ : api_Event)] : List api_Event), ([(⟨(3 : Int), (0 : Int), (0 : Int), ⟨(0 : Int), false, ([] : Str), ([] : (List api_Pair))⟩⟩ : api_Event)] : List api_Event), x681, x686, x691, ([(⟨(1 : Int), (0 : Int), (1 : Int), ⟨(0 : Int), false, ([] : Str), ([] : (List api_Pair))⟩⟩ : api_Event)] : List api_Event), x699, x704, x709, ([(⟨(1 : Int), (1 : Int), (0 : Int), ⟨(0 : Int), false, ([] : Str), ([] : (List api_Pair))⟩⟩ : api_Event)] : List api_Event), ([(⟨(0 : Int), (0 : Int), (0 : Int), ⟨(0 : Int), false, ([] : Str), ([] : (List api_Pair))⟩⟩ : api_Event)] : List api_Event), ([(⟨(4 : Int), (0 : Int), (0 : Int), ⟨(0 : Int), false, ([] : Str), ([] : (List api_Pair))⟩⟩ : api_Event)] : List api_Event), x723] : List (List api_Event))) (fun x767 => (Option.bind (ferrymanlaw06_EventNames_l1 x767 k (0 : Int)) (fun o829o => Sum.elim (fun r' => some r') (fun _ => (Option.bind (α := List api_Event) (some ([(⟨(1 : Int), (0 : Int), (0 : Int), ⟨(0 : Int), false, ([] : Str), ([] : (List api_Pair))⟩⟩ : api_Event), (⟨(2 : Int), (0 : Int), (0 : Int), ⟨(0 : Int), false, ([] : Str), ([] : (List api_Pair))⟩⟩ : api_Event), (⟨(3 : Int), (0 : Int), (0 : Int), ⟨(0 : Int), false, ([] : Str), ([] : (List api_Pair))⟩⟩ : api_Event), (⟨(1 : Int), (0 : Int), (1 : Int), ⟨(0 : Int), false, ([] : Str), ([] : (List api_Pair))⟩⟩ : api_Event)] : List api_Event)) (fun x854 => (Option.bind (event_Legal k (1 : Int) x854) (fun t856 => (Option.bind (α := Bool) (if t856 = true then (Option.bind (α := List api_Event) (some ([(⟨(1 : Int), (1 : Int), (0 : Int), ⟨(0 : Int), false, ([] : Str), ([] : (List api_Pair))⟩⟩ : api_Event), (⟨(1 : Int), (0 : Int), (0 : Int), ⟨(0 : Int), false, ([] : Str), ([] : (List api_Pair))⟩⟩ : api_Event)] : List api_Event)) (fun x881 => (Option.bind (event_Legal k (2 : Int) x881) (fun t883 => some (t883))))) else some (false)) (fun x876 => (Option.bind (α := Bool) (if x876 = true then (Option.bind (event_Legal k (1 : Int) ([] : (List api_Event))) (fun t896 => some (t896))) else some (false)) (fun x894 => (Option.bind (α := Bool) (if x894 = true then (Option.bind (event_Same k ([(⟨(2 : Int), (0 : Int), (0 : Int), ⟨(0 : Int), false, ([] : Str), ([] : (List api_Pair))⟩⟩ : api_Event)] : List api_Event) ([(⟨(2 : Int), (0 : Int), (0 : Int), ⟨(0 : Int), true, ([] : Str), ([] : (List api_Pair))⟩⟩ : api_Event)] : List api_Event)) (fun t927 => some ((!t927)))) else some (false)) (fun x919 => (Option.bind (α := Bool) (if x919 = true then (Option.bind (α := List api_Event) (some ([(⟨(1 : Int), (0 : Int), (0 : Int), ⟨(0 : Int), false, ([] : Str), ([] : (List api_Pair))⟩⟩ : api_Event), (⟨(2 : Int), (0 : Int), (0 : Int), ⟨(0 : Int), false, ([] : Str), ([] : (List api_Pair))⟩⟩ : api_Event)] : List api_Event)) (fun x982 => (Option.bind (event_Without k x982 ([(⟨(0 : Int), (0 : Int)⟩ : event_Place), (⟨(0 : Int), (0 : Int)⟩ : event_Place)] : List event_Place)) (fun t993 => some (((t993.length : Int) == (0 : Int))))))) else some (false)) (fun x976 => (Option.bind (α := Bool) (if x976 = true then (Option.bind (α := List event_Place) (some ([(⟨(0 : Int), (0 : Int)⟩ : event_Place), (⟨(0 : Int), (0 : Int)⟩ : event_Place), (⟨(0 : Int), (-1 : Int)⟩ : event_Place), (⟨(1 : Int), (0 : Int)⟩ : event_Place)] : List event_Place)) (fun x1086 => (Option.bind (event_Without k ([(⟨(1 : Int), (0 : Int), (1 : Int), ⟨(0 : Int), false, ([] : Str), ([] : (List api_Pair))⟩⟩ : api_Event)] : List api_Event) x1086) (fun t1094 => (if 0 ≤ (0 : Int) ∧ (0 : Int) < (t1094.length : Int) then some (((rd t1094 (0 : Int)).Call == (0 : Int))) else none))))) else some (false)) (fun x1077 => some x1077))))))))))))))) o829o)))))))))))))))))))))))))))))))))))))))))))) t259))) o223o)))))))))))))))))
set_option maxHeartbeats 2000000 in
theorem ferrymanlaw06_EventNames.mono {k : Nat}  : OLe (ferrymanlaw06_EventNames k ) (ferrymanlaw06_EventNames (k + 1) ) := by
  unfold ferrymanlaw06_EventNames
  repeat' (first | with_reducible exact OLe.none | with_reducible exact OLe.some | with_reducible refine OLe.ite ?_ ?_ | with_reducible refine OLe.bind ?_ (fun _ => ?_) | with_reducible exact event_Legal.mono | with_reducible exact event_New_v.mono | with_reducible exact event_Recorder_Copy_Z.mono | with_reducible exact event_Recorder_Events_Z.mono | with_reducible exact event_Recorder_Invoke_POO.mono | with_reducible exact event_Recorder_Invoke_Z.mono | with_reducible exact event_Recorder_Mark_POO.mono | with_reducible exact event_Recorder_Mark_Z.mono | with_reducible exact event_Recorder_Return_POO.mono | with_reducible exact event_Recorder_Return_Z.mono | with_reducible exact event_Recorder_Under_POO.mono | with_reducible exact event_Recorder_Under_Z.mono | with_reducible exact event_Same.mono | with_reducible exact event_Without.mono | with_reducible exact ferrymanlaw06_EventNames_l0.mono | with_reducible exact ferrymanlaw06_EventNames_l1.mono | with_reducible exact ferrymanlaw06_works.mono | refine OLe.bind ?_ (fun _ => ?_) | refine OLe.ite ?_ ?_ | refine OLe.elim (fun _ => ?_) (fun _ => ?_) | split)
set_option maxHeartbeats 8000000 in
set_option maxRecDepth 100000 in
theorem ferrymanlaw06_EventNames.con (k : Nat) (M : Hp)  (r : Bool)  (h : ferrymanlaw06_EventNames k  = some r) : Con Try.prog 9 #[] M [] (fun v M' Γ' => v = .bool r ∧ Γ' = []) := by
  refine con_of_wp Try.func9 rfl Try.ntmps9 Try.results9 rfl ?_
  intro w F rn S hrn
  have E := Ext.refl w
  have HM := Hp.le_refl M
  have H := h
  unfold ferrymanlaw06_EventNames at H
  refine Wp_seq ?_
  refine Wp_region_lit ?_
  refine W_v (.bool false) (x_assign rfl) rfl ?_
  refine Wl_nil ?_
  refine tn ?_
  refine Wp_seq ?_
  refine Wp_region_lit ?_
  refine W_v (.pointer none) (x_assign rfl) rfl ?_
  refine Wl_nil ?_
  refine tn ?_
  refine Wp_seq ?_
  refine Wp_region_lit ?_
  refine W_v (.pointer none) (x_move rfl) rfl ?_
  obtain ⟨t1, ht2, H⟩ := bindS H
  refine W_callF2 fn20 (event_Recorder_Under_Z.con k M (0 : Int) t1  ht2) (Γ1 := []) (Γ2 := []) S rfl rfl (by rintro _ _ _ ⟨rfl, rfl⟩; exact flat_nil) ?_
  rintro _ w3 _ Γ' E' S ⟨rfl, rfl⟩
  replace E := E.trans E'
  clear E'
  replace S : St w3 M F [] := S
  refine W_v (.tuple #[.int .i64 t1.1, .bool t1.2.1, .bool t1.2.2]) (x_move rfl) rfl ?_
  refine W_v (.int .i64 t1.1) (x_extract rfl rfl) rfl ?_
  refine W_v (.bool t1.2.1) (x_extract rfl rfl) rfl ?_
  refine W_v (.bool t1.2.2) (x_extract rfl rfl) rfl ?_
  refine W_v (.int .i64 t1.1) (x_assign rfl) rfl ?_
  refine W_v (.bool t1.2.1) (x_assign rfl) rfl ?_
  refine W_v (.bool t1.2.2) (x_assign rfl) rfl ?_
  refine Wl_nil ?_
  refine tn ?_
  refine Wp_seq ?_
  refine Wp_seq ?_
  refine Wp_region_lit ?_
  obtain ⟨t6, ht7, H⟩ := bindS H
  refine W_callF fn10 (ferrymanlaw06_works.con k M  t6  ht7) S rfl rfl (by rintro _ _ _ ⟨_, rfl⟩; exact flat_nil) ?_
  rintro _ w8 _ Γ' E' S ⟨rfl, rfl⟩
  replace E := E.trans E'
  clear E'
  refine W_v (.bool (!t6)) (x_not rfl) rfl ?_
  refine W_v (.bool (!t6)) (x_move rfl) rfl ?_
  refine W_v (.bool (cond (!t6) true false)) (x_pickB rfl rfl rfl) rfl ?_
  refine W_v (.bool (cond (!t6) true false)) (x_move rfl) rfl ?_
  refine W_v (.bool (cond (cond (!t6) true false) true false)) (x_pickB rfl rfl rfl) rfl ?_
  refine W_v (.bool (cond (cond (!t6) true false) true false)) (x_move rfl) rfl ?_
  refine W_v (.bool (cond (cond (cond (!t6) true false) true false) true false)) (x_pickB rfl rfl rfl) rfl ?_
  refine W_v (.bool (cond (cond (cond (!t6) true false) true false) true false)) (x_move rfl) rfl ?_
  refine W_v (.bool (cond (cond (cond (cond (!t6) true false) true false) true false) true false)) (x_pickB rfl rfl rfl) rfl ?_
  refine W_v (.bool (cond (cond (cond (cond (!t6) true false) true false) true false) true false)) (x_move rfl) rfl ?_
  obtain ⟨o21, o21h, o21H⟩ := bindS H
  clear H
  refine Wl_cutN 4 (fun ρ w' => ∃ (x20 : Bool), (x20) = o21 ∧ Agree ρ [(1, .pointer none), (4, .bool t1.2.2), (47, .bool x20)] ∧ Ext w w' ∧ St w' M F []) ?_ ?_
  · have H := o21h
    rcases iteS H with ⟨hb19, H⟩ | ⟨hb19, H⟩
    · skip
      refine W_no (skF hb19) rfl ?_
      refine W_no (skF hb19) rfl ?_
      refine W_no (skF hb19) rfl ?_
      refine W_v (.bool true) (x_pick (k := true) (congrArg Value.bool hb19) rfl) rfl ?_
      refine Wl_nil ?_
      exact ⟨true, Option.some.inj H, ⟨rfl, rfl, rfl, trivial⟩, E, S.pick [] (by decide)⟩
    · skip
      refine W_yes (congrArg some hb19) ?_
      refine W_v (.pointer none) (x_move rfl) rfl ?_
      refine W_yes (congrArg some hb19) ?_
      obtain ⟨t22, ht23, H⟩ := bindS H
      refine W_callF2 fn30 (event_Recorder_Invoke_Z.con k M (0 : Int) t22  ht23) (Γ1 := []) (Γ2 := []) S rfl rfl (by rintro _ _ _ ⟨rfl, rfl⟩; exact flat_nil) ?_
      rintro _ w24 _ Γ' E' S ⟨rfl, rfl⟩
      replace E := E.trans E'
      clear E'
      replace S : St w24 M F [] := S
      refine W_yes (congrArg some hb19) ?_
      refine W_v (.bool (t22 != (2 : Int))) (x_ibin rfl rfl rfl rfl) rfl ?_
      refine W_v (.bool (t22 != (2 : Int))) (x_pick (k := false) (congrArg Value.bool hb19) rfl) rfl ?_
      refine Wl_nil ?_
      exact ⟨(t22 != (2 : Int)), Option.some.inj H, ⟨rfl, rfl, rfl, trivial⟩, E, S.pick [] (by decide)⟩
  clear o21h
  rintro ρ w27 ⟨x20, rfl, hρ, E, S⟩
  rw [agree_eta hρ]
  clear hρ
  have H := o21H
  clear o21H
  refine W_v (.bool x20) (x_move rfl) rfl ?_
  obtain ⟨o40, o40h, o40H⟩ := bindS H
  clear H
  refine Wl_cutN 4 (fun ρ w' => ∃ (x39 : Bool), (x39) = o40 ∧ Agree ρ [(1, .pointer none), (4, .bool t1.2.2), (52, .bool x39)] ∧ Ext w w' ∧ St w' M F []) ?_ ?_
  · have H := o40h
    rcases iteS H with ⟨hb38, H⟩ | ⟨hb38, H⟩
    · skip
      refine W_no (skF hb38) rfl ?_
      refine W_no (skF hb38) rfl ?_
      refine W_no (skF hb38) rfl ?_
      refine W_v (.bool true) (x_pick (k := true) (congrArg Value.bool hb38) rfl) rfl ?_
      refine Wl_nil ?_
      exact ⟨true, Option.some.inj H, ⟨rfl, rfl, rfl, trivial⟩, E, S.pick [] (by decide)⟩
    · skip
      refine W_yes (congrArg some hb38) ?_
      refine W_v (.pointer none) (x_move rfl) rfl ?_
      refine W_yes (congrArg some hb38) ?_
      obtain ⟨t41, ht42, H⟩ := bindS H
      refine W_callF2 fn31 (event_Recorder_Mark_Z.con k M (0 : Int) t41  ht42) (Γ1 := []) (Γ2 := []) S rfl rfl (by rintro _ _ _ ⟨rfl, rfl⟩; exact flat_nil) ?_
      rintro _ w43 _ Γ' E' S ⟨rfl, rfl⟩
      replace E := E.trans E'
      clear E'
      replace S : St w43 M F [] := S
      refine W_yes (congrArg some hb38) ?_
      refine W_v (.bool (t41 != (2 : Int))) (x_ibin rfl rfl rfl rfl) rfl ?_
      refine W_v (.bool (t41 != (2 : Int))) (x_pick (k := false) (congrArg Value.bool hb38) rfl) rfl ?_
      refine Wl_nil ?_
      exact ⟨(t41 != (2 : Int)), Option.some.inj H, ⟨rfl, rfl, rfl, trivial⟩, E, S.pick [] (by decide)⟩
  clear o40h
  rintro ρ w46 ⟨x39, rfl, hρ, E, S⟩
  rw [agree_eta hρ]
  clear hρ
  have H := o40H
  clear o40H
  refine W_v (.bool x39) (x_move rfl) rfl ?_
  obtain ⟨o59, o59h, o59H⟩ := bindS H
  clear H
  refine Wl_cutN 5 (fun ρ w' => ∃ (x58 : Bool), (x58) = o59 ∧ Agree ρ [(1, .pointer none), (4, .bool t1.2.2), (58, .bool x58)] ∧ Ext w w' ∧ St w' M F []) ?_ ?_
  · have H := o59h
    rcases iteS H with ⟨hb57, H⟩ | ⟨hb57, H⟩
    · skip
      refine W_no (skF hb57) rfl ?_
      refine W_no (skF hb57) rfl ?_
      refine W_no (skF hb57) rfl ?_
      refine W_no (skF hb57) rfl ?_
      refine W_v (.bool true) (x_pick (k := true) (congrArg Value.bool hb57) rfl) rfl ?_
      refine Wl_nil ?_
      exact ⟨true, Option.some.inj H, ⟨rfl, rfl, rfl, trivial⟩, E, S.pick [] (by decide)⟩
    · skip
      refine W_yes (congrArg some hb57) ?_
      refine W_v (.pointer none) (x_move rfl) rfl ?_
      refine W_yes (congrArg some hb57) ?_
      refine W_v (.agg #[.int .i64 0, .bool false, .string (bs ([] : Str)), .slice none 0 0]) (x_build2 (pl := [(0, 1), (1, 1), (2, 1), (3, 1)]) #[.int .i64 0, .bool false, .string (bs ([] : Str)), .slice none 0 0] Try.underlying30 ty30 (by kernel_rfl) rfl (by kernel_rfl)) rfl ?_
      refine W_yes (congrArg some hb57) ?_
      obtain ⟨t60, ht61, H⟩ := bindS H
      refine W_callF2 fn32 (event_Recorder_Return_Z.con k M (0 : Int) none 0 (⟨(0 : Int), false, ([] : Str), ([] : (List api_Pair))⟩ : api_Answer) t60 (SlW.nil _ _) ht61) (Γ1 := []) (Γ2 := []) S rfl rfl (by rintro _ _ _ ⟨rfl, rfl⟩; exact flat_nil) ?_
      rintro _ w62 _ Γ' E' S ⟨rfl, rfl⟩
      replace E := E.trans E'
      clear E'
      replace S : St w62 M F [] := S
      refine W_yes (congrArg some hb57) ?_
      refine W_v (.bool (t60 != (2 : Int))) (x_ibin rfl rfl rfl rfl) rfl ?_
      refine W_v (.bool (t60 != (2 : Int))) (x_pick (k := false) (congrArg Value.bool hb57) rfl) rfl ?_
      refine Wl_nil ?_
      exact ⟨(t60 != (2 : Int)), Option.some.inj H, ⟨rfl, rfl, rfl, trivial⟩, E, S.pick [] (by decide)⟩
  clear o59h
  rintro ρ w65 ⟨x58, rfl, hρ, E, S⟩
  rw [agree_eta hρ]
  clear hρ
  have H := o59H
  clear o59H
  refine W_v (.bool x58) (x_move rfl) rfl ?_
  obtain ⟨o84, o84h, o84H⟩ := bindS H
  clear H
  refine Wl_cutN 5 (fun ρ w' => ∃ (x83 : Bool) (Mj : Hp), (x83) = o84 ∧ Agree ρ [(1, .pointer none), (4, .bool t1.2.2), (64, .bool x83)] ∧ M.le Mj ∧ Ext w w' ∧ St w' Mj F []) ?_ ?_
  · have H := o84h
    have LE85 := Hp.le_refl M
    rcases iteS H with ⟨hb82, H⟩ | ⟨hb82, H⟩
    · skip
      refine W_no (skF hb82) rfl ?_
      refine W_no (skF hb82) rfl ?_
      refine W_no (skF hb82) rfl ?_
      refine W_no (skF hb82) rfl ?_
      refine W_v (.bool true) (x_pick (k := true) (congrArg Value.bool hb82) rfl) rfl ?_
      refine Wl_nil ?_
      exact ⟨true, M, Option.some.inj H, ⟨rfl, rfl, rfl, trivial⟩, (Hp.le_refl M), E, S.pick [] (by decide)⟩
    · skip
      refine W_yes (congrArg some hb82) ?_
      refine W_v (.pointer none) (x_move rfl) rfl ?_
      refine W_yes (congrArg some hb82) ?_
      obtain ⟨t86, ht87, H⟩ := bindS H
      refine W_call fn19 (event_Recorder_Events_Z.con k M  t86  ht87) (Γ1 := []) (Γ2 := []) S rfl rfl ?_
      rintro _ w91 M92 Γ' hM93 E' S ⟨A88, c89, rfl, rfl⟩
      replace HM := Hp.le_trans HM hM93
      replace LE85 := Hp.le_trans LE85 hM93
      replace E := E.trans E'
      clear E'
      replace S : St w91 M92 F [Row r_api_Event 32 (.slice A88 t86.length c89) t86] := S
      refine W_yes (congrArg some hb82) ?_
      refine W_v (.int .i64 (t86.length : Int)) (x_len_slice (n := t86.length) Try.underlying22 rfl) rfl ?_
      refine W_yes (congrArg some hb82) ?_
      refine W_v (.bool ((t86.length : Int) != (0 : Int))) (x_ibin rfl rfl rfl rfl) rfl ?_
      refine W_v (.bool ((t86.length : Int) != (0 : Int))) (x_pick (k := false) (congrArg Value.bool hb82) rfl) rfl ?_
      refine Wl_nil ?_
      exact ⟨((t86.length : Int) != (0 : Int)), M92, Option.some.inj H, ⟨rfl, rfl, rfl, trivial⟩, LE85, E, S.pick [] (by decide)⟩
  clear o84h
  rintro ρ w94 ⟨x83, M95, rfl, hρ, hM96, E, S⟩
  rw [agree_eta hρ]
  clear hρ
  replace HM := Hp.le_trans HM hM96
  have H := o84H
  clear o84H
  refine W_v (.bool x83) (x_move rfl) rfl ?_
  refine Wl_cutN 2 (fun ρ w' => Agree ρ [(1, .pointer none), (67, .bool (x83 || t1.2.2))] ∧ w94 = w') ?_ ?_
  · rcases boolCases x83 with hb97 | hb97
    · skip
      refine W_yes (congrArg some hb97) ?_
      refine W_v (.bool t1.2.2) (x_move rfl) rfl ?_
      refine W_v (.bool t1.2.2) (x_pick (k := false) (congrArg Value.bool hb97) rfl) rfl ?_
      refine Wl_nil ?_
      exact ⟨⟨rfl, (by first | rfl | (rw [hb97]; rfl) | (simp only [hb97]; rfl)), trivial⟩, rfl⟩
    · skip
      refine W_no (skF hb97) rfl ?_
      refine W_v (.bool true) (x_pick (k := true) (congrArg Value.bool hb97) rfl) rfl ?_
      refine Wl_nil ?_
      exact ⟨⟨rfl, (by first | rfl | (rw [hb97]; rfl) | (simp only [hb97]; rfl)), trivial⟩, rfl⟩
  rintro ρ _ ⟨hρ, rfl⟩
  rw [agree_eta hρ]
  clear hρ
  refine W_v (.bool (x83 || t1.2.2)) (x_move rfl) rfl ?_
  obtain ⟨o110, o110h, o110H⟩ := bindS H
  clear H
  refine Wl_cutN 4 (fun ρ w' => ∃ (x109 : Bool), (x109) = o110 ∧ Agree ρ [(72, .bool x109)] ∧ Ext w w' ∧ St w' M95 F []) ?_ ?_
  · have H := o110h
    rcases iteS H with ⟨hb108, H⟩ | ⟨hb108, H⟩
    · skip
      refine W_no (skF hb108) rfl ?_
      refine W_no (skF hb108) rfl ?_
      refine W_no (skF hb108) rfl ?_
      refine W_v (.bool true) (x_pick (k := true) (congrArg Value.bool hb108) rfl) rfl ?_
      refine Wl_nil ?_
      exact ⟨true, Option.some.inj H, ⟨rfl, trivial⟩, E, S.pick [] (by decide)⟩
    · skip
      refine W_yes (congrArg some hb108) ?_
      refine W_v (.pointer none) (x_move rfl) rfl ?_
      refine W_yes (congrArg some hb108) ?_
      obtain ⟨t111, ht112, H⟩ := bindS H
      refine W_callF2 fn29 (event_Recorder_Copy_Z.con k M95  t111  ht112) (Γ1 := []) (Γ2 := []) S rfl rfl (by rintro _ _ _ ⟨rfl, rfl⟩; exact flat_nil) ?_
      rintro _ w113 _ Γ' E' S ⟨rfl, rfl⟩
      replace E := E.trans E'
      clear E'
      replace S : St w113 M95 F [] := S
      refine W_yes (congrArg some hb108) ?_
      refine W_v (.bool false) (x_ne_of (r := true) rfl rfl (run_eq_ptrnn Try.underlying36)) rfl ?_
      refine W_v (.bool false) (x_pick (k := false) (congrArg Value.bool hb108) rfl) rfl ?_
      refine Wl_nil ?_
      exact ⟨false, Option.some.inj H, ⟨rfl, trivial⟩, E, S.pick [] (by decide)⟩
  clear o110h
  rintro ρ w116 ⟨x109, rfl, hρ, E, S⟩
  rw [agree_eta hρ]
  clear hρ
  have H := o110H
  clear o110H
  refine Wl_nil ?_
  refine tn ?_
  rcases iteS H with ⟨hb117, H⟩ | ⟨hb117, H⟩
  · refine Wp_cond_true (congrArg Value.bool hb117) ?_
    refine Wp_seq ?_
    refine Wp_region_lit ?_
    refine W_v (.bool false) (x_assign rfl) rfl ?_
    refine Wl_nil ?_
    refine tn ?_
    refine Wp_ret ?_
    refine tr (?_)
    obtain rfl := Option.some.inj H
    exact ⟨_, _, _, fun w1 e1 => run_resR (vs := [.bool false]) (FA.cons (rfl) (FA.nil)), HM, E, S.pick [] (by decide), ⟨rfl, rfl⟩⟩
  refine Wp_cond_false (congrArg Value.bool hb117) ?_
  refine Wp_skip ?_
  refine tn ?_
  refine Wp_seq ?_
  refine Wp_seq ?_
  refine Wp_region_lit ?_
  refine W_bslice S #[.int .i64 0, .int .i64 (-1), .int .i64 7] Try.underlying68 ty3 rfl rfl #[.int .i64 0, .int .i64 0, .int .i64 0] (by kernel_rfl) (by kernel_rfl) rfl ?_
  intro b118 w119 E' S
  replace E := E.trans E'
  clear E'
  replace S := S.blk_row (r := (rInt .i64)) (l := ([(0 : Int), (-1 : Int), (7 : Int)] : List Int)) 0 rfl 3 (Nat.le_refl 3) rfl (Cells.cons (vs := [.int .i64 0]) (rfl) (Cells.cons (vs := [.int .i64 (-1)]) (rfl) (Cells.cons (vs := [.int .i64 7]) (rfl) Cells.nil)))
  refine W_v (.int .i64 (([(0 : Int), (-1 : Int), (7 : Int)] : List Int).length : Int)) (x_len_slice (n := ([(0 : Int), (-1 : Int), (7 : Int)] : List Int).length) Try.underlying68 rfl) rfl ?_
  refine W_v (.int .i64 0) (x_move rfl) rfl ?_
  refine Wl_nil ?_
  refine tn ?_
  obtain ⟨o223, o223h, o223H⟩ := bindS H
  clear H
  refine Wp_blockJ (fun ρ w' => .inr () = o223 ∧ Agree ρ [] ∧ Ext w w' ∧ St w' M95 F []) ?_ ?_
  · skip
    refine Wp_loop (fun n ρ w' => ∃ (x189 : Int), ferrymanlaw06_EventNames_l0 n x189 = some o223 ∧ Agree ρ [(73, .slice (some ⟨b118, 0, none⟩) ([(0 : Int), (-1 : Int), (7 : Int)] : List Int).length 3), (74, .int .i64 (([(0 : Int), (-1 : Int), (7 : Int)] : List Int).length : Int)), (75, .int .i64 x189)] ∧ Ext w w' ∧ St w' M95 F [Row (rInt .i64) 3 (.slice (some ⟨b118, 0, none⟩) ([(0 : Int), (-1 : Int), (7 : Int)] : List Int).length 3) ([(0 : Int), (-1 : Int), (7 : Int)] : List Int)]) k ?_ ?_
    · skip
      exact ⟨(0 : Int), o223h, ⟨rfl, rfl, rfl, trivial⟩, E, S.pick [0] (by decide)⟩
    · intro n
      rintro ρ w224 ⟨x189, H, hρ, E, S⟩
      rw [agree_eta hρ]
      clear hρ
      cases n with
      | zero => cases H
      | succ k =>
        rw [ferrymanlaw06_EventNames_l0.eq_2] at H
        refine Wp_seq ?_
        refine Wp_region_lit ?_
        refine W_v (.bool (decide (x189 < (([(0 : Int), (-1 : Int), (7 : Int)] : List Int).length : Int)))) (x_ibin rfl rfl rfl rfl) rfl ?_
        refine Wl_nil ?_
        refine tn ?_
        refine Wp_seq ?_
        rcases iteS H with ⟨hb225, H⟩ | ⟨hb225, H⟩
        · refine Wp_cond_true (congrArg Value.bool hb225) ?_
          refine Wp_skip ?_
          refine tn ?_
          refine Wp_seq ?_
          refine Wp_block ?_
          refine Wp_seq ?_
          refine Wp_region_lit ?_
          obtain ⟨⟨p226, p227⟩, H⟩ := chkS H
          obtain ⟨b228, o229, cs230, _, _, ee235, hb231, vs232, hR233, hc234⟩ := SlW.at' (S.row_read 0 rfl) p226 p227
          obtain rfl : vs232 = _ := hR233
          refine W_v (.pointer (some ⟨b228, o229 + x189.toNat * 1, none⟩)) (x_indexAddr Try.underlying68 ty3 (slA ee235) rfl p226 p227) rfl ?_
          refine W_v (.int .i64 (rd ([(0 : Int), (-1 : Int), (7 : Int)] : List Int) x189)) (x_load (Hp.of_get hb231) ty3 rfl (hc234 0 _ rfl)) rfl ?_
          refine W_v (.int .i64 (rd ([(0 : Int), (-1 : Int), (7 : Int)] : List Int) x189)) (x_assign rfl) rfl ?_
          refine Wl_nil ?_
          refine tn ?_
          refine Wp_seq ?_
          refine Wp_region_lit ?_
          refine W_v (.int .i64 (rd ([(0 : Int), (-1 : Int), (7 : Int)] : List Int) x189)) (x_move rfl) rfl ?_
          obtain ⟨t236, ht237, H⟩ := bindS H
          rcases t236 with t238 | t239
          · skip
            replace H := elimL H
            refine W_callF2 fn14 (event_New_v.con k M95 (rd ([(0 : Int), (-1 : Int), (7 : Int)] : List Int) x189) (Sum.inl t238)  ht237) (Γ1 := []) (Γ2 := [Row (rInt .i64) 3 (.slice (some ⟨b118, 0, none⟩) ([(0 : Int), (-1 : Int), (7 : Int)] : List Int).length 3) ([(0 : Int), (-1 : Int), (7 : Int)] : List Int)]) S rfl rfl (by rintro _ _ _ ⟨rfl, rfl⟩; exact flat_nil) ?_
            rintro _ w240 _ Γ' E' S ⟨rfl, rfl⟩
            replace E := E.trans E'
            clear E'
            replace S : St w240 M95 F [Row (rInt .i64) 3 (.slice (some ⟨b118, 0, none⟩) ([(0 : Int), (-1 : Int), (7 : Int)] : List Int).length 3) ([(0 : Int), (-1 : Int), (7 : Int)] : List Int)] := S
            refine W_v (.tuple #[.pointer none, .int .i64 1]) (x_move rfl) rfl ?_
            refine W_v (.pointer none) (x_extract rfl rfl) rfl ?_
            refine W_v (.int .i64 1) (x_extract rfl rfl) rfl ?_
            refine W_v (.pointer none) (x_assign rfl) rfl ?_
            refine W_v (.int .i64 1) (x_assign rfl) rfl ?_
            refine Wl_nil ?_
            refine tn ?_
            refine Wp_seq ?_
            refine Wp_region_lit ?_
            refine W_v (.pointer none) (x_move rfl) rfl ?_
            refine W_v (.bool false) (x_ne_of (r := true) rfl rfl (run_eq_ptrnn Try.underlying36)) rfl ?_
            refine W_v (.bool false) (x_move rfl) rfl ?_
            refine W_yes (rfl) ?_
            refine W_v (.int .i64 1) (x_move rfl) rfl ?_
            refine W_yes (rfl) ?_
            refine W_v (.bool false) (x_ibin rfl rfl rfl rfl) rfl ?_
            refine W_v (.bool false) (x_pick (k := false) rfl rfl) rfl ?_
            refine W_v (.bool false) (x_move rfl) rfl ?_
            refine W_yes (rfl) ?_
            refine W_v (.int .i64 (rd ([(0 : Int), (-1 : Int), (7 : Int)] : List Int) x189)) (x_move rfl) rfl ?_
            refine W_yes (rfl) ?_
            obtain ⟨t243, ht244, H⟩ := bindS H
            refine W_callF fn12 (event_Legal.con k M95 (rd ([(0 : Int), (-1 : Int), (7 : Int)] : List Int) x189) none 0 ([] : (List api_Event)) t243 (SlW.nil _ _) ht244) S rfl rfl (by rintro _ _ _ ⟨_, rfl⟩; exact flat_nil) ?_
            rintro _ w245 _ Γ' E' S ⟨rfl, rfl⟩
            replace E := E.trans E'
            clear E'
            refine W_v (.bool t243) (x_pick (k := false) rfl rfl) rfl ?_
            refine Wl_nil ?_
            refine tn ?_
            rcases iteS H with ⟨hb246, H⟩ | ⟨hb246, H⟩
            · refine Wp_cond_true (congrArg Value.bool hb246) ?_
              refine Wp_seq ?_
              refine Wp_region_lit ?_
              refine W_v (.bool false) (x_assign rfl) rfl ?_
              refine Wl_nil ?_
              refine tn ?_
              refine Wp_ret ?_
              refine br (tr (tr (br (tr (tr (?_))))))
              obtain rfl := Option.some.inj H
              have H := o223H
              replace H := elimL H
              obtain rfl := Option.some.inj H
              exact ⟨_, _, _, fun w1 e1 => run_resR (vs := [.bool false]) (FA.cons (rfl) (FA.nil)), HM, E, S.pick [] (by decide), ⟨rfl, rfl⟩⟩
            refine Wp_cond_false (congrArg Value.bool hb246) ?_
            refine Wp_skip ?_
            refine bn ?_
            refine tn ?_
            refine Wp_region_lit ?_
            refine W_v (.int .i64 (IntKind.i64.wrap (x189 + (1 : Int)))) (x_ibin rfl rfl rfl rfl) rfl ?_
            refine W_v (.int .i64 (IntKind.i64.wrap (x189 + (1 : Int)))) (x_move rfl) rfl ?_
            refine Wl_nil ?_
            refine tn ?_
            exact ⟨k, Nat.lt_succ_self k, ⟨(IntKind.i64.wrap (x189 + (1 : Int))), H, ⟨rfl, rfl, rfl, trivial⟩, E, S.pick [0] (by decide)⟩⟩
          · skip
            replace H := elimR H
            refine W_call fn14 (event_New_v.con k M95 (rd ([(0 : Int), (-1 : Int), (7 : Int)] : List Int) x189) (Sum.inr t239)  ht237) (Γ1 := []) (Γ2 := [Row (rInt .i64) 3 (.slice (some ⟨b118, 0, none⟩) ([(0 : Int), (-1 : Int), (7 : Int)] : List Int).length 3) ([(0 : Int), (-1 : Int), (7 : Int)] : List Int)]) S rfl rfl ?_
            rintro _ w255 M256 Γ' hM257 E' S ⟨b247, A249, c250, A252, c253, rfl, rfl⟩
            replace HM := Hp.le_trans HM hM257
            replace hM96 := Hp.le_trans hM96 hM257
            replace E := E.trans E'
            clear E'
            replace S : St w255 M256 F [Blk b247 (.cells #[.slice A249 t239.tasks.length c250, .slice A252 t239.l.length c253] 73 (0, 0)), Row r_event_task 70 (.slice A249 t239.tasks.length c250) t239.tasks, Row r_api_Event 32 (.slice A252 t239.l.length c253) t239.l, Row (rInt .i64) 3 (.slice (some ⟨b118, 0, none⟩) ([(0 : Int), (-1 : Int), (7 : Int)] : List Int).length 3) ([(0 : Int), (-1 : Int), (7 : Int)] : List Int)] := S
            refine W_v (.tuple #[.pointer (some ⟨b247, 0, none⟩), .int .i64 0]) (x_move rfl) rfl ?_
            refine W_v (.pointer (some ⟨b247, 0, none⟩)) (x_extract rfl rfl) rfl ?_
            refine W_v (.int .i64 0) (x_extract rfl rfl) rfl ?_
            refine W_v (.pointer (some ⟨b247, 0, none⟩)) (x_assign rfl) rfl ?_
            refine W_v (.int .i64 0) (x_assign rfl) rfl ?_
            refine Wl_nil ?_
            refine tn ?_
            refine Wp_seq ?_
            refine Wp_region_lit ?_
            refine W_v (.pointer (some ⟨b247, 0, none⟩)) (x_move rfl) rfl ?_
            refine W_v (.bool true) (x_ne_of (r := false) rfl rfl (run_eq_ptrsn Try.underlying36)) rfl ?_
            refine W_v (.bool true) (x_move rfl) rfl ?_
            refine W_no (rfl) rfl ?_
            refine W_no (rfl) rfl ?_
            refine W_v (.bool true) (x_pick (k := true) rfl rfl) rfl ?_
            refine W_v (.bool true) (x_move rfl) rfl ?_
            refine W_no (rfl) rfl ?_
            refine W_no (rfl) rfl ?_
            refine W_v (.bool true) (x_pick (k := true) rfl rfl) rfl ?_
            refine Wl_nil ?_
            refine tn ?_
            refine Wp_cond_true rfl ?_
            refine Wp_seq ?_
            refine Wp_region_lit ?_
            refine W_v (.bool false) (x_assign rfl) rfl ?_
            refine Wl_nil ?_
            refine tn ?_
            refine Wp_ret ?_
            refine br (tr (tr (br (tr (tr (?_))))))
            obtain rfl := Option.some.inj H
            have H := o223H
            replace H := elimL H
            obtain rfl := Option.some.inj H
            exact ⟨_, _, _, fun w1 e1 => run_resR (vs := [.bool false]) (FA.cons (rfl) (FA.nil)), HM, E, S.pick [] (by decide), ⟨rfl, rfl⟩⟩
        refine Wp_cond_false (congrArg Value.bool hb225) ?_
        refine Wp_exit ?_
        refine tx (tx (bsm (?_)))
        refine tn ?_
        exact ⟨Option.some.inj H, trivial, E, S.pick [] (by decide)⟩
  clear o223h
  rintro ρ w258 ⟨rfl, hρ, E, S⟩
  rw [agree_eta hρ]
  clear hρ
  have H := o223H
  clear o223H
  replace H := elimR H
  refine tn ?_
  refine Wp_seq ?_
  refine Wp_region_lit ?_
  obtain ⟨t259, ht260, H⟩ := bindS H
  rcases t259 with t261 | t262
  · skip
    replace H := elimL H
    refine W_callF2 fn14 (event_New_v.con k M95 (6 : Int) (Sum.inl t261)  ht260) (Γ1 := []) (Γ2 := []) S rfl rfl (by rintro _ _ _ ⟨rfl, rfl⟩; exact flat_nil) ?_
    rintro _ w263 _ Γ' E' S ⟨rfl, rfl⟩
    replace E := E.trans E'
    clear E'
    replace S : St w263 M95 F [] := S
    refine W_v (.tuple #[.pointer none, .int .i64 1]) (x_move rfl) rfl ?_
    refine W_v (.pointer none) (x_extract rfl rfl) rfl ?_
    refine W_v (.int .i64 1) (x_extract rfl rfl) rfl ?_
    refine W_v (.pointer none) (x_assign rfl) rfl ?_
    refine W_v (.int .i64 1) (x_assign rfl) rfl ?_
    refine Wl_nil ?_
    refine tn ?_
    refine Wp_seq ?_
    refine Wp_seq ?_
    refine Wp_region_lit ?_
    refine W_v (.int .i64 1) (x_move rfl) rfl ?_
    refine W_v (.bool true) (x_ibin rfl rfl rfl rfl) rfl ?_
    refine W_v (.bool true) (x_move rfl) rfl ?_
    refine W_no (rfl) rfl ?_
    refine W_no (rfl) rfl ?_
    refine W_no (rfl) rfl ?_
    refine W_v (.bool true) (x_pick (k := true) rfl rfl) rfl ?_
    refine W_v (.bool true) (x_move rfl) rfl ?_
    refine W_no (rfl) rfl ?_
    refine W_no (rfl) rfl ?_
    refine W_no (rfl) rfl ?_
    refine W_no (rfl) rfl ?_
    refine W_v (.bool true) (x_pick (k := true) rfl rfl) rfl ?_
    refine W_v (.bool true) (x_move rfl) rfl ?_
    refine W_no (rfl) rfl ?_
    refine W_no (rfl) rfl ?_
    refine W_no (rfl) rfl ?_
    refine W_v (.bool true) (x_pick (k := true) rfl rfl) rfl ?_
    refine W_v (.bool true) (x_move rfl) rfl ?_
    refine W_no (rfl) rfl ?_
    refine W_no (rfl) rfl ?_
    refine W_no (rfl) rfl ?_
    refine W_no (rfl) rfl ?_
    refine W_v (.bool true) (x_pick (k := true) rfl rfl) rfl ?_
    refine W_v (.bool true) (x_move rfl) rfl ?_
    refine W_no (rfl) rfl ?_
    refine W_no (rfl) rfl ?_
    refine W_no (rfl) rfl ?_
    refine W_v (.bool true) (x_pick (k := true) rfl rfl) rfl ?_
    refine W_v (.bool true) (x_move rfl) rfl ?_
    refine W_no (rfl) rfl ?_
    refine W_no (rfl) rfl ?_
    refine W_no (rfl) rfl ?_
    refine W_v (.bool true) (x_pick (k := true) rfl rfl) rfl ?_
    refine W_v (.bool true) (x_move rfl) rfl ?_
    refine W_no (rfl) rfl ?_
    refine W_no (rfl) rfl ?_
    refine W_no (rfl) rfl ?_
    refine W_v (.bool true) (x_pick (k := true) rfl rfl) rfl ?_
    refine W_v (.bool true) (x_move rfl) rfl ?_
    refine W_no (rfl) rfl ?_
    refine W_no (rfl) rfl ?_
    refine W_no (rfl) rfl ?_
    refine W_v (.bool true) (x_pick (k := true) rfl rfl) rfl ?_
    refine Wl_nil ?_
    refine tn ?_
    refine Wp_cond_true rfl ?_
    refine Wp_seq ?_
    refine Wp_region_lit ?_
    refine W_v (.bool false) (x_assign rfl) rfl ?_
    refine Wl_nil ?_
    refine tn ?_
    refine Wp_ret ?_
    refine tr (?_)
    obtain rfl := Option.some.inj H
    exact ⟨_, _, _, fun w1 e1 => run_resR (vs := [.bool false]) (FA.cons (rfl) (FA.nil)), HM, E, S.pick [] (by decide), ⟨rfl, rfl⟩⟩
  · skip
    replace H := elimR H
    refine W_call fn14 (event_New_v.con k M95 (6 : Int) (Sum.inr t262)  ht260) (Γ1 := []) (Γ2 := []) S rfl rfl ?_
    rintro _ w274 M275 Γ' hM276 E' S ⟨b266, A268, c269, A271, c272, rfl, rfl⟩
    replace HM := Hp.le_trans HM hM276
    replace hM96 := Hp.le_trans hM96 hM276
    replace E := E.trans E'
    clear E'
    replace S : St w274 M275 F [Blk b266 (.cells #[.slice A268 t262.tasks.length c269, .slice A271 t262.l.length c272] 73 (0, 0)), Row r_event_task 70 (.slice A268 t262.tasks.length c269) t262.tasks, Row r_api_Event 32 (.slice A271 t262.l.length c272) t262.l] := S
    refine W_v (.tuple #[.pointer (some ⟨b266, 0, none⟩), .int .i64 0]) (x_move rfl) rfl ?_
    refine W_v (.pointer (some ⟨b266, 0, none⟩)) (x_extract rfl rfl) rfl ?_
    refine W_v (.int .i64 0) (x_extract rfl rfl) rfl ?_
    refine W_v (.pointer (some ⟨b266, 0, none⟩)) (x_assign rfl) rfl ?_
    refine W_v (.int .i64 0) (x_assign rfl) rfl ?_
    refine Wl_nil ?_
    refine tn ?_
    refine Wp_seq ?_
    refine Wp_seq ?_
    refine Wp_region_lit ?_
    refine W_v (.int .i64 0) (x_move rfl) rfl ?_
    refine W_v (.bool false) (x_ibin rfl rfl rfl rfl) rfl ?_
    refine W_v (.bool false) (x_move rfl) rfl ?_
    refine W_yes (rfl) ?_
    refine W_v (.pointer (some ⟨b266, 0, none⟩)) (x_move rfl) rfl ?_
    refine W_yes (rfl) ?_
    obtain ⟨t277, ht278, H⟩ := bindS H
    refine W_call fn31 (event_Recorder_Mark_POO.con k M275 A268 c269 A271 c272 t262 (5 : Int) b266 t277  ht278) (Γ1 := [Blk b266 (.cells #[.slice A268 t262.tasks.length c269, .slice A271 t262.l.length c272] 73 (0, 0)), Row r_event_task 70 (.slice A268 t262.tasks.length c269) t262.tasks, Row r_api_Event 32 (.slice A271 t262.l.length c272) t262.l]) (Γ2 := []) S rfl rfl ?_
    rintro _ w285 M286 Γ' hM287 E' S ⟨A279, c280, A282, c283, rfl, rfl⟩
    replace HM := Hp.le_trans HM hM287
    replace hM96 := Hp.le_trans hM96 hM287
    replace E := E.trans E'
    clear E'
    replace S : St w285 M286 F [Blk b266 (.cells #[.slice A279 t277.2.tasks.length c280, .slice A282 t277.2.l.length c283] 73 (0, 0)), Row r_event_task 70 (.slice A279 t277.2.tasks.length c280) t277.2.tasks, Row r_api_Event 32 (.slice A282 t277.2.l.length c283) t277.2.l] := S
    refine W_yes (rfl) ?_
    refine W_v (.bool (t277.1 != (7 : Int))) (x_ibin rfl rfl rfl rfl) rfl ?_
    refine W_v (.bool (t277.1 != (7 : Int))) (x_pick (k := false) rfl rfl) rfl ?_
    refine W_v (.bool (t277.1 != (7 : Int))) (x_move rfl) rfl ?_
    obtain ⟨o320, o320h, o320H⟩ := bindS H
    clear H
    refine Wl_cutN 5 (fun ρ w' => ∃ (x311 : Bool) (x312 : List event_task) (x316 : List api_Event) (A313 : Option Addr) (c314 : Nat) (A317 : Option Addr) (c318 : Nat) (Mj : Hp), (x311, x312, x316) = o320 ∧ Agree ρ [(9, .pointer (some ⟨b266, 0, none⟩)), (111, .bool x311)] ∧ M286.le Mj ∧ Ext w w' ∧ St w' Mj F [Row r_api_Event 32 (.slice A317 x316.length c318) x316, Row r_event_task 70 (.slice A313 x312.length c314) x312, Blk b266 (.cells #[.slice A313 x312.length c314, .slice A317 x316.length c318] 73 (0, 0))]) ?_ ?_
    · have H := o320h
      have LE321 := Hp.le_refl M286
      rcases iteS H with ⟨hb310, H⟩ | ⟨hb310, H⟩
      · skip
        refine W_no (skF hb310) rfl ?_
        refine W_no (skF hb310) rfl ?_
        refine W_no (skF hb310) rfl ?_
        refine W_no (skF hb310) rfl ?_
        refine W_v (.bool true) (x_pick (k := true) (congrArg Value.bool hb310) rfl) rfl ?_
        refine Wl_nil ?_
        exact ⟨true, t277.2.tasks, t277.2.l, A279, c280, A282, c283, M286, Option.some.inj H, ⟨rfl, rfl, trivial⟩, (Hp.le_refl M286), E, S.pick [2, 1, 0] (by decide)⟩
      · skip
        refine W_yes (congrArg some hb310) ?_
        refine W_v (.pointer (some ⟨b266, 0, none⟩)) (x_move rfl) rfl ?_
        refine W_yes (congrArg some hb310) ?_
        refine W_v (.agg #[.int .i64 0, .bool false, .string (bs ([] : Str)), .slice none 0 0]) (x_build2 (pl := [(0, 1), (1, 1), (2, 1), (3, 1)]) #[.int .i64 0, .bool false, .string (bs ([] : Str)), .slice none 0 0] Try.underlying30 ty30 (by kernel_rfl) rfl (by kernel_rfl)) rfl ?_
        refine W_yes (congrArg some hb310) ?_
        obtain ⟨t322, ht323, H⟩ := bindS H
        refine W_call fn32 (event_Recorder_Return_POO.con k M286 A279 c280 A282 c283 t277.2 (5 : Int) none 0 (⟨(0 : Int), false, ([] : Str), ([] : (List api_Pair))⟩ : api_Answer) b266 t322 (SlW.nil _ _) ht323) (Γ1 := [Blk b266 (.cells #[.slice A279 t277.2.tasks.length c280, .slice A282 t277.2.l.length c283] 73 (0, 0)), Row r_event_task 70 (.slice A279 t277.2.tasks.length c280) t277.2.tasks, Row r_api_Event 32 (.slice A282 t277.2.l.length c283) t277.2.l]) (Γ2 := []) S rfl rfl ?_
        rintro _ w330 M331 Γ' hM332 E' S ⟨A324, c325, A327, c328, rfl, rfl⟩
        replace HM := Hp.le_trans HM hM332
        replace hM96 := Hp.le_trans hM96 hM332
        replace LE321 := Hp.le_trans LE321 hM332
        replace E := E.trans E'
        clear E'
        replace S : St w330 M331 F [Blk b266 (.cells #[.slice A324 t322.2.tasks.length c325, .slice A327 t322.2.l.length c328] 73 (0, 0)), Row r_event_task 70 (.slice A324 t322.2.tasks.length c325) t322.2.tasks, Row r_api_Event 32 (.slice A327 t322.2.l.length c328) t322.2.l] := S
        refine W_yes (congrArg some hb310) ?_
        refine W_v (.bool (t322.1 != (7 : Int))) (x_ibin rfl rfl rfl rfl) rfl ?_
        refine W_v (.bool (t322.1 != (7 : Int))) (x_pick (k := false) (congrArg Value.bool hb310) rfl) rfl ?_
        refine Wl_nil ?_
        exact ⟨(t322.1 != (7 : Int)), t322.2.tasks, t322.2.l, A324, c325, A327, c328, M331, Option.some.inj H, ⟨rfl, rfl, trivial⟩, LE321, E, S.pick [2, 1, 0] (by decide)⟩
    clear o320h
    rintro ρ w333 ⟨x311, x312, x316, A313, c314, A317, c318, M334, rfl, hρ, hM335, E, S⟩
    rw [agree_eta hρ]
    clear hρ
    replace HM := Hp.le_trans HM hM335
    replace hM96 := Hp.le_trans hM96 hM335
    have H := o320H
    clear o320H
    refine W_v (.bool x311) (x_move rfl) rfl ?_
    obtain ⟨o368, o368h, o368H⟩ := bindS H
    clear H
    refine Wl_cutN 4 (fun ρ w' => ∃ (x359 : Bool) (x360 : List event_task) (x364 : List api_Event) (A361 : Option Addr) (c362 : Nat) (A365 : Option Addr) (c366 : Nat) (Mj : Hp), (x359, x360, x364) = o368 ∧ Agree ρ [(9, .pointer (some ⟨b266, 0, none⟩)), (116, .bool x359)] ∧ M334.le Mj ∧ Ext w w' ∧ St w' Mj F [Row r_api_Event 32 (.slice A365 x364.length c366) x364, Row r_event_task 70 (.slice A361 x360.length c362) x360, Blk b266 (.cells #[.slice A361 x360.length c362, .slice A365 x364.length c366] 73 (0, 0))]) ?_ ?_
    · have H := o368h
      have LE369 := Hp.le_refl M334
      rcases iteS H with ⟨hb358, H⟩ | ⟨hb358, H⟩
      · skip
        refine W_no (skF hb358) rfl ?_
        refine W_no (skF hb358) rfl ?_
        refine W_no (skF hb358) rfl ?_
        refine W_v (.bool true) (x_pick (k := true) (congrArg Value.bool hb358) rfl) rfl ?_
        refine Wl_nil ?_
        exact ⟨true, x312, x316, A313, c314, A317, c318, M334, Option.some.inj H, ⟨rfl, rfl, trivial⟩, (Hp.le_refl M334), E, S.pick [0, 1, 2] (by decide)⟩
      · skip
        refine W_yes (congrArg some hb358) ?_
        refine W_v (.pointer (some ⟨b266, 0, none⟩)) (x_move rfl) rfl ?_
        refine W_yes (congrArg some hb358) ?_
        obtain ⟨t370, ht371, H⟩ := bindS H
        replace S : St w333 M334 F [Blk b266 (.cells #[.slice A313 x312.length c314, .slice A317 x316.length c318] 73 (0, 0)), Row r_event_task 70 (.slice A313 x312.length c314) x312, Row r_api_Event 32 (.slice A317 x316.length c318) x316] := S.pick [2, 1, 0] (by decide)
        refine W_call fn31 (event_Recorder_Mark_POO.con k M334 A313 c314 A317 c318 (⟨x312, x316⟩ : event_Recorder) (-1 : Int) b266 t370  ht371) (Γ1 := [Blk b266 (.cells #[.slice A313 x312.length c314, .slice A317 x316.length c318] 73 (0, 0)), Row r_event_task 70 (.slice A313 x312.length c314) x312, Row r_api_Event 32 (.slice A317 x316.length c318) x316]) (Γ2 := []) S rfl rfl ?_
        rintro _ w378 M379 Γ' hM380 E' S ⟨A372, c373, A375, c376, rfl, rfl⟩
        replace HM := Hp.le_trans HM hM380
        replace hM96 := Hp.le_trans hM96 hM380
        replace hM335 := Hp.le_trans hM335 hM380
        replace LE369 := Hp.le_trans LE369 hM380
        replace E := E.trans E'
        clear E'
        replace S : St w378 M379 F [Blk b266 (.cells #[.slice A372 t370.2.tasks.length c373, .slice A375 t370.2.l.length c376] 73 (0, 0)), Row r_event_task 70 (.slice A372 t370.2.tasks.length c373) t370.2.tasks, Row r_api_Event 32 (.slice A375 t370.2.l.length c376) t370.2.l] := S
        refine W_yes (congrArg some hb358) ?_
        refine W_v (.bool (t370.1 != (1 : Int))) (x_ibin rfl rfl rfl rfl) rfl ?_
        refine W_v (.bool (t370.1 != (1 : Int))) (x_pick (k := false) (congrArg Value.bool hb358) rfl) rfl ?_
        refine Wl_nil ?_
        exact ⟨(t370.1 != (1 : Int)), t370.2.tasks, t370.2.l, A372, c373, A375, c376, M379, Option.some.inj H, ⟨rfl, rfl, trivial⟩, LE369, E, S.pick [2, 1, 0] (by decide)⟩
    clear o368h
    rintro ρ w381 ⟨x359, x360, x364, A361, c362, A365, c366, M382, rfl, hρ, hM383, E, S⟩
    rw [agree_eta hρ]
    clear hρ
    replace HM := Hp.le_trans HM hM383
    replace hM96 := Hp.le_trans hM96 hM383
    replace hM335 := Hp.le_trans hM335 hM383
    have H := o368H
    clear o368H
    refine W_v (.bool x359) (x_move rfl) rfl ?_
    obtain ⟨o416, o416h, o416H⟩ := bindS H
    clear H
    refine Wl_cutN 5 (fun ρ w' => ∃ (x407 : Bool) (x408 : List event_task) (x412 : List api_Event) (A409 : Option Addr) (c410 : Nat) (A413 : Option Addr) (c414 : Nat) (Mj : Hp), (x407, x408, x412) = o416 ∧ Agree ρ [(9, .pointer (some ⟨b266, 0, none⟩)), (122, .bool x407)] ∧ M382.le Mj ∧ Ext w w' ∧ St w' Mj F [Row r_api_Event 32 (.slice A413 x412.length c414) x412, Row r_event_task 70 (.slice A409 x408.length c410) x408, Blk b266 (.cells #[.slice A409 x408.length c410, .slice A413 x412.length c414] 73 (0, 0))]) ?_ ?_
    · have H := o416h
      have LE417 := Hp.le_refl M382
      rcases iteS H with ⟨hb406, H⟩ | ⟨hb406, H⟩
      · skip
        refine W_no (skF hb406) rfl ?_
        refine W_no (skF hb406) rfl ?_
        refine W_no (skF hb406) rfl ?_
        refine W_no (skF hb406) rfl ?_
        refine W_v (.bool true) (x_pick (k := true) (congrArg Value.bool hb406) rfl) rfl ?_
        refine Wl_nil ?_
        exact ⟨true, x360, x364, A361, c362, A365, c366, M382, Option.some.inj H, ⟨rfl, rfl, trivial⟩, (Hp.le_refl M382), E, S.pick [0, 1, 2] (by decide)⟩
      · skip
        refine W_yes (congrArg some hb406) ?_
        refine W_v (.pointer (some ⟨b266, 0, none⟩)) (x_move rfl) rfl ?_
        refine W_yes (congrArg some hb406) ?_
        refine W_v (.agg #[.int .i64 0, .bool false, .string (bs ([] : Str)), .slice none 0 0]) (x_build2 (pl := [(0, 1), (1, 1), (2, 1), (3, 1)]) #[.int .i64 0, .bool false, .string (bs ([] : Str)), .slice none 0 0] Try.underlying30 ty30 (by kernel_rfl) rfl (by kernel_rfl)) rfl ?_
        refine W_yes (congrArg some hb406) ?_
        obtain ⟨t418, ht419, H⟩ := bindS H
        replace S : St w381 M382 F [Blk b266 (.cells #[.slice A361 x360.length c362, .slice A365 x364.length c366] 73 (0, 0)), Row r_event_task 70 (.slice A361 x360.length c362) x360, Row r_api_Event 32 (.slice A365 x364.length c366) x364] := S.pick [2, 1, 0] (by decide)
        refine W_call fn32 (event_Recorder_Return_POO.con k M382 A361 c362 A365 c366 (⟨x360, x364⟩ : event_Recorder) (6 : Int) none 0 (⟨(0 : Int), false, ([] : Str), ([] : (List api_Pair))⟩ : api_Answer) b266 t418 (SlW.nil _ _) ht419) (Γ1 := [Blk b266 (.cells #[.slice A361 x360.length c362, .slice A365 x364.length c366] 73 (0, 0)), Row r_event_task 70 (.slice A361 x360.length c362) x360, Row r_api_Event 32 (.slice A365 x364.length c366) x364]) (Γ2 := []) S rfl rfl ?_
        rintro _ w426 M427 Γ' hM428 E' S ⟨A420, c421, A423, c424, rfl, rfl⟩
        replace HM := Hp.le_trans HM hM428
        replace hM96 := Hp.le_trans hM96 hM428
        replace hM335 := Hp.le_trans hM335 hM428
        replace hM383 := Hp.le_trans hM383 hM428
        replace LE417 := Hp.le_trans LE417 hM428
        replace E := E.trans E'
        clear E'
        replace S : St w426 M427 F [Blk b266 (.cells #[.slice A420 t418.2.tasks.length c421, .slice A423 t418.2.l.length c424] 73 (0, 0)), Row r_event_task 70 (.slice A420 t418.2.tasks.length c421) t418.2.tasks, Row r_api_Event 32 (.slice A423 t418.2.l.length c424) t418.2.l] := S
        refine W_yes (congrArg some hb406) ?_
        refine W_v (.bool (t418.1 != (1 : Int))) (x_ibin rfl rfl rfl rfl) rfl ?_
        refine W_v (.bool (t418.1 != (1 : Int))) (x_pick (k := false) (congrArg Value.bool hb406) rfl) rfl ?_
        refine Wl_nil ?_
        exact ⟨(t418.1 != (1 : Int)), t418.2.tasks, t418.2.l, A420, c421, A423, c424, M427, Option.some.inj H, ⟨rfl, rfl, trivial⟩, LE417, E, S.pick [2, 1, 0] (by decide)⟩
    clear o416h
    rintro ρ w429 ⟨x407, x408, x412, A409, c410, A413, c414, M430, rfl, hρ, hM431, E, S⟩
    rw [agree_eta hρ]
    clear hρ
    replace HM := Hp.le_trans HM hM431
    replace hM96 := Hp.le_trans hM96 hM431
    replace hM335 := Hp.le_trans hM335 hM431
    replace hM383 := Hp.le_trans hM383 hM431
    have H := o416H
    clear o416H
    refine W_v (.bool x407) (x_move rfl) rfl ?_
    obtain ⟨o464, o464h, o464H⟩ := bindS H
    clear H
    refine Wl_cutN 4 (fun ρ w' => ∃ (x455 : Bool) (x456 : List event_task) (x460 : List api_Event) (A457 : Option Addr) (c458 : Nat) (A461 : Option Addr) (c462 : Nat) (Mj : Hp), (x455, x456, x460) = o464 ∧ Agree ρ [(9, .pointer (some ⟨b266, 0, none⟩)), (127, .bool x455)] ∧ M430.le Mj ∧ Ext w w' ∧ St w' Mj F [Row r_api_Event 32 (.slice A461 x460.length c462) x460, Row r_event_task 70 (.slice A457 x456.length c458) x456, Blk b266 (.cells #[.slice A457 x456.length c458, .slice A461 x460.length c462] 73 (0, 0))]) ?_ ?_
    · have H := o464h
      have LE465 := Hp.le_refl M430
      rcases iteS H with ⟨hb454, H⟩ | ⟨hb454, H⟩
      · skip
        refine W_no (skF hb454) rfl ?_
        refine W_no (skF hb454) rfl ?_
        refine W_no (skF hb454) rfl ?_
        refine W_v (.bool true) (x_pick (k := true) (congrArg Value.bool hb454) rfl) rfl ?_
        refine Wl_nil ?_
        exact ⟨true, x408, x412, A409, c410, A413, c414, M430, Option.some.inj H, ⟨rfl, rfl, trivial⟩, (Hp.le_refl M430), E, S.pick [0, 1, 2] (by decide)⟩
      · skip
        refine W_yes (congrArg some hb454) ?_
        refine W_v (.pointer (some ⟨b266, 0, none⟩)) (x_move rfl) rfl ?_
        refine W_yes (congrArg some hb454) ?_
        obtain ⟨t466, ht467, H⟩ := bindS H
        replace S : St w429 M430 F [Blk b266 (.cells #[.slice A409 x408.length c410, .slice A413 x412.length c414] 73 (0, 0)), Row r_event_task 70 (.slice A409 x408.length c410) x408, Row r_api_Event 32 (.slice A413 x412.length c414) x412] := S.pick [2, 1, 0] (by decide)
        refine W_call fn30 (event_Recorder_Invoke_POO.con k M430 A409 c410 A413 c414 (⟨x408, x412⟩ : event_Recorder) (5 : Int) b266 t466  ht467) (Γ1 := [Blk b266 (.cells #[.slice A409 x408.length c410, .slice A413 x412.length c414] 73 (0, 0)), Row r_event_task 70 (.slice A409 x408.length c410) x408, Row r_api_Event 32 (.slice A413 x412.length c414) x412]) (Γ2 := []) S rfl rfl ?_
        rintro _ w474 M475 Γ' hM476 E' S ⟨A468, c469, A471, c472, rfl, rfl⟩
        replace HM := Hp.le_trans HM hM476
        replace hM96 := Hp.le_trans hM96 hM476
        replace hM335 := Hp.le_trans hM335 hM476
        replace hM383 := Hp.le_trans hM383 hM476
        replace hM431 := Hp.le_trans hM431 hM476
        replace LE465 := Hp.le_trans LE465 hM476
        replace E := E.trans E'
        clear E'
        replace S : St w474 M475 F [Blk b266 (.cells #[.slice A468 t466.2.tasks.length c469, .slice A471 t466.2.l.length c472] 73 (0, 0)), Row r_event_task 70 (.slice A468 t466.2.tasks.length c469) t466.2.tasks, Row r_api_Event 32 (.slice A471 t466.2.l.length c472) t466.2.l] := S
        refine W_yes (congrArg some hb454) ?_
        refine W_v (.bool (t466.1 != (0 : Int))) (x_ibin rfl rfl rfl rfl) rfl ?_
        refine W_v (.bool (t466.1 != (0 : Int))) (x_pick (k := false) (congrArg Value.bool hb454) rfl) rfl ?_
        refine Wl_nil ?_
        exact ⟨(t466.1 != (0 : Int)), t466.2.tasks, t466.2.l, A468, c469, A471, c472, M475, Option.some.inj H, ⟨rfl, rfl, trivial⟩, LE465, E, S.pick [2, 1, 0] (by decide)⟩
    clear o464h
    rintro ρ w477 ⟨x455, x456, x460, A457, c458, A461, c462, M478, rfl, hρ, hM479, E, S⟩
    rw [agree_eta hρ]
    clear hρ
    replace HM := Hp.le_trans HM hM479
    replace hM96 := Hp.le_trans hM96 hM479
    replace hM335 := Hp.le_trans hM335 hM479
    replace hM383 := Hp.le_trans hM383 hM479
    replace hM431 := Hp.le_trans hM431 hM479
    have H := o464H
    clear o464H
    refine W_v (.bool x455) (x_move rfl) rfl ?_
    obtain ⟨o512, o512h, o512H⟩ := bindS H
    clear H
    refine Wl_cutN 4 (fun ρ w' => ∃ (x503 : Bool) (x504 : List event_task) (x508 : List api_Event) (A505 : Option Addr) (c506 : Nat) (A509 : Option Addr) (c510 : Nat) (Mj : Hp), (x503, x504, x508) = o512 ∧ Agree ρ [(9, .pointer (some ⟨b266, 0, none⟩)), (132, .bool x503)] ∧ M478.le Mj ∧ Ext w w' ∧ St w' Mj F [Row r_api_Event 32 (.slice A509 x508.length c510) x508, Row r_event_task 70 (.slice A505 x504.length c506) x504, Blk b266 (.cells #[.slice A505 x504.length c506, .slice A509 x508.length c510] 73 (0, 0))]) ?_ ?_
    · have H := o512h
      have LE513 := Hp.le_refl M478
      rcases iteS H with ⟨hb502, H⟩ | ⟨hb502, H⟩
      · skip
        refine W_no (skF hb502) rfl ?_
        refine W_no (skF hb502) rfl ?_
        refine W_no (skF hb502) rfl ?_
        refine W_v (.bool true) (x_pick (k := true) (congrArg Value.bool hb502) rfl) rfl ?_
        refine Wl_nil ?_
        exact ⟨true, x456, x460, A457, c458, A461, c462, M478, Option.some.inj H, ⟨rfl, rfl, trivial⟩, (Hp.le_refl M478), E, S.pick [0, 1, 2] (by decide)⟩
      · skip
        refine W_yes (congrArg some hb502) ?_
        refine W_v (.pointer (some ⟨b266, 0, none⟩)) (x_move rfl) rfl ?_
        refine W_yes (congrArg some hb502) ?_
        obtain ⟨t514, ht515, H⟩ := bindS H
        replace S : St w477 M478 F [Blk b266 (.cells #[.slice A457 x456.length c458, .slice A461 x460.length c462] 73 (0, 0)), Row r_event_task 70 (.slice A457 x456.length c458) x456, Row r_api_Event 32 (.slice A461 x460.length c462) x460] := S.pick [2, 1, 0] (by decide)
        refine W_call fn31 (event_Recorder_Mark_POO.con k M478 A457 c458 A461 c462 (⟨x456, x460⟩ : event_Recorder) (5 : Int) b266 t514  ht515) (Γ1 := [Blk b266 (.cells #[.slice A457 x456.length c458, .slice A461 x460.length c462] 73 (0, 0)), Row r_event_task 70 (.slice A457 x456.length c458) x456, Row r_api_Event 32 (.slice A461 x460.length c462) x460]) (Γ2 := []) S rfl rfl ?_
        rintro _ w522 M523 Γ' hM524 E' S ⟨A516, c517, A519, c520, rfl, rfl⟩
        replace HM := Hp.le_trans HM hM524
        replace hM96 := Hp.le_trans hM96 hM524
        replace hM335 := Hp.le_trans hM335 hM524
        replace hM383 := Hp.le_trans hM383 hM524
        replace hM431 := Hp.le_trans hM431 hM524
        replace hM479 := Hp.le_trans hM479 hM524
        replace LE513 := Hp.le_trans LE513 hM524
        replace E := E.trans E'
        clear E'
        replace S : St w522 M523 F [Blk b266 (.cells #[.slice A516 t514.2.tasks.length c517, .slice A519 t514.2.l.length c520] 73 (0, 0)), Row r_event_task 70 (.slice A516 t514.2.tasks.length c517) t514.2.tasks, Row r_api_Event 32 (.slice A519 t514.2.l.length c520) t514.2.l] := S
        refine W_yes (congrArg some hb502) ?_
        refine W_v (.bool (t514.1 != (0 : Int))) (x_ibin rfl rfl rfl rfl) rfl ?_
        refine W_v (.bool (t514.1 != (0 : Int))) (x_pick (k := false) (congrArg Value.bool hb502) rfl) rfl ?_
        refine Wl_nil ?_
        exact ⟨(t514.1 != (0 : Int)), t514.2.tasks, t514.2.l, A516, c517, A519, c520, M523, Option.some.inj H, ⟨rfl, rfl, trivial⟩, LE513, E, S.pick [2, 1, 0] (by decide)⟩
    clear o512h
    rintro ρ w525 ⟨x503, x504, x508, A505, c506, A509, c510, M526, rfl, hρ, hM527, E, S⟩
    rw [agree_eta hρ]
    clear hρ
    replace HM := Hp.le_trans HM hM527
    replace hM96 := Hp.le_trans hM96 hM527
    replace hM335 := Hp.le_trans hM335 hM527
    replace hM383 := Hp.le_trans hM383 hM527
    replace hM431 := Hp.le_trans hM431 hM527
    replace hM479 := Hp.le_trans hM479 hM527
    have H := o512H
    clear o512H
    refine W_v (.bool x503) (x_move rfl) rfl ?_
    obtain ⟨o560, o560h, o560H⟩ := bindS H
    clear H
    refine Wl_cutN 4 (fun ρ w' => ∃ (x551 : Bool) (x552 : List event_task) (x556 : List api_Event) (A553 : Option Addr) (c554 : Nat) (A557 : Option Addr) (c558 : Nat) (Mj : Hp), (x551, x552, x556) = o560 ∧ Agree ρ [(9, .pointer (some ⟨b266, 0, none⟩)), (137, .bool x551)] ∧ M526.le Mj ∧ Ext w w' ∧ St w' Mj F [Row r_api_Event 32 (.slice A557 x556.length c558) x556, Row r_event_task 70 (.slice A553 x552.length c554) x552, Blk b266 (.cells #[.slice A553 x552.length c554, .slice A557 x556.length c558] 73 (0, 0))]) ?_ ?_
    · have H := o560h
      have LE561 := Hp.le_refl M526
      rcases iteS H with ⟨hb550, H⟩ | ⟨hb550, H⟩
      · skip
        refine W_no (skF hb550) rfl ?_
        refine W_no (skF hb550) rfl ?_
        refine W_no (skF hb550) rfl ?_
        refine W_v (.bool true) (x_pick (k := true) (congrArg Value.bool hb550) rfl) rfl ?_
        refine Wl_nil ?_
        exact ⟨true, x504, x508, A505, c506, A509, c510, M526, Option.some.inj H, ⟨rfl, rfl, trivial⟩, (Hp.le_refl M526), E, S.pick [0, 1, 2] (by decide)⟩
      · skip
        refine W_yes (congrArg some hb550) ?_
        refine W_v (.pointer (some ⟨b266, 0, none⟩)) (x_move rfl) rfl ?_
        refine W_yes (congrArg some hb550) ?_
        obtain ⟨t562, ht563, H⟩ := bindS H
        replace S : St w525 M526 F [Blk b266 (.cells #[.slice A505 x504.length c506, .slice A509 x508.length c510] 73 (0, 0)), Row r_event_task 70 (.slice A505 x504.length c506) x504, Row r_api_Event 32 (.slice A509 x508.length c510) x508] := S.pick [2, 1, 0] (by decide)
        refine W_call fn31 (event_Recorder_Mark_POO.con k M526 A505 c506 A509 c510 (⟨x504, x508⟩ : event_Recorder) (5 : Int) b266 t562  ht563) (Γ1 := [Blk b266 (.cells #[.slice A505 x504.length c506, .slice A509 x508.length c510] 73 (0, 0)), Row r_event_task 70 (.slice A505 x504.length c506) x504, Row r_api_Event 32 (.slice A509 x508.length c510) x508]) (Γ2 := []) S rfl rfl ?_
        rintro _ w570 M571 Γ' hM572 E' S ⟨A564, c565, A567, c568, rfl, rfl⟩
        replace HM := Hp.le_trans HM hM572
        replace hM96 := Hp.le_trans hM96 hM572
        replace hM335 := Hp.le_trans hM335 hM572
        replace hM383 := Hp.le_trans hM383 hM572
        replace hM431 := Hp.le_trans hM431 hM572
        replace hM479 := Hp.le_trans hM479 hM572
        replace hM527 := Hp.le_trans hM527 hM572
        replace LE561 := Hp.le_trans LE561 hM572
        replace E := E.trans E'
        clear E'
        replace S : St w570 M571 F [Blk b266 (.cells #[.slice A564 t562.2.tasks.length c565, .slice A567 t562.2.l.length c568] 73 (0, 0)), Row r_event_task 70 (.slice A564 t562.2.tasks.length c565) t562.2.tasks, Row r_api_Event 32 (.slice A567 t562.2.l.length c568) t562.2.l] := S
        refine W_yes (congrArg some hb550) ?_
        refine W_v (.bool (t562.1 != (7 : Int))) (x_ibin rfl rfl rfl rfl) rfl ?_
        refine W_v (.bool (t562.1 != (7 : Int))) (x_pick (k := false) (congrArg Value.bool hb550) rfl) rfl ?_
        refine Wl_nil ?_
        exact ⟨(t562.1 != (7 : Int)), t562.2.tasks, t562.2.l, A564, c565, A567, c568, M571, Option.some.inj H, ⟨rfl, rfl, trivial⟩, LE561, E, S.pick [2, 1, 0] (by decide)⟩
    clear o560h
    rintro ρ w573 ⟨x551, x552, x556, A553, c554, A557, c558, M574, rfl, hρ, hM575, E, S⟩
    rw [agree_eta hρ]
    clear hρ
    replace HM := Hp.le_trans HM hM575
    replace hM96 := Hp.le_trans hM96 hM575
    replace hM335 := Hp.le_trans hM335 hM575
    replace hM383 := Hp.le_trans hM383 hM575
    replace hM431 := Hp.le_trans hM431 hM575
    replace hM479 := Hp.le_trans hM479 hM575
    replace hM527 := Hp.le_trans hM527 hM575
    have H := o560H
    clear o560H
    refine W_v (.bool x551) (x_move rfl) rfl ?_
    obtain ⟨o608, o608h, o608H⟩ := bindS H
    clear H
    refine Wl_cutN 4 (fun ρ w' => ∃ (x599 : Bool) (x600 : List event_task) (x604 : List api_Event) (A601 : Option Addr) (c602 : Nat) (A605 : Option Addr) (c606 : Nat) (Mj : Hp), (x599, x600, x604) = o608 ∧ Agree ρ [(9, .pointer (some ⟨b266, 0, none⟩)), (142, .bool x599)] ∧ M574.le Mj ∧ Ext w w' ∧ St w' Mj F [Row r_api_Event 32 (.slice A605 x604.length c606) x604, Row r_event_task 70 (.slice A601 x600.length c602) x600, Blk b266 (.cells #[.slice A601 x600.length c602, .slice A605 x604.length c606] 73 (0, 0))]) ?_ ?_
    · have H := o608h
      have LE609 := Hp.le_refl M574
      rcases iteS H with ⟨hb598, H⟩ | ⟨hb598, H⟩
      · skip
        refine W_no (skF hb598) rfl ?_
        refine W_no (skF hb598) rfl ?_
        refine W_no (skF hb598) rfl ?_
        refine W_v (.bool true) (x_pick (k := true) (congrArg Value.bool hb598) rfl) rfl ?_
        refine Wl_nil ?_
        exact ⟨true, x552, x556, A553, c554, A557, c558, M574, Option.some.inj H, ⟨rfl, rfl, trivial⟩, (Hp.le_refl M574), E, S.pick [0, 1, 2] (by decide)⟩
      · skip
        refine W_yes (congrArg some hb598) ?_
        refine W_v (.pointer (some ⟨b266, 0, none⟩)) (x_move rfl) rfl ?_
        refine W_yes (congrArg some hb598) ?_
        obtain ⟨t610, ht611, H⟩ := bindS H
        replace S : St w573 M574 F [Blk b266 (.cells #[.slice A553 x552.length c554, .slice A557 x556.length c558] 73 (0, 0)), Row r_event_task 70 (.slice A553 x552.length c554) x552, Row r_api_Event 32 (.slice A557 x556.length c558) x556] := S.pick [2, 1, 0] (by decide)
        refine W_call fn30 (event_Recorder_Invoke_POO.con k M574 A553 c554 A557 c558 (⟨x552, x556⟩ : event_Recorder) (5 : Int) b266 t610  ht611) (Γ1 := [Blk b266 (.cells #[.slice A553 x552.length c554, .slice A557 x556.length c558] 73 (0, 0)), Row r_event_task 70 (.slice A553 x552.length c554) x552, Row r_api_Event 32 (.slice A557 x556.length c558) x556]) (Γ2 := []) S rfl rfl ?_
        rintro _ w618 M619 Γ' hM620 E' S ⟨A612, c613, A615, c616, rfl, rfl⟩
        replace HM := Hp.le_trans HM hM620
        replace hM96 := Hp.le_trans hM96 hM620
        replace hM335 := Hp.le_trans hM335 hM620
        replace hM383 := Hp.le_trans hM383 hM620
        replace hM431 := Hp.le_trans hM431 hM620
        replace hM479 := Hp.le_trans hM479 hM620
        replace hM527 := Hp.le_trans hM527 hM620
        replace hM575 := Hp.le_trans hM575 hM620
        replace LE609 := Hp.le_trans LE609 hM620
        replace E := E.trans E'
        clear E'
        replace S : St w618 M619 F [Blk b266 (.cells #[.slice A612 t610.2.tasks.length c613, .slice A615 t610.2.l.length c616] 73 (0, 0)), Row r_event_task 70 (.slice A612 t610.2.tasks.length c613) t610.2.tasks, Row r_api_Event 32 (.slice A615 t610.2.l.length c616) t610.2.l] := S
        refine W_yes (congrArg some hb598) ?_
        refine W_v (.bool (t610.1 != (7 : Int))) (x_ibin rfl rfl rfl rfl) rfl ?_
        refine W_v (.bool (t610.1 != (7 : Int))) (x_pick (k := false) (congrArg Value.bool hb598) rfl) rfl ?_
        refine Wl_nil ?_
        exact ⟨(t610.1 != (7 : Int)), t610.2.tasks, t610.2.l, A612, c613, A615, c616, M619, Option.some.inj H, ⟨rfl, rfl, trivial⟩, LE609, E, S.pick [2, 1, 0] (by decide)⟩
    clear o608h
    rintro ρ w621 ⟨x599, x600, x604, A601, c602, A605, c606, M622, rfl, hρ, hM623, E, S⟩
    rw [agree_eta hρ]
    clear hρ
    replace HM := Hp.le_trans HM hM623
    replace hM96 := Hp.le_trans hM96 hM623
    replace hM335 := Hp.le_trans hM335 hM623
    replace hM383 := Hp.le_trans hM383 hM623
    replace hM431 := Hp.le_trans hM431 hM623
    replace hM479 := Hp.le_trans hM479 hM623
    replace hM527 := Hp.le_trans hM527 hM623
    replace hM575 := Hp.le_trans hM575 hM623
    have H := o608H
    clear o608H
    refine Wl_nil ?_
    refine tn ?_
    rcases iteS H with ⟨hb624, H⟩ | ⟨hb624, H⟩
    · refine Wp_cond_true (congrArg Value.bool hb624) ?_
      refine Wp_seq ?_
      refine Wp_region_lit ?_
      refine W_v (.bool false) (x_assign rfl) rfl ?_
      refine Wl_nil ?_
      refine tn ?_
      refine Wp_ret ?_
      refine tr (?_)
      obtain rfl := Option.some.inj H
      exact ⟨_, _, _, fun w1 e1 => run_resR (vs := [.bool false]) (FA.cons (rfl) (FA.nil)), HM, E, S.pick [] (by decide), ⟨rfl, rfl⟩⟩
    refine Wp_cond_false (congrArg Value.bool hb624) ?_
    refine Wp_skip ?_
    refine tn ?_
    refine Wp_seq ?_
    refine Wp_region_lit ?_
    refine W_v (.pointer (some ⟨b266, 0, none⟩)) (x_move rfl) rfl ?_
    obtain ⟨t625, ht626, H⟩ := bindS H
    replace S : St w621 M622 F [Blk b266 (.cells #[.slice A601 x600.length c602, .slice A605 x604.length c606] 73 (0, 0)), Row r_event_task 70 (.slice A601 x600.length c602) x600, Row r_api_Event 32 (.slice A605 x604.length c606) x604] := S.pick [2, 1, 0] (by decide)
    refine W_call fn20 (event_Recorder_Under_POO.con k M622 A601 c602 A605 c606 (⟨x600, x604⟩ : event_Recorder) (5 : Int) b266 t625  ht626) (Γ1 := [Blk b266 (.cells #[.slice A601 x600.length c602, .slice A605 x604.length c606] 73 (0, 0)), Row r_event_task 70 (.slice A601 x600.length c602) x600, Row r_api_Event 32 (.slice A605 x604.length c606) x604]) (Γ2 := []) S rfl rfl ?_
    rintro _ w627 M628 Γ' hM629 E' S ⟨rfl, rfl⟩
    replace HM := Hp.le_trans HM hM629
    replace hM96 := Hp.le_trans hM96 hM629
    replace hM335 := Hp.le_trans hM335 hM629
    replace hM383 := Hp.le_trans hM383 hM629
    replace hM431 := Hp.le_trans hM431 hM629
    replace hM479 := Hp.le_trans hM479 hM629
    replace hM527 := Hp.le_trans hM527 hM629
    replace hM575 := Hp.le_trans hM575 hM629
    replace hM623 := Hp.le_trans hM623 hM629
    replace E := E.trans E'
    clear E'
    replace S : St w627 M628 F [Blk b266 (.cells #[.slice A601 x600.length c602, .slice A605 x604.length c606] 73 (0, 0)), Row r_event_task 70 (.slice A601 x600.length c602) x600, Row r_api_Event 32 (.slice A605 x604.length c606) x604] := S
    refine W_v (.tuple #[.int .i64 t625.1, .bool t625.2.1, .bool t625.2.2]) (x_move rfl) rfl ?_
    refine W_v (.int .i64 t625.1) (x_extract rfl rfl) rfl ?_
    refine W_v (.bool t625.2.1) (x_extract rfl rfl) rfl ?_
    refine W_v (.bool t625.2.2) (x_extract rfl rfl) rfl ?_
    refine W_v (.int .i64 t625.1) (x_assign rfl) rfl ?_
    refine W_v (.bool t625.2.1) (x_assign rfl) rfl ?_
    refine W_v (.bool t625.2.2) (x_assign rfl) rfl ?_
    refine Wl_nil ?_
    refine tn ?_
    refine Wp_seq ?_
    refine Wp_region_lit ?_
    refine W_v (.pointer (some ⟨b266, 0, none⟩)) (x_move rfl) rfl ?_
    obtain ⟨t630, ht631, H⟩ := bindS H
    refine W_call fn20 (event_Recorder_Under_POO.con k M628 A601 c602 A605 c606 (⟨x600, x604⟩ : event_Recorder) (0 : Int) b266 t630  ht631) (Γ1 := [Blk b266 (.cells #[.slice A601 x600.length c602, .slice A605 x604.length c606] 73 (0, 0)), Row r_event_task 70 (.slice A601 x600.length c602) x600, Row r_api_Event 32 (.slice A605 x604.length c606) x604]) (Γ2 := []) S rfl rfl ?_
    rintro _ w632 M633 Γ' hM634 E' S ⟨rfl, rfl⟩
    replace HM := Hp.le_trans HM hM634
    replace hM96 := Hp.le_trans hM96 hM634
    replace hM335 := Hp.le_trans hM335 hM634
    replace hM383 := Hp.le_trans hM383 hM634
    replace hM431 := Hp.le_trans hM431 hM634
    replace hM479 := Hp.le_trans hM479 hM634
    replace hM527 := Hp.le_trans hM527 hM634
    replace hM575 := Hp.le_trans hM575 hM634
    replace hM623 := Hp.le_trans hM623 hM634
    replace E := E.trans E'
    clear E'
    replace S : St w632 M633 F [Blk b266 (.cells #[.slice A601 x600.length c602, .slice A605 x604.length c606] 73 (0, 0)), Row r_event_task 70 (.slice A601 x600.length c602) x600, Row r_api_Event 32 (.slice A605 x604.length c606) x604] := S
    refine W_v (.tuple #[.int .i64 t630.1, .bool t630.2.1, .bool t630.2.2]) (x_move rfl) rfl ?_
    refine W_v (.int .i64 t630.1) (x_extract rfl rfl) rfl ?_
    refine W_v (.bool t630.2.1) (x_extract rfl rfl) rfl ?_
    refine W_v (.bool t630.2.2) (x_extract rfl rfl) rfl ?_
    refine W_v (.int .i64 t630.1) (x_assign rfl) rfl ?_
    refine W_v (.bool t630.2.1) (x_assign rfl) rfl ?_
    refine W_v (.bool t630.2.2) (x_assign rfl) rfl ?_
    refine Wl_nil ?_
    refine tn ?_
    refine Wp_seq ?_
    refine Wp_region_lit ?_
    refine W_v (.pointer (some ⟨b266, 0, none⟩)) (x_move rfl) rfl ?_
    obtain ⟨t635, ht636, H⟩ := bindS H
    refine W_call fn20 (event_Recorder_Under_POO.con k M633 A601 c602 A605 c606 (⟨x600, x604⟩ : event_Recorder) (9 : Int) b266 t635  ht636) (Γ1 := [Blk b266 (.cells #[.slice A601 x600.length c602, .slice A605 x604.length c606] 73 (0, 0)), Row r_event_task 70 (.slice A601 x600.length c602) x600, Row r_api_Event 32 (.slice A605 x604.length c606) x604]) (Γ2 := []) S rfl rfl ?_
    rintro _ w637 M638 Γ' hM639 E' S ⟨rfl, rfl⟩
    replace HM := Hp.le_trans HM hM639
    replace hM96 := Hp.le_trans hM96 hM639
    replace hM335 := Hp.le_trans hM335 hM639
    replace hM383 := Hp.le_trans hM383 hM639
    replace hM431 := Hp.le_trans hM431 hM639
    replace hM479 := Hp.le_trans hM479 hM639
    replace hM527 := Hp.le_trans hM527 hM639
    replace hM575 := Hp.le_trans hM575 hM639
    replace hM623 := Hp.le_trans hM623 hM639
    replace E := E.trans E'
    clear E'
    replace S : St w637 M638 F [Blk b266 (.cells #[.slice A601 x600.length c602, .slice A605 x604.length c606] 73 (0, 0)), Row r_event_task 70 (.slice A601 x600.length c602) x600, Row r_api_Event 32 (.slice A605 x604.length c606) x604] := S
    refine W_v (.tuple #[.int .i64 t635.1, .bool t635.2.1, .bool t635.2.2]) (x_move rfl) rfl ?_
    refine W_v (.int .i64 t635.1) (x_extract rfl rfl) rfl ?_
    refine W_v (.bool t635.2.1) (x_extract rfl rfl) rfl ?_
    refine W_v (.bool t635.2.2) (x_extract rfl rfl) rfl ?_
    refine W_v (.int .i64 t635.1) (x_assign rfl) rfl ?_
    refine W_v (.bool t635.2.1) (x_assign rfl) rfl ?_
    refine W_v (.bool t635.2.2) (x_assign rfl) rfl ?_
    refine Wl_nil ?_
    refine tn ?_
    refine Wp_seq ?_
    refine Wp_seq ?_
    refine Wp_region_lit ?_
    refine W_v (.int .i64 t625.1) (x_move rfl) rfl ?_
    refine W_v (.bool (t625.1 != (0 : Int))) (x_ibin rfl rfl rfl rfl) rfl ?_
    refine W_v (.bool (t625.1 != (0 : Int))) (x_move rfl) rfl ?_
    refine Wl_cutN 3 (fun ρ w' => Agree ρ [(4, .bool t625.2.2), (15, .bool t630.2.2), (18, .bool t635.2.2), (166, .bool ((t625.1 != (0 : Int)) || (!t625.2.1)))] ∧ w637 = w') ?_ ?_
    · rcases boolCases (t625.1 != (0 : Int)) with hb640 | hb640
      · skip
        refine W_yes (congrArg some hb640) ?_
        refine W_v (.bool t625.2.1) (x_move rfl) rfl ?_
        refine W_yes (congrArg some hb640) ?_
        refine W_v (.bool (!t625.2.1)) (x_not rfl) rfl ?_
        refine W_v (.bool (!t625.2.1)) (x_pick (k := false) (congrArg Value.bool hb640) rfl) rfl ?_
        refine Wl_nil ?_
        exact ⟨⟨rfl, rfl, rfl, (by first | rfl | (rw [hb640]; rfl) | (simp only [hb640]; rfl)), trivial⟩, rfl⟩
      · skip
        refine W_no (skF hb640) rfl ?_
        refine W_no (skF hb640) rfl ?_
        refine W_v (.bool true) (x_pick (k := true) (congrArg Value.bool hb640) rfl) rfl ?_
        refine Wl_nil ?_
        exact ⟨⟨rfl, rfl, rfl, (by first | rfl | (rw [hb640]; rfl) | (simp only [hb640]; rfl)), trivial⟩, rfl⟩
    rintro ρ _ ⟨hρ, rfl⟩
    rw [agree_eta hρ]
    clear hρ
    refine W_v (.bool ((t625.1 != (0 : Int)) || (!t625.2.1))) (x_move rfl) rfl ?_
    refine Wl_cutN 3 (fun ρ w' => Agree ρ [(15, .bool t630.2.2), (18, .bool t635.2.2), (170, .bool (((t625.1 != (0 : Int)) || (!t625.2.1)) || (!t625.2.2)))] ∧ w637 = w') ?_ ?_
    · rcases boolCases ((t625.1 != (0 : Int)) || (!t625.2.1)) with hb641 | hb641
      · skip
        refine W_yes (congrArg some hb641) ?_
        refine W_v (.bool t625.2.2) (x_move rfl) rfl ?_
        refine W_yes (congrArg some hb641) ?_
        refine W_v (.bool (!t625.2.2)) (x_not rfl) rfl ?_
        refine W_v (.bool (!t625.2.2)) (x_pick (k := false) (congrArg Value.bool hb641) rfl) rfl ?_
        refine Wl_nil ?_
        exact ⟨⟨rfl, rfl, (by first | rfl | (rw [hb641]; rfl) | (simp only [hb641]; rfl)), trivial⟩, rfl⟩
      · skip
        refine W_no (skF hb641) rfl ?_
        refine W_no (skF hb641) rfl ?_
        refine W_v (.bool true) (x_pick (k := true) (congrArg Value.bool hb641) rfl) rfl ?_
        refine Wl_nil ?_
        exact ⟨⟨rfl, rfl, (by first | rfl | (rw [hb641]; rfl) | (simp only [hb641]; rfl)), trivial⟩, rfl⟩
    rintro ρ _ ⟨hρ, rfl⟩
    rw [agree_eta hρ]
    clear hρ
    refine W_v (.bool (((t625.1 != (0 : Int)) || (!t625.2.1)) || (!t625.2.2))) (x_move rfl) rfl ?_
    refine Wl_cutN 2 (fun ρ w' => Agree ρ [(18, .bool t635.2.2), (173, .bool ((((t625.1 != (0 : Int)) || (!t625.2.1)) || (!t625.2.2)) || t630.2.2))] ∧ w637 = w') ?_ ?_
    · rcases boolCases (((t625.1 != (0 : Int)) || (!t625.2.1)) || (!t625.2.2)) with hb642 | hb642
      · skip
        refine W_yes (congrArg some hb642) ?_
        refine W_v (.bool t630.2.2) (x_move rfl) rfl ?_
        refine W_v (.bool t630.2.2) (x_pick (k := false) (congrArg Value.bool hb642) rfl) rfl ?_
        refine Wl_nil ?_
        exact ⟨⟨rfl, (by first | rfl | (rw [hb642]; rfl) | (simp only [hb642]; rfl)), trivial⟩, rfl⟩
      · skip
        refine W_no (skF hb642) rfl ?_
        refine W_v (.bool true) (x_pick (k := true) (congrArg Value.bool hb642) rfl) rfl ?_
        refine Wl_nil ?_
        exact ⟨⟨rfl, (by first | rfl | (rw [hb642]; rfl) | (simp only [hb642]; rfl)), trivial⟩, rfl⟩
    rintro ρ _ ⟨hρ, rfl⟩
    rw [agree_eta hρ]
    clear hρ
    refine W_v (.bool ((((t625.1 != (0 : Int)) || (!t625.2.1)) || (!t625.2.2)) || t630.2.2)) (x_move rfl) rfl ?_
    refine Wl_cutN 2 (fun ρ w' => Agree ρ [(176, .bool (((((t625.1 != (0 : Int)) || (!t625.2.1)) || (!t625.2.2)) || t630.2.2) || t635.2.2))] ∧ w637 = w') ?_ ?_
    · rcases boolCases ((((t625.1 != (0 : Int)) || (!t625.2.1)) || (!t625.2.2)) || t630.2.2) with hb643 | hb643
      · skip
        refine W_yes (congrArg some hb643) ?_
        refine W_v (.bool t635.2.2) (x_move rfl) rfl ?_
        refine W_v (.bool t635.2.2) (x_pick (k := false) (congrArg Value.bool hb643) rfl) rfl ?_
        refine Wl_nil ?_
        exact ⟨⟨(by first | rfl | (rw [hb643]; rfl) | (simp only [hb643]; rfl)), trivial⟩, rfl⟩
      · skip
        refine W_no (skF hb643) rfl ?_
        refine W_v (.bool true) (x_pick (k := true) (congrArg Value.bool hb643) rfl) rfl ?_
        refine Wl_nil ?_
        exact ⟨⟨(by first | rfl | (rw [hb643]; rfl) | (simp only [hb643]; rfl)), trivial⟩, rfl⟩
    rintro ρ _ ⟨hρ, rfl⟩
    rw [agree_eta hρ]
    clear hρ
    refine Wl_nil ?_
    refine tn ?_
    rcases iteS H with ⟨hb644, H⟩ | ⟨hb644, H⟩
    · refine Wp_cond_true (congrArg Value.bool hb644) ?_
      refine Wp_seq ?_
      refine Wp_region_lit ?_
      refine W_v (.bool false) (x_assign rfl) rfl ?_
      refine Wl_nil ?_
      refine tn ?_
      refine Wp_ret ?_
      refine tr (?_)
      obtain rfl := Option.some.inj H
      exact ⟨_, _, _, fun w1 e1 => run_resR (vs := [.bool false]) (FA.cons (rfl) (FA.nil)), HM, E, S.pick [] (by decide), ⟨rfl, rfl⟩⟩
    refine Wp_cond_false (congrArg Value.bool hb644) ?_
    refine Wp_skip ?_
    refine tn ?_
    refine Wp_seq ?_
    refine Wp_region_lit ?_
    refine W_v (.agg #[.int .u8 1, .int .i64 0, .int .i64 0, .int .i64 0, .bool false, .string (bs ([] : Str)), .slice none 0 0]) (x_build2 (pl := [(0, 1), (1, 1), (2, 1), (3, 4)]) #[.int .u8 1, .int .i64 0, .int .i64 0, .int .i64 0, .bool false, .string (bs ([] : Str)), .slice none 0 0] Try.underlying32 ty32 (by kernel_rfl) rfl (by kernel_rfl)) rfl ?_
    refine W_v (.agg #[.int .u8 2, .int .i64 0, .int .i64 0, .int .i64 0, .bool false, .string (bs ([] : Str)), .slice none 0 0]) (x_build2 (pl := [(0, 1), (1, 1), (2, 1), (3, 4)]) #[.int .u8 2, .int .i64 0, .int .i64 0, .int .i64 0, .bool false, .string (bs ([] : Str)), .slice none 0 0] Try.underlying32 ty32 (by kernel_rfl) rfl (by kernel_rfl)) rfl ?_
    refine W_v (.agg #[.int .u8 3, .int .i64 0, .int .i64 0, .int .i64 0, .bool false, .string (bs ([] : Str)), .slice none 0 0]) (x_build2 (pl := [(0, 1), (1, 1), (2, 1), (3, 4)]) #[.int .u8 3, .int .i64 0, .int .i64 0, .int .i64 0, .bool false, .string (bs ([] : Str)), .slice none 0 0] Try.underlying32 ty32 (by kernel_rfl) rfl (by kernel_rfl)) rfl ?_
    refine W_alloc S #[.int .u8 0, .int .i64 0, .int .i64 0, .int .i64 0, .bool false, .string (bs ([] : Str)), .slice none 0 0] ty32 rfl rfl ?_
    intro b645 w646 E' S
    replace E := E.trans E'
    clear E'
    refine W_alloc S #[.int .u8 0, .int .i64 0, .int .i64 0, .int .i64 0, .bool false, .string (bs ([] : Str)), .slice none 0 0] ty32 rfl rfl ?_
    intro b648 w649 E' S
    replace E := E.trans E'
    clear E'
    refine W_alloc S #[.int .u8 0, .int .i64 0, .int .i64 0, .int .i64 0, .bool false, .string (bs ([] : Str)), .slice none 0 0] ty32 rfl rfl ?_
    intro b651 w652 E' S
    replace E := E.trans E'
    clear E'
    refine W_store S 2 rfl ty32 rfl rfl [.int .u8 1, .int .i64 0, .int .i64 0, .int .i64 0, .bool false, .string (bs ([] : Str)), .slice none 0 0] rfl rfl rfl #[.int .u8 1, .int .i64 0, .int .i64 0, .int .i64 0, .bool false, .string (bs ([] : Str)), .slice none 0 0] rfl rfl ?_
    intro w654 E' S
    replace E := E.trans E'
    clear E'
    refine W_store S 1 rfl ty32 rfl rfl [.int .u8 2, .int .i64 0, .int .i64 0, .int .i64 0, .bool false, .string (bs ([] : Str)), .slice none 0 0] rfl rfl rfl #[.int .u8 2, .int .i64 0, .int .i64 0, .int .i64 0, .bool false, .string (bs ([] : Str)), .slice none 0 0] rfl rfl ?_
    intro w655 E' S
    replace E := E.trans E'
    clear E'
    refine W_store S 0 rfl ty32 rfl rfl [.int .u8 3, .int .i64 0, .int .i64 0, .int .i64 0, .bool false, .string (bs ([] : Str)), .slice none 0 0] rfl rfl rfl #[.int .u8 3, .int .i64 0, .int .i64 0, .int .i64 0, .bool false, .string (bs ([] : Str)), .slice none 0 0] rfl rfl ?_
    intro w656 E' S
    replace E := E.trans E'
    clear E'
    refine Wl_nil ?_
    refine tn ?_
    refine Wp_seq ?_
    refine Wp_region_lit ?_
    refine W_v (.agg #[.int .u8 1, .int .i64 0, .int .i64 0, .int .i64 0, .bool false, .string (bs ([] : Str)), .slice none 0 0]) (x_loadA (S.blk 2 rfl) ty32 rfl (sub_of_extract rfl) rfl rfl) rfl ?_
    refine W_alloc S #[.int .u8 0, .int .i64 0, .int .i64 0, .int .i64 0, .bool false, .string (bs ([] : Str)), .slice none 0 0] ty32 rfl rfl ?_
    intro b657 w658 E' S
    replace E := E.trans E'
    clear E'
    refine W_store S 0 rfl ty32 rfl rfl [.int .u8 1, .int .i64 0, .int .i64 0, .int .i64 0, .bool false, .string (bs ([] : Str)), .slice none 0 0] rfl rfl rfl #[.int .u8 1, .int .i64 0, .int .i64 0, .int .i64 0, .bool false, .string (bs ([] : Str)), .slice none 0 0] rfl rfl ?_
    intro w660 E' S
    replace E := E.trans E'
    clear E'
    refine Wl_nil ?_
    refine tn ?_
    refine Wp_seq ?_
    refine Wp_region_lit ?_
    refine W_v (.pointer (some ⟨b657, 2, none⟩)) (x_fieldAddr (o := 0) (off := 2) Try.underlying32 rfl ty3 rfl rfl) rfl ?_
    refine W_store S 0 rfl ty3 rfl rfl [.int .i64 1] rfl rfl rfl #[.int .u8 1, .int .i64 0, .int .i64 1, .int .i64 0, .bool false, .string (bs ([] : Str)), .slice none 0 0] rfl rfl ?_
    intro w661 E' S
    replace E := E.trans E'
    clear E'
    refine Wl_nil ?_
    refine tn ?_
    refine Wp_seq ?_
    refine Wp_region_lit ?_
    refine W_v (.agg #[.int .u8 2, .int .i64 0, .int .i64 0, .int .i64 0, .bool false, .string (bs ([] : Str)), .slice none 0 0]) (x_loadA (S.blk 2 rfl) ty32 rfl (sub_of_extract rfl) rfl rfl) rfl ?_
    refine W_alloc S #[.int .u8 0, .int .i64 0, .int .i64 0, .int .i64 0, .bool false, .string (bs ([] : Str)), .slice none 0 0] ty32 rfl rfl ?_
    intro b662 w663 E' S
    replace E := E.trans E'
    clear E'
    refine W_store S 0 rfl ty32 rfl rfl [.int .u8 2, .int .i64 0, .int .i64 0, .int .i64 0, .bool false, .string (bs ([] : Str)), .slice none 0 0] rfl rfl rfl #[.int .u8 2, .int .i64 0, .int .i64 0, .int .i64 0, .bool false, .string (bs ([] : Str)), .slice none 0 0] rfl rfl ?_
    intro w665 E' S
    replace E := E.trans E'
    clear E'
    refine Wl_nil ?_
    refine tn ?_
    refine Wp_seq ?_
    refine Wp_region_lit ?_
    refine W_v (.pointer (some ⟨b662, 3, none⟩)) (x_fieldAddr (o := 0) (off := 3) Try.underlying32 rfl ty30 rfl rfl) rfl ?_
    refine W_v (.pointer (some ⟨b662, 4, none⟩)) (x_fieldAddr (o := 3) (off := 1) Try.underlying30 rfl ty4 rfl rfl) rfl ?_
    refine W_store S 0 rfl ty4 rfl rfl [.bool true] rfl rfl rfl #[.int .u8 2, .int .i64 0, .int .i64 0, .int .i64 0, .bool true, .string (bs ([] : Str)), .slice none 0 0] rfl rfl ?_
    intro w666 E' S
    replace E := E.trans E'
    clear E'
    refine Wl_nil ?_
    refine tn ?_
    refine Wp_seq ?_
    refine Wp_region_lit ?_
    refine W_v (.agg #[.int .u8 1, .int .i64 0, .int .i64 0, .int .i64 0, .bool false, .string (bs ([] : Str)), .slice none 0 0]) (x_loadA (S.blk 4 rfl) ty32 rfl (sub_of_extract rfl) rfl rfl) rfl ?_
    refine W_alloc S #[.int .u8 0, .int .i64 0, .int .i64 0, .int .i64 0, .bool false, .string (bs ([] : Str)), .slice none 0 0] ty32 rfl rfl ?_
    intro b667 w668 E' S
    replace E := E.trans E'
    clear E'
    refine W_store S 0 rfl ty32 rfl rfl [.int .u8 1, .int .i64 0, .int .i64 0, .int .i64 0, .bool false, .string (bs ([] : Str)), .slice none 0 0] rfl rfl rfl #[.int .u8 1, .int .i64 0, .int .i64 0, .int .i64 0, .bool false, .string (bs ([] : Str)), .slice none 0 0] rfl rfl ?_
    intro w670 E' S
    replace E := E.trans E'
    clear E'
    refine Wl_nil ?_
    refine tn ?_
    refine Wp_seq ?_
    refine Wp_region_lit ?_
    refine W_v (.pointer (some ⟨b667, 1, none⟩)) (x_fieldAddr (o := 0) (off := 1) Try.underlying32 rfl ty3 rfl rfl) rfl ?_
    refine W_store S 0 rfl ty3 rfl rfl [.int .i64 1] rfl rfl rfl #[.int .u8 1, .int .i64 1, .int .i64 0, .int .i64 0, .bool false, .string (bs ([] : Str)), .slice none 0 0] rfl rfl ?_
    intro w671 E' S
    replace E := E.trans E'
    clear E'
    refine Wl_nil ?_
    refine tn ?_
    refine Wp_seq ?_
    refine Wp_seq ?_
    refine Wp_region_lit ?_
    refine W_v (.agg #[.int .u8 2, .int .i64 0, .int .i64 0, .int .i64 0, .bool false, .string (bs ([] : Str)), .slice none 0 0]) (x_loadA (S.blk 4 rfl) ty32 rfl (sub_of_extract rfl) rfl rfl) rfl ?_
    refine W_bslice S #[.int .u8 2, .int .i64 0, .int .i64 0, .int .i64 0, .bool false, .string (bs ([] : Str)), .slice none 0 0] Try.underlying22 ty32 rfl rfl #[.int .u8 0, .int .i64 0, .int .i64 0, .int .i64 0, .bool false, .string (bs ([] : Str)), .slice none 0 0] (by kernel_rfl) (by kernel_rfl) rfl ?_
    intro b672 w673 E' S
    replace E := E.trans E'
    clear E'
    replace S := S.blk_row (r := r_api_Event) (l := ([(⟨(2 : Int), (0 : Int), (0 : Int), ⟨(0 : Int), false, ([] : Str), ([] : (List api_Pair))⟩⟩ : api_Event)] : List api_Event)) 0 rfl 1 (Nat.le_refl 1) rfl (Cells.cons (vs := [.int .u8 2, .int .i64 0, .int .i64 0, .int .i64 0, .bool false, .string (bs ([] : Str)), .slice none 0 0]) (⟨_, (SlW.nil _ _), rfl⟩) Cells.nil)
    refine W_v (.agg #[.int .u8 3, .int .i64 0, .int .i64 0, .int .i64 0, .bool false, .string (bs ([] : Str)), .slice none 0 0]) (x_loadA (S.blk 4 rfl) ty32 rfl (sub_of_extract rfl) rfl rfl) rfl ?_
    refine W_bslice S #[.int .u8 3, .int .i64 0, .int .i64 0, .int .i64 0, .bool false, .string (bs ([] : Str)), .slice none 0 0] Try.underlying22 ty32 rfl rfl #[.int .u8 0, .int .i64 0, .int .i64 0, .int .i64 0, .bool false, .string (bs ([] : Str)), .slice none 0 0] (by kernel_rfl) (by kernel_rfl) rfl ?_
    intro b675 w676 E' S
    replace E := E.trans E'
    clear E'
    replace S := S.blk_row (r := r_api_Event) (l := ([(⟨(3 : Int), (0 : Int), (0 : Int), ⟨(0 : Int), false, ([] : Str), ([] : (List api_Pair))⟩⟩ : api_Event)] : List api_Event)) 0 rfl 1 (Nat.le_refl 1) rfl (Cells.cons (vs := [.int .u8 3, .int .i64 0, .int .i64 0, .int .i64 0, .bool false, .string (bs ([] : Str)), .slice none 0 0]) (⟨_, (SlW.nil _ _), rfl⟩) Cells.nil)
    refine W_v (.agg #[.int .u8 1, .int .i64 0, .int .i64 0, .int .i64 0, .bool false, .string (bs ([] : Str)), .slice none 0 0]) (x_loadA (S.blk 7 rfl) ty32 rfl (sub_of_extract rfl) rfl rfl) rfl ?_
    refine W_v (.agg #[.int .u8 1, .int .i64 0, .int .i64 0, .int .i64 0, .bool false, .string (bs ([] : Str)), .slice none 0 0]) (x_loadA (S.blk 7 rfl) ty32 rfl (sub_of_extract rfl) rfl rfl) rfl ?_
    refine W_bslice S #[.int .u8 1, .int .i64 0, .int .i64 0, .int .i64 0, .bool false, .string (bs ([] : Str)), .slice none 0 0, .int .u8 1, .int .i64 0, .int .i64 0, .int .i64 0, .bool false, .string (bs ([] : Str)), .slice none 0 0] Try.underlying22 ty32 rfl rfl #[.int .u8 0, .int .i64 0, .int .i64 0, .int .i64 0, .bool false, .string (bs ([] : Str)), .slice none 0 0, .int .u8 0, .int .i64 0, .int .i64 0, .int .i64 0, .bool false, .string (bs ([] : Str)), .slice none 0 0] (by kernel_rfl) (by kernel_rfl) rfl ?_
    intro b678 w679 E' S
    replace E := E.trans E'
    clear E'
    replace S := S.blk_row (r := r_api_Event) (l := ([(⟨(1 : Int), (0 : Int), (0 : Int), ⟨(0 : Int), false, ([] : Str), ([] : (List api_Pair))⟩⟩ : api_Event), (⟨(1 : Int), (0 : Int), (0 : Int), ⟨(0 : Int), false, ([] : Str), ([] : (List api_Pair))⟩⟩ : api_Event)] : List api_Event)) 0 rfl 2 (Nat.le_refl 2) rfl (Cells.cons (vs := [.int .u8 1, .int .i64 0, .int .i64 0, .int .i64 0, .bool false, .string (bs ([] : Str)), .slice none 0 0]) (⟨_, (SlW.nil _ _), rfl⟩) (Cells.cons (vs := [.int .u8 1, .int .i64 0, .int .i64 0, .int .i64 0, .bool false, .string (bs ([] : Str)), .slice none 0 0]) (⟨_, (SlW.nil _ _), rfl⟩) Cells.nil))
    obtain ⟨x681, he682, H⟩ := bindS H
    replace he682 := Option.some.inj he682
    rw [he682] at S
    rw [show Value.slice (some ⟨b678, 0, none⟩) 2 2 = Value.slice (some ⟨b678, 0, none⟩) x681.length 2 from (by rw [← he682]; rfl)]
    clear he682
    refine W_v (.agg #[.int .u8 1, .int .i64 0, .int .i64 0, .int .i64 0, .bool false, .string (bs ([] : Str)), .slice none 0 0]) (x_loadA (S.blk 8 rfl) ty32 rfl (sub_of_extract rfl) rfl rfl) rfl ?_
    refine W_v (.agg #[.int .u8 3, .int .i64 0, .int .i64 0, .int .i64 0, .bool false, .string (bs ([] : Str)), .slice none 0 0]) (x_loadA (S.blk 6 rfl) ty32 rfl (sub_of_extract rfl) rfl rfl) rfl ?_
    refine W_bslice S #[.int .u8 1, .int .i64 0, .int .i64 0, .int .i64 0, .bool false, .string (bs ([] : Str)), .slice none 0 0, .int .u8 3, .int .i64 0, .int .i64 0, .int .i64 0, .bool false, .string (bs ([] : Str)), .slice none 0 0] Try.underlying22 ty32 rfl rfl #[.int .u8 0, .int .i64 0, .int .i64 0, .int .i64 0, .bool false, .string (bs ([] : Str)), .slice none 0 0, .int .u8 0, .int .i64 0, .int .i64 0, .int .i64 0, .bool false, .string (bs ([] : Str)), .slice none 0 0] (by kernel_rfl) (by kernel_rfl) rfl ?_
    intro b683 w684 E' S
    replace E := E.trans E'
    clear E'
    replace S := S.blk_row (r := r_api_Event) (l := ([(⟨(1 : Int), (0 : Int), (0 : Int), ⟨(0 : Int), false, ([] : Str), ([] : (List api_Pair))⟩⟩ : api_Event), (⟨(3 : Int), (0 : Int), (0 : Int), ⟨(0 : Int), false, ([] : Str), ([] : (List api_Pair))⟩⟩ : api_Event)] : List api_Event)) 0 rfl 2 (Nat.le_refl 2) rfl (Cells.cons (vs := [.int .u8 1, .int .i64 0, .int .i64 0, .int .i64 0, .bool false, .string (bs ([] : Str)), .slice none 0 0]) (⟨_, (SlW.nil _ _), rfl⟩) (Cells.cons (vs := [.int .u8 3, .int .i64 0, .int .i64 0, .int .i64 0, .bool false, .string (bs ([] : Str)), .slice none 0 0]) (⟨_, (SlW.nil _ _), rfl⟩) Cells.nil))
    obtain ⟨x686, he687, H⟩ := bindS H
    replace he687 := Option.some.inj he687
    rw [he687] at S
    rw [show Value.slice (some ⟨b683, 0, none⟩) 2 2 = Value.slice (some ⟨b683, 0, none⟩) x686.length 2 from (by rw [← he687]; rfl)]
    clear he687
    refine W_v (.agg #[.int .u8 1, .int .i64 0, .int .i64 0, .int .i64 0, .bool false, .string (bs ([] : Str)), .slice none 0 0]) (x_loadA (S.blk 9 rfl) ty32 rfl (sub_of_extract rfl) rfl rfl) rfl ?_
    refine W_v (.agg #[.int .u8 2, .int .i64 0, .int .i64 0, .int .i64 0, .bool false, .string (bs ([] : Str)), .slice none 0 0]) (x_loadA (S.blk 8 rfl) ty32 rfl (sub_of_extract rfl) rfl rfl) rfl ?_
    refine W_v (.agg #[.int .u8 2, .int .i64 0, .int .i64 0, .int .i64 0, .bool false, .string (bs ([] : Str)), .slice none 0 0]) (x_loadA (S.blk 8 rfl) ty32 rfl (sub_of_extract rfl) rfl rfl) rfl ?_
    refine W_bslice S #[.int .u8 1, .int .i64 0, .int .i64 0, .int .i64 0, .bool false, .string (bs ([] : Str)), .slice none 0 0, .int .u8 2, .int .i64 0, .int .i64 0, .int .i64 0, .bool false, .string (bs ([] : Str)), .slice none 0 0, .int .u8 2, .int .i64 0, .int .i64 0, .int .i64 0, .bool false, .string (bs ([] : Str)), .slice none 0 0] Try.underlying22 ty32 rfl rfl #[.int .u8 0, .int .i64 0, .int .i64 0, .int .i64 0, .bool false, .string (bs ([] : Str)), .slice none 0 0, .int .u8 0, .int .i64 0, .int .i64 0, .int .i64 0, .bool false, .string (bs ([] : Str)), .slice none 0 0, .int .u8 0, .int .i64 0, .int .i64 0, .int .i64 0, .bool false, .string (bs ([] : Str)), .slice none 0 0] (by kernel_rfl) (by kernel_rfl) rfl ?_
    intro b688 w689 E' S
    replace E := E.trans E'
    clear E'
    replace S := S.blk_row (r := r_api_Event) (l := ([(⟨(1 : Int), (0 : Int), (0 : Int), ⟨(0 : Int), false, ([] : Str), ([] : (List api_Pair))⟩⟩ : api_Event), (⟨(2 : Int), (0 : Int), (0 : Int), ⟨(0 : Int), false, ([] : Str), ([] : (List api_Pair))⟩⟩ : api_Event), (⟨(2 : Int), (0 : Int), (0 : Int), ⟨(0 : Int), false, ([] : Str), ([] : (List api_Pair))⟩⟩ : api_Event)] : List api_Event)) 0 rfl 3 (Nat.le_refl 3) rfl (Cells.cons (vs := [.int .u8 1, .int .i64 0, .int .i64 0, .int .i64 0, .bool false, .string (bs ([] : Str)), .slice none 0 0]) (⟨_, (SlW.nil _ _), rfl⟩) (Cells.cons (vs := [.int .u8 2, .int .i64 0, .int .i64 0, .int .i64 0, .bool false, .string (bs ([] : Str)), .slice none 0 0]) (⟨_, (SlW.nil _ _), rfl⟩) (Cells.cons (vs := [.int .u8 2, .int .i64 0, .int .i64 0, .int .i64 0, .bool false, .string (bs ([] : Str)), .slice none 0 0]) (⟨_, (SlW.nil _ _), rfl⟩) Cells.nil)))
    obtain ⟨x691, he692, H⟩ := bindS H
    replace he692 := Option.some.inj he692
    rw [he692] at S
    rw [show Value.slice (some ⟨b688, 0, none⟩) 3 3 = Value.slice (some ⟨b688, 0, none⟩) x691.length 3 from (by rw [← he692]; rfl)]
    clear he692
    refine W_v (.agg #[.int .u8 1, .int .i64 0, .int .i64 1, .int .i64 0, .bool false, .string (bs ([] : Str)), .slice none 0 0]) (x_loadA (S.blk 7 rfl) ty32 rfl (sub_of_extract rfl) rfl rfl) rfl ?_
    refine W_bslice S #[.int .u8 1, .int .i64 0, .int .i64 1, .int .i64 0, .bool false, .string (bs ([] : Str)), .slice none 0 0] Try.underlying22 ty32 rfl rfl #[.int .u8 0, .int .i64 0, .int .i64 0, .int .i64 0, .bool false, .string (bs ([] : Str)), .slice none 0 0] (by kernel_rfl) (by kernel_rfl) rfl ?_
    intro b693 w694 E' S
    replace E := E.trans E'
    clear E'
    replace S := S.blk_row (r := r_api_Event) (l := ([(⟨(1 : Int), (0 : Int), (1 : Int), ⟨(0 : Int), false, ([] : Str), ([] : (List api_Pair))⟩⟩ : api_Event)] : List api_Event)) 0 rfl 1 (Nat.le_refl 1) rfl (Cells.cons (vs := [.int .u8 1, .int .i64 0, .int .i64 1, .int .i64 0, .bool false, .string (bs ([] : Str)), .slice none 0 0]) (⟨_, (SlW.nil _ _), rfl⟩) Cells.nil)
    refine W_v (.agg #[.int .u8 1, .int .i64 0, .int .i64 0, .int .i64 0, .bool false, .string (bs ([] : Str)), .slice none 0 0]) (x_loadA (S.blk 11 rfl) ty32 rfl (sub_of_extract rfl) rfl rfl) rfl ?_
    refine W_v (.agg #[.int .u8 2, .int .i64 0, .int .i64 0, .int .i64 0, .bool false, .string (bs ([] : Str)), .slice none 0 0]) (x_loadA (S.blk 10 rfl) ty32 rfl (sub_of_extract rfl) rfl rfl) rfl ?_
    refine W_v (.agg #[.int .u8 3, .int .i64 0, .int .i64 0, .int .i64 0, .bool false, .string (bs ([] : Str)), .slice none 0 0]) (x_loadA (S.blk 9 rfl) ty32 rfl (sub_of_extract rfl) rfl rfl) rfl ?_
    refine W_v (.agg #[.int .u8 1, .int .i64 0, .int .i64 0, .int .i64 0, .bool false, .string (bs ([] : Str)), .slice none 0 0]) (x_loadA (S.blk 11 rfl) ty32 rfl (sub_of_extract rfl) rfl rfl) rfl ?_
    refine W_bslice S #[.int .u8 1, .int .i64 0, .int .i64 0, .int .i64 0, .bool false, .string (bs ([] : Str)), .slice none 0 0, .int .u8 2, .int .i64 0, .int .i64 0, .int .i64 0, .bool false, .string (bs ([] : Str)), .slice none 0 0, .int .u8 3, .int .i64 0, .int .i64 0, .int .i64 0, .bool false, .string (bs ([] : Str)), .slice none 0 0, .int .u8 1, .int .i64 0, .int .i64 0, .int .i64 0, .bool false, .string (bs ([] : Str)), .slice none 0 0] Try.underlying22 ty32 rfl rfl #[.int .u8 0, .int .i64 0, .int .i64 0, .int .i64 0, .bool false, .string (bs ([] : Str)), .slice none 0 0, .int .u8 0, .int .i64 0, .int .i64 0, .int .i64 0, .bool false, .string (bs ([] : Str)), .slice none 0 0, .int .u8 0, .int .i64 0, .int .i64 0, .int .i64 0, .bool false, .string (bs ([] : Str)), .slice none 0 0, .int .u8 0, .int .i64 0, .int .i64 0, .int .i64 0, .bool false, .string (bs ([] : Str)), .slice none 0 0] (by kernel_rfl) (by kernel_rfl) rfl ?_
    intro b696 w697 E' S
    replace E := E.trans E'
    clear E'
    replace S := S.blk_row (r := r_api_Event) (l := ([(⟨(1 : Int), (0 : Int), (0 : Int), ⟨(0 : Int), false, ([] : Str), ([] : (List api_Pair))⟩⟩ : api_Event), (⟨(2 : Int), (0 : Int), (0 : Int), ⟨(0 : Int), false, ([] : Str), ([] : (List api_Pair))⟩⟩ : api_Event), (⟨(3 : Int), (0 : Int), (0 : Int), ⟨(0 : Int), false, ([] : Str), ([] : (List api_Pair))⟩⟩ : api_Event), (⟨(1 : Int), (0 : Int), (0 : Int), ⟨(0 : Int), false, ([] : Str), ([] : (List api_Pair))⟩⟩ : api_Event)] : List api_Event)) 0 rfl 4 (Nat.le_refl 4) rfl (Cells.cons (vs := [.int .u8 1, .int .i64 0, .int .i64 0, .int .i64 0, .bool false, .string (bs ([] : Str)), .slice none 0 0]) (⟨_, (SlW.nil _ _), rfl⟩) (Cells.cons (vs := [.int .u8 2, .int .i64 0, .int .i64 0, .int .i64 0, .bool false, .string (bs ([] : Str)), .slice none 0 0]) (⟨_, (SlW.nil _ _), rfl⟩) (Cells.cons (vs := [.int .u8 3, .int .i64 0, .int .i64 0, .int .i64 0, .bool false, .string (bs ([] : Str)), .slice none 0 0]) (⟨_, (SlW.nil _ _), rfl⟩) (Cells.cons (vs := [.int .u8 1, .int .i64 0, .int .i64 0, .int .i64 0, .bool false, .string (bs ([] : Str)), .slice none 0 0]) (⟨_, (SlW.nil _ _), rfl⟩) Cells.nil))))
    obtain ⟨x699, he700, H⟩ := bindS H
    replace he700 := Option.some.inj he700
    rw [he700] at S
    rw [show Value.slice (some ⟨b696, 0, none⟩) 4 4 = Value.slice (some ⟨b696, 0, none⟩) x699.length 4 from (by rw [← he700]; rfl)]
    clear he700
    refine W_v (.agg #[.int .u8 1, .int .i64 0, .int .i64 0, .int .i64 0, .bool false, .string (bs ([] : Str)), .slice none 0 0]) (x_loadA (S.blk 12 rfl) ty32 rfl (sub_of_extract rfl) rfl rfl) rfl ?_
    refine W_v (.agg #[.int .u8 2, .int .i64 0, .int .i64 0, .int .i64 0, .bool false, .string (bs ([] : Str)), .slice none 0 0]) (x_loadA (S.blk 11 rfl) ty32 rfl (sub_of_extract rfl) rfl rfl) rfl ?_
    refine W_v (.agg #[.int .u8 3, .int .i64 0, .int .i64 0, .int .i64 0, .bool false, .string (bs ([] : Str)), .slice none 0 0]) (x_loadA (S.blk 10 rfl) ty32 rfl (sub_of_extract rfl) rfl rfl) rfl ?_
    refine W_v (.agg #[.int .u8 1, .int .i64 0, .int .i64 1, .int .i64 0, .bool false, .string (bs ([] : Str)), .slice none 0 0]) (x_loadA (S.blk 9 rfl) ty32 rfl (sub_of_extract rfl) rfl rfl) rfl ?_
    refine W_v (.agg #[.int .u8 1, .int .i64 0, .int .i64 1, .int .i64 0, .bool false, .string (bs ([] : Str)), .slice none 0 0]) (x_loadA (S.blk 9 rfl) ty32 rfl (sub_of_extract rfl) rfl rfl) rfl ?_
    refine W_bslice S #[.int .u8 1, .int .i64 0, .int .i64 0, .int .i64 0, .bool false, .string (bs ([] : Str)), .slice none 0 0, .int .u8 2, .int .i64 0, .int .i64 0, .int .i64 0, .bool false, .string (bs ([] : Str)), .slice none 0 0, .int .u8 3, .int .i64 0, .int .i64 0, .int .i64 0, .bool false, .string (bs ([] : Str)), .slice none 0 0, .int .u8 1, .int .i64 0, .int .i64 1, .int .i64 0, .bool false, .string (bs ([] : Str)), .slice none 0 0, .int .u8 1, .int .i64 0, .int .i64 1, .int .i64 0, .bool false, .string (bs ([] : Str)), .slice none 0 0] Try.underlying22 ty32 rfl rfl #[.int .u8 0, .int .i64 0, .int .i64 0, .int .i64 0, .bool false, .string (bs ([] : Str)), .slice none 0 0, .int .u8 0, .int .i64 0, .int .i64 0, .int .i64 0, .bool false, .string (bs ([] : Str)), .slice none 0 0, .int .u8 0, .int .i64 0, .int .i64 0, .int .i64 0, .bool false, .string (bs ([] : Str)), .slice none 0 0, .int .u8 0, .int .i64 0, .int .i64 0, .int .i64 0, .bool false, .string (bs ([] : Str)), .slice none 0 0, .int .u8 0, .int .i64 0, .int .i64 0, .int .i64 0, .bool false, .string (bs ([] : Str)), .slice none 0 0] (by kernel_rfl) (by kernel_rfl) rfl ?_
    intro b701 w702 E' S
    replace E := E.trans E'
    clear E'
    replace S := S.blk_row (r := r_api_Event) (l := ([(⟨(1 : Int), (0 : Int), (0 : Int), ⟨(0 : Int), false, ([] : Str), ([] : (List api_Pair))⟩⟩ : api_Event), (⟨(2 : Int), (0 : Int), (0 : Int), ⟨(0 : Int), false, ([] : Str), ([] : (List api_Pair))⟩⟩ : api_Event), (⟨(3 : Int), (0 : Int), (0 : Int), ⟨(0 : Int), false, ([] : Str), ([] : (List api_Pair))⟩⟩ : api_Event), (⟨(1 : Int), (0 : Int), (1 : Int), ⟨(0 : Int), false, ([] : Str), ([] : (List api_Pair))⟩⟩ : api_Event), (⟨(1 : Int), (0 : Int), (1 : Int), ⟨(0 : Int), false, ([] : Str), ([] : (List api_Pair))⟩⟩ : api_Event)] : List api_Event)) 0 rfl 5 (Nat.le_refl 5) rfl (Cells.cons (vs := [.int .u8 1, .int .i64 0, .int .i64 0, .int .i64 0, .bool false, .string (bs ([] : Str)), .slice none 0 0]) (⟨_, (SlW.nil _ _), rfl⟩) (Cells.cons (vs := [.int .u8 2, .int .i64 0, .int .i64 0, .int .i64 0, .bool false, .string (bs ([] : Str)), .slice none 0 0]) (⟨_, (SlW.nil _ _), rfl⟩) (Cells.cons (vs := [.int .u8 3, .int .i64 0, .int .i64 0, .int .i64 0, .bool false, .string (bs ([] : Str)), .slice none 0 0]) (⟨_, (SlW.nil _ _), rfl⟩) (Cells.cons (vs := [.int .u8 1, .int .i64 0, .int .i64 1, .int .i64 0, .bool false, .string (bs ([] : Str)), .slice none 0 0]) (⟨_, (SlW.nil _ _), rfl⟩) (Cells.cons (vs := [.int .u8 1, .int .i64 0, .int .i64 1, .int .i64 0, .bool false, .string (bs ([] : Str)), .slice none 0 0]) (⟨_, (SlW.nil _ _), rfl⟩) Cells.nil)))))
    obtain ⟨x704, he705, H⟩ := bindS H
    replace he705 := Option.some.inj he705
    rw [he705] at S
    rw [show Value.slice (some ⟨b701, 0, none⟩) 5 5 = Value.slice (some ⟨b701, 0, none⟩) x704.length 5 from (by rw [← he705]; rfl)]
    clear he705
    refine W_v (.agg #[.int .u8 1, .int .i64 0, .int .i64 0, .int .i64 0, .bool false, .string (bs ([] : Str)), .slice none 0 0]) (x_loadA (S.blk 13 rfl) ty32 rfl (sub_of_extract rfl) rfl rfl) rfl ?_
    refine W_v (.agg #[.int .u8 2, .int .i64 0, .int .i64 0, .int .i64 0, .bool true, .string (bs ([] : Str)), .slice none 0 0]) (x_loadA (S.blk 9 rfl) ty32 rfl (sub_of_extract rfl) rfl rfl) rfl ?_
    refine W_bslice S #[.int .u8 1, .int .i64 0, .int .i64 0, .int .i64 0, .bool false, .string (bs ([] : Str)), .slice none 0 0, .int .u8 2, .int .i64 0, .int .i64 0, .int .i64 0, .bool true, .string (bs ([] : Str)), .slice none 0 0] Try.underlying22 ty32 rfl rfl #[.int .u8 0, .int .i64 0, .int .i64 0, .int .i64 0, .bool false, .string (bs ([] : Str)), .slice none 0 0, .int .u8 0, .int .i64 0, .int .i64 0, .int .i64 0, .bool false, .string (bs ([] : Str)), .slice none 0 0] (by kernel_rfl) (by kernel_rfl) rfl ?_
    intro b706 w707 E' S
    replace E := E.trans E'
    clear E'
    replace S := S.blk_row (r := r_api_Event) (l := ([(⟨(1 : Int), (0 : Int), (0 : Int), ⟨(0 : Int), false, ([] : Str), ([] : (List api_Pair))⟩⟩ : api_Event), (⟨(2 : Int), (0 : Int), (0 : Int), ⟨(0 : Int), true, ([] : Str), ([] : (List api_Pair))⟩⟩ : api_Event)] : List api_Event)) 0 rfl 2 (Nat.le_refl 2) rfl (Cells.cons (vs := [.int .u8 1, .int .i64 0, .int .i64 0, .int .i64 0, .bool false, .string (bs ([] : Str)), .slice none 0 0]) (⟨_, (SlW.nil _ _), rfl⟩) (Cells.cons (vs := [.int .u8 2, .int .i64 0, .int .i64 0, .int .i64 0, .bool true, .string (bs ([] : Str)), .slice none 0 0]) (⟨_, (SlW.nil _ _), rfl⟩) Cells.nil))
    obtain ⟨x709, he710, H⟩ := bindS H
    replace he710 := Option.some.inj he710
    rw [he710] at S
    rw [show Value.slice (some ⟨b706, 0, none⟩) 2 2 = Value.slice (some ⟨b706, 0, none⟩) x709.length 2 from (by rw [← he710]; rfl)]
    clear he710
    refine W_v (.agg #[.int .u8 1, .int .i64 1, .int .i64 0, .int .i64 0, .bool false, .string (bs ([] : Str)), .slice none 0 0]) (x_loadA (S.blk 9 rfl) ty32 rfl (sub_of_extract rfl) rfl rfl) rfl ?_
    refine W_bslice S #[.int .u8 1, .int .i64 1, .int .i64 0, .int .i64 0, .bool false, .string (bs ([] : Str)), .slice none 0 0] Try.underlying22 ty32 rfl rfl #[.int .u8 0, .int .i64 0, .int .i64 0, .int .i64 0, .bool false, .string (bs ([] : Str)), .slice none 0 0] (by kernel_rfl) (by kernel_rfl) rfl ?_
    intro b711 w712 E' S
    replace E := E.trans E'
    clear E'
    replace S := S.blk_row (r := r_api_Event) (l := ([(⟨(1 : Int), (1 : Int), (0 : Int), ⟨(0 : Int), false, ([] : Str), ([] : (List api_Pair))⟩⟩ : api_Event)] : List api_Event)) 0 rfl 1 (Nat.le_refl 1) rfl (Cells.cons (vs := [.int .u8 1, .int .i64 1, .int .i64 0, .int .i64 0, .bool false, .string (bs ([] : Str)), .slice none 0 0]) (⟨_, (SlW.nil _ _), rfl⟩) Cells.nil)
    refine W_v (.agg #[.int .u8 0, .int .i64 0, .int .i64 0, .int .i64 0, .bool false, .string (bs ([] : Str)), .slice none 0 0]) (x_build2 (pl := [(0, 1), (1, 1), (2, 1), (3, 4)]) #[.int .u8 0, .int .i64 0, .int .i64 0, .int .i64 0, .bool false, .string (bs ([] : Str)), .slice none 0 0] Try.underlying32 ty32 (by kernel_rfl) rfl (by kernel_rfl)) rfl ?_
    refine W_bslice S #[.int .u8 0, .int .i64 0, .int .i64 0, .int .i64 0, .bool false, .string (bs ([] : Str)), .slice none 0 0] Try.underlying22 ty32 rfl rfl #[.int .u8 0, .int .i64 0, .int .i64 0, .int .i64 0, .bool false, .string (bs ([] : Str)), .slice none 0 0] (by kernel_rfl) (by kernel_rfl) rfl ?_
    intro b714 w715 E' S
    replace E := E.trans E'
    clear E'
    replace S := S.blk_row (r := r_api_Event) (l := ([(⟨(0 : Int), (0 : Int), (0 : Int), ⟨(0 : Int), false, ([] : Str), ([] : (List api_Pair))⟩⟩ : api_Event)] : List api_Event)) 0 rfl 1 (Nat.le_refl 1) rfl (Cells.cons (vs := [.int .u8 0, .int .i64 0, .int .i64 0, .int .i64 0, .bool false, .string (bs ([] : Str)), .slice none 0 0]) (⟨_, (SlW.nil _ _), rfl⟩) Cells.nil)
    refine W_v (.agg #[.int .u8 4, .int .i64 0, .int .i64 0, .int .i64 0, .bool false, .string (bs ([] : Str)), .slice none 0 0]) (x_build2 (pl := [(0, 1), (1, 1), (2, 1), (3, 4)]) #[.int .u8 4, .int .i64 0, .int .i64 0, .int .i64 0, .bool false, .string (bs ([] : Str)), .slice none 0 0] Try.underlying32 ty32 (by kernel_rfl) rfl (by kernel_rfl)) rfl ?_
    refine W_bslice S #[.int .u8 4, .int .i64 0, .int .i64 0, .int .i64 0, .bool false, .string (bs ([] : Str)), .slice none 0 0] Try.underlying22 ty32 rfl rfl #[.int .u8 0, .int .i64 0, .int .i64 0, .int .i64 0, .bool false, .string (bs ([] : Str)), .slice none 0 0] (by kernel_rfl) (by kernel_rfl) rfl ?_
    intro b717 w718 E' S
    replace E := E.trans E'
    clear E'
    replace S := S.blk_row (r := r_api_Event) (l := ([(⟨(4 : Int), (0 : Int), (0 : Int), ⟨(0 : Int), false, ([] : Str), ([] : (List api_Pair))⟩⟩ : api_Event)] : List api_Event)) 0 rfl 1 (Nat.le_refl 1) rfl (Cells.cons (vs := [.int .u8 4, .int .i64 0, .int .i64 0, .int .i64 0, .bool false, .string (bs ([] : Str)), .slice none 0 0]) (⟨_, (SlW.nil _ _), rfl⟩) Cells.nil)
    refine W_v (.agg #[.int .u8 1, .int .i64 0, .int .i64 0, .int .i64 0, .bool false, .string (bs ([] : Str)), .slice none 0 0]) (x_loadA (S.blk 17 rfl) ty32 rfl (sub_of_extract rfl) rfl rfl) rfl ?_
    refine W_v (.agg #[.int .u8 2, .int .i64 0, .int .i64 0, .int .i64 0, .bool false, .string (bs ([] : Str)), .slice none 0 0]) (x_loadA (S.blk 16 rfl) ty32 rfl (sub_of_extract rfl) rfl rfl) rfl ?_
    refine W_v (.agg #[.int .u8 3, .int .i64 0, .int .i64 0, .int .i64 0, .bool false, .string (bs ([] : Str)), .slice none 0 0]) (x_loadA (S.blk 15 rfl) ty32 rfl (sub_of_extract rfl) rfl rfl) rfl ?_
    refine W_v (.agg #[.int .u8 3, .int .i64 0, .int .i64 0, .int .i64 0, .bool false, .string (bs ([] : Str)), .slice none 0 0]) (x_loadA (S.blk 15 rfl) ty32 rfl (sub_of_extract rfl) rfl rfl) rfl ?_
    refine W_bslice S #[.int .u8 1, .int .i64 0, .int .i64 0, .int .i64 0, .bool false, .string (bs ([] : Str)), .slice none 0 0, .int .u8 2, .int .i64 0, .int .i64 0, .int .i64 0, .bool false, .string (bs ([] : Str)), .slice none 0 0, .int .u8 3, .int .i64 0, .int .i64 0, .int .i64 0, .bool false, .string (bs ([] : Str)), .slice none 0 0, .int .u8 3, .int .i64 0, .int .i64 0, .int .i64 0, .bool false, .string (bs ([] : Str)), .slice none 0 0] Try.underlying22 ty32 rfl rfl #[.int .u8 0, .int .i64 0, .int .i64 0, .int .i64 0, .bool false, .string (bs ([] : Str)), .slice none 0 0, .int .u8 0, .int .i64 0, .int .i64 0, .int .i64 0, .bool false, .string (bs ([] : Str)), .slice none 0 0, .int .u8 0, .int .i64 0, .int .i64 0, .int .i64 0, .bool false, .string (bs ([] : Str)), .slice none 0 0, .int .u8 0, .int .i64 0, .int .i64 0, .int .i64 0, .bool false, .string (bs ([] : Str)), .slice none 0 0] (by kernel_rfl) (by kernel_rfl) rfl ?_
    intro b720 w721 E' S
    replace E := E.trans E'
    clear E'
    replace S := S.blk_row (r := r_api_Event) (l := ([(⟨(1 : Int), (0 : Int), (0 : Int), ⟨(0 : Int), false, ([] : Str), ([] : (List api_Pair))⟩⟩ : api_Event), (⟨(2 : Int), (0 : Int), (0 : Int), ⟨(0 : Int), false, ([] : Str), ([] : (List api_Pair))⟩⟩ : api_Event), (⟨(3 : Int), (0 : Int), (0 : Int), ⟨(0 : Int), false, ([] : Str), ([] : (List api_Pair))⟩⟩ : api_Event), (⟨(3 : Int), (0 : Int), (0 : Int), ⟨(0 : Int), false, ([] : Str), ([] : (List api_Pair))⟩⟩ : api_Event)] : List api_Event)) 0 rfl 4 (Nat.le_refl 4) rfl (Cells.cons (vs := [.int .u8 1, .int .i64 0, .int .i64 0, .int .i64 0, .bool false, .string (bs ([] : Str)), .slice none 0 0]) (⟨_, (SlW.nil _ _), rfl⟩) (Cells.cons (vs := [.int .u8 2, .int .i64 0, .int .i64 0, .int .i64 0, .bool false, .string (bs ([] : Str)), .slice none 0 0]) (⟨_, (SlW.nil _ _), rfl⟩) (Cells.cons (vs := [.int .u8 3, .int .i64 0, .int .i64 0, .int .i64 0, .bool false, .string (bs ([] : Str)), .slice none 0 0]) (⟨_, (SlW.nil _ _), rfl⟩) (Cells.cons (vs := [.int .u8 3, .int .i64 0, .int .i64 0, .int .i64 0, .bool false, .string (bs ([] : Str)), .slice none 0 0]) (⟨_, (SlW.nil _ _), rfl⟩) Cells.nil))))
    obtain ⟨x723, he724, H⟩ := bindS H
    replace he724 := Option.some.inj he724
    rw [he724] at S
    rw [show Value.slice (some ⟨b720, 0, none⟩) 4 4 = Value.slice (some ⟨b720, 0, none⟩) x723.length 4 from (by rw [← he724]; rfl)]
    clear he724
    obtain ⟨M725, hM726, hf727, S⟩ := S.row_freeze 12 rfl
    replace HM := Hp.le_trans HM hM726
    replace hM96 := Hp.le_trans hM96 hM726
    replace hM335 := Hp.le_trans hM335 hM726
    replace hM383 := Hp.le_trans hM383 hM726
    replace hM431 := Hp.le_trans hM431 hM726
    replace hM479 := Hp.le_trans hM479 hM726
    replace hM527 := Hp.le_trans hM527 hM726
    replace hM575 := Hp.le_trans hM575 hM726
    replace hM623 := Hp.le_trans hM623 hM726
    obtain ⟨M728, hM729, hf730, S⟩ := S.row_freeze 11 rfl
    replace HM := Hp.le_trans HM hM729
    replace hM96 := Hp.le_trans hM96 hM729
    replace hM335 := Hp.le_trans hM335 hM729
    replace hM383 := Hp.le_trans hM383 hM729
    replace hM431 := Hp.le_trans hM431 hM729
    replace hM479 := Hp.le_trans hM479 hM729
    replace hM527 := Hp.le_trans hM527 hM729
    replace hM575 := Hp.le_trans hM575 hM729
    replace hM623 := Hp.le_trans hM623 hM729
    replace hf727 := SlR.mono hf727 hM729
    obtain ⟨M731, hM732, hf733, S⟩ := S.row_freeze 10 rfl
    replace HM := Hp.le_trans HM hM732
    replace hM96 := Hp.le_trans hM96 hM732
    replace hM335 := Hp.le_trans hM335 hM732
    replace hM383 := Hp.le_trans hM383 hM732
    replace hM431 := Hp.le_trans hM431 hM732
    replace hM479 := Hp.le_trans hM479 hM732
    replace hM527 := Hp.le_trans hM527 hM732
    replace hM575 := Hp.le_trans hM575 hM732
    replace hM623 := Hp.le_trans hM623 hM732
    replace hf727 := SlR.mono hf727 hM732
    replace hf730 := SlR.mono hf730 hM732
    obtain ⟨M734, hM735, hf736, S⟩ := S.row_freeze 9 rfl
    replace HM := Hp.le_trans HM hM735
    replace hM96 := Hp.le_trans hM96 hM735
    replace hM335 := Hp.le_trans hM335 hM735
    replace hM383 := Hp.le_trans hM383 hM735
    replace hM431 := Hp.le_trans hM431 hM735
    replace hM479 := Hp.le_trans hM479 hM735
    replace hM527 := Hp.le_trans hM527 hM735
    replace hM575 := Hp.le_trans hM575 hM735
    replace hM623 := Hp.le_trans hM623 hM735
    replace hf727 := SlR.mono hf727 hM735
    replace hf730 := SlR.mono hf730 hM735
    replace hf733 := SlR.mono hf733 hM735
    obtain ⟨M737, hM738, hf739, S⟩ := S.row_freeze 8 rfl
    replace HM := Hp.le_trans HM hM738
    replace hM96 := Hp.le_trans hM96 hM738
    replace hM335 := Hp.le_trans hM335 hM738
    replace hM383 := Hp.le_trans hM383 hM738
    replace hM431 := Hp.le_trans hM431 hM738
    replace hM479 := Hp.le_trans hM479 hM738
    replace hM527 := Hp.le_trans hM527 hM738
    replace hM575 := Hp.le_trans hM575 hM738
    replace hM623 := Hp.le_trans hM623 hM738
    replace hf727 := SlR.mono hf727 hM738
    replace hf730 := SlR.mono hf730 hM738
    replace hf733 := SlR.mono hf733 hM738
    replace hf736 := SlR.mono hf736 hM738
    obtain ⟨M740, hM741, hf742, S⟩ := S.row_freeze 7 rfl
    replace HM := Hp.le_trans HM hM741
    replace hM96 := Hp.le_trans hM96 hM741
    replace hM335 := Hp.le_trans hM335 hM741
    replace hM383 := Hp.le_trans hM383 hM741
    replace hM431 := Hp.le_trans hM431 hM741
    replace hM479 := Hp.le_trans hM479 hM741
    replace hM527 := Hp.le_trans hM527 hM741
    replace hM575 := Hp.le_trans hM575 hM741
    replace hM623 := Hp.le_trans hM623 hM741
    replace hf727 := SlR.mono hf727 hM741
    replace hf730 := SlR.mono hf730 hM741
    replace hf733 := SlR.mono hf733 hM741
    replace hf736 := SlR.mono hf736 hM741
    replace hf739 := SlR.mono hf739 hM741
    obtain ⟨M743, hM744, hf745, S⟩ := S.row_freeze 6 rfl
    replace HM := Hp.le_trans HM hM744
    replace hM96 := Hp.le_trans hM96 hM744
    replace hM335 := Hp.le_trans hM335 hM744
    replace hM383 := Hp.le_trans hM383 hM744
    replace hM431 := Hp.le_trans hM431 hM744
    replace hM479 := Hp.le_trans hM479 hM744
    replace hM527 := Hp.le_trans hM527 hM744
    replace hM575 := Hp.le_trans hM575 hM744
    replace hM623 := Hp.le_trans hM623 hM744
    replace hf727 := SlR.mono hf727 hM744
    replace hf730 := SlR.mono hf730 hM744
    replace hf733 := SlR.mono hf733 hM744
    replace hf736 := SlR.mono hf736 hM744
    replace hf739 := SlR.mono hf739 hM744
    replace hf742 := SlR.mono hf742 hM744
    obtain ⟨M746, hM747, hf748, S⟩ := S.row_freeze 5 rfl
    replace HM := Hp.le_trans HM hM747
    replace hM96 := Hp.le_trans hM96 hM747
    replace hM335 := Hp.le_trans hM335 hM747
    replace hM383 := Hp.le_trans hM383 hM747
    replace hM431 := Hp.le_trans hM431 hM747
    replace hM479 := Hp.le_trans hM479 hM747
    replace hM527 := Hp.le_trans hM527 hM747
    replace hM575 := Hp.le_trans hM575 hM747
    replace hM623 := Hp.le_trans hM623 hM747
    replace hf727 := SlR.mono hf727 hM747
    replace hf730 := SlR.mono hf730 hM747
    replace hf733 := SlR.mono hf733 hM747
    replace hf736 := SlR.mono hf736 hM747
    replace hf739 := SlR.mono hf739 hM747
    replace hf742 := SlR.mono hf742 hM747
    replace hf745 := SlR.mono hf745 hM747
    obtain ⟨M749, hM750, hf751, S⟩ := S.row_freeze 4 rfl
    replace HM := Hp.le_trans HM hM750
    replace hM96 := Hp.le_trans hM96 hM750
    replace hM335 := Hp.le_trans hM335 hM750
    replace hM383 := Hp.le_trans hM383 hM750
    replace hM431 := Hp.le_trans hM431 hM750
    replace hM479 := Hp.le_trans hM479 hM750
    replace hM527 := Hp.le_trans hM527 hM750
    replace hM575 := Hp.le_trans hM575 hM750
    replace hM623 := Hp.le_trans hM623 hM750
    replace hf727 := SlR.mono hf727 hM750
    replace hf730 := SlR.mono hf730 hM750
    replace hf733 := SlR.mono hf733 hM750
    replace hf736 := SlR.mono hf736 hM750
    replace hf739 := SlR.mono hf739 hM750
    replace hf742 := SlR.mono hf742 hM750
    replace hf745 := SlR.mono hf745 hM750
    replace hf748 := SlR.mono hf748 hM750
    obtain ⟨M752, hM753, hf754, S⟩ := S.row_freeze 3 rfl
    replace HM := Hp.le_trans HM hM753
    replace hM96 := Hp.le_trans hM96 hM753
    replace hM335 := Hp.le_trans hM335 hM753
    replace hM383 := Hp.le_trans hM383 hM753
    replace hM431 := Hp.le_trans hM431 hM753
    replace hM479 := Hp.le_trans hM479 hM753
    replace hM527 := Hp.le_trans hM527 hM753
    replace hM575 := Hp.le_trans hM575 hM753
    replace hM623 := Hp.le_trans hM623 hM753
    replace hf727 := SlR.mono hf727 hM753
    replace hf730 := SlR.mono hf730 hM753
    replace hf733 := SlR.mono hf733 hM753
    replace hf736 := SlR.mono hf736 hM753
    replace hf739 := SlR.mono hf739 hM753
    replace hf742 := SlR.mono hf742 hM753
    replace hf745 := SlR.mono hf745 hM753
    replace hf748 := SlR.mono hf748 hM753
    replace hf751 := SlR.mono hf751 hM753
    obtain ⟨M755, hM756, hf757, S⟩ := S.row_freeze 2 rfl
    replace HM := Hp.le_trans HM hM756
    replace hM96 := Hp.le_trans hM96 hM756
    replace hM335 := Hp.le_trans hM335 hM756
    replace hM383 := Hp.le_trans hM383 hM756
    replace hM431 := Hp.le_trans hM431 hM756
    replace hM479 := Hp.le_trans hM479 hM756
    replace hM527 := Hp.le_trans hM527 hM756
    replace hM575 := Hp.le_trans hM575 hM756
    replace hM623 := Hp.le_trans hM623 hM756
    replace hf727 := SlR.mono hf727 hM756
    replace hf730 := SlR.mono hf730 hM756
    replace hf733 := SlR.mono hf733 hM756
    replace hf736 := SlR.mono hf736 hM756
    replace hf739 := SlR.mono hf739 hM756
    replace hf742 := SlR.mono hf742 hM756
    replace hf745 := SlR.mono hf745 hM756
    replace hf748 := SlR.mono hf748 hM756
    replace hf751 := SlR.mono hf751 hM756
    replace hf754 := SlR.mono hf754 hM756
    obtain ⟨M758, hM759, hf760, S⟩ := S.row_freeze 1 rfl
    replace HM := Hp.le_trans HM hM759
    replace hM96 := Hp.le_trans hM96 hM759
    replace hM335 := Hp.le_trans hM335 hM759
    replace hM383 := Hp.le_trans hM383 hM759
    replace hM431 := Hp.le_trans hM431 hM759
    replace hM479 := Hp.le_trans hM479 hM759
    replace hM527 := Hp.le_trans hM527 hM759
    replace hM575 := Hp.le_trans hM575 hM759
    replace hM623 := Hp.le_trans hM623 hM759
    replace hf727 := SlR.mono hf727 hM759
    replace hf730 := SlR.mono hf730 hM759
    replace hf733 := SlR.mono hf733 hM759
    replace hf736 := SlR.mono hf736 hM759
    replace hf739 := SlR.mono hf739 hM759
    replace hf742 := SlR.mono hf742 hM759
    replace hf745 := SlR.mono hf745 hM759
    replace hf748 := SlR.mono hf748 hM759
    replace hf751 := SlR.mono hf751 hM759
    replace hf754 := SlR.mono hf754 hM759
    replace hf757 := SlR.mono hf757 hM759
    obtain ⟨M761, hM762, hf763, S⟩ := S.row_freeze 0 rfl
    replace HM := Hp.le_trans HM hM762
    replace hM96 := Hp.le_trans hM96 hM762
    replace hM335 := Hp.le_trans hM335 hM762
    replace hM383 := Hp.le_trans hM383 hM762
    replace hM431 := Hp.le_trans hM431 hM762
    replace hM479 := Hp.le_trans hM479 hM762
    replace hM527 := Hp.le_trans hM527 hM762
    replace hM575 := Hp.le_trans hM575 hM762
    replace hM623 := Hp.le_trans hM623 hM762
    replace hf727 := SlR.mono hf727 hM762
    replace hf730 := SlR.mono hf730 hM762
    replace hf733 := SlR.mono hf733 hM762
    replace hf736 := SlR.mono hf736 hM762
    replace hf739 := SlR.mono hf739 hM762
    replace hf742 := SlR.mono hf742 hM762
    replace hf745 := SlR.mono hf745 hM762
    replace hf748 := SlR.mono hf748 hM762
    replace hf751 := SlR.mono hf751 hM762
    replace hf754 := SlR.mono hf754 hM762
    replace hf757 := SlR.mono hf757 hM762
    replace hf760 := SlR.mono hf760 hM762
    refine W_bslice S #[.slice (some ⟨b672, 0, none⟩) ([(⟨(2 : Int), (0 : Int), (0 : Int), ⟨(0 : Int), false, ([] : Str), ([] : (List api_Pair))⟩⟩ : api_Event)] : List api_Event).length 1, .slice (some ⟨b675, 0, none⟩) ([(⟨(3 : Int), (0 : Int), (0 : Int), ⟨(0 : Int), false, ([] : Str), ([] : (List api_Pair))⟩⟩ : api_Event)] : List api_Event).length 1, .slice (some ⟨b678, 0, none⟩) x681.length 2, .slice (some ⟨b683, 0, none⟩) x686.length 2, .slice (some ⟨b688, 0, none⟩) x691.length 3, .slice (some ⟨b693, 0, none⟩) ([(⟨(1 : Int), (0 : Int), (1 : Int), ⟨(0 : Int), false, ([] : Str), ([] : (List api_Pair))⟩⟩ : api_Event)] : List api_Event).length 1, .slice (some ⟨b696, 0, none⟩) x699.length 4, .slice (some ⟨b701, 0, none⟩) x704.length 5, .slice (some ⟨b706, 0, none⟩) x709.length 2, .slice (some ⟨b711, 0, none⟩) ([(⟨(1 : Int), (1 : Int), (0 : Int), ⟨(0 : Int), false, ([] : Str), ([] : (List api_Pair))⟩⟩ : api_Event)] : List api_Event).length 1, .slice (some ⟨b714, 0, none⟩) ([(⟨(0 : Int), (0 : Int), (0 : Int), ⟨(0 : Int), false, ([] : Str), ([] : (List api_Pair))⟩⟩ : api_Event)] : List api_Event).length 1, .slice (some ⟨b717, 0, none⟩) ([(⟨(4 : Int), (0 : Int), (0 : Int), ⟨(0 : Int), false, ([] : Str), ([] : (List api_Pair))⟩⟩ : api_Event)] : List api_Event).length 1, .slice (some ⟨b720, 0, none⟩) x723.length 4] Try.underlying58 ty22 rfl rfl #[.slice none 0 0, .slice none 0 0, .slice none 0 0, .slice none 0 0, .slice none 0 0, .slice none 0 0, .slice none 0 0, .slice none 0 0, .slice none 0 0, .slice none 0 0, .slice none 0 0, .slice none 0 0, .slice none 0 0] (by kernel_rfl) (by kernel_rfl) rfl ?_
    intro b764 w765 E' S
    replace E := E.trans E'
    clear E'
    replace S := S.blk_row (r := (rSl r_api_Event)) (l := ([([(⟨(2 : Int), (0 : Int), (0 : Int), ⟨(0 : Int), false, ([] : Str), ([] : (List api_Pair))⟩⟩ : api_Event)] : List api_Event), ([(⟨(3 : Int), (0 : Int), (0 : Int), ⟨(0 : Int), false, ([] : Str), ([] : (List api_Pair))⟩⟩ : api_Event)] : List api_Event), x681, x686, x691, ([(⟨(1 : Int), (0 : Int), (1 : Int), ⟨(0 : Int), false, ([] : Str), ([] : (List api_Pair))⟩⟩ : api_Event)] : List api_Event), x699, x704, x709, ([(⟨(1 : Int), (1 : Int), (0 : Int), ⟨(0 : Int), false, ([] : Str), ([] : (List api_Pair))⟩⟩ : api_Event)] : List api_Event), ([(⟨(0 : Int), (0 : Int), (0 : Int), ⟨(0 : Int), false, ([] : Str), ([] : (List api_Pair))⟩⟩ : api_Event)] : List api_Event), ([(⟨(4 : Int), (0 : Int), (0 : Int), ⟨(0 : Int), false, ([] : Str), ([] : (List api_Pair))⟩⟩ : api_Event)] : List api_Event), x723] : List (List api_Event))) 0 rfl 13 (Nat.le_refl 13) rfl (Cells.cons (vs := [.slice (some ⟨b672, 0, none⟩) ([(⟨(2 : Int), (0 : Int), (0 : Int), ⟨(0 : Int), false, ([] : Str), ([] : (List api_Pair))⟩⟩ : api_Event)] : List api_Event).length 1]) (⟨_, hf727, rfl⟩) (Cells.cons (vs := [.slice (some ⟨b675, 0, none⟩) ([(⟨(3 : Int), (0 : Int), (0 : Int), ⟨(0 : Int), false, ([] : Str), ([] : (List api_Pair))⟩⟩ : api_Event)] : List api_Event).length 1]) (⟨_, hf730, rfl⟩) (Cells.cons (vs := [.slice (some ⟨b678, 0, none⟩) x681.length 2]) (⟨_, hf733, rfl⟩) (Cells.cons (vs := [.slice (some ⟨b683, 0, none⟩) x686.length 2]) (⟨_, hf736, rfl⟩) (Cells.cons (vs := [.slice (some ⟨b688, 0, none⟩) x691.length 3]) (⟨_, hf739, rfl⟩) (Cells.cons (vs := [.slice (some ⟨b693, 0, none⟩) ([(⟨(1 : Int), (0 : Int), (1 : Int), ⟨(0 : Int), false, ([] : Str), ([] : (List api_Pair))⟩⟩ : api_Event)] : List api_Event).length 1]) (⟨_, hf742, rfl⟩) (Cells.cons (vs := [.slice (some ⟨b696, 0, none⟩) x699.length 4]) (⟨_, hf745, rfl⟩) (Cells.cons (vs := [.slice (some ⟨b701, 0, none⟩) x704.length 5]) (⟨_, hf748, rfl⟩) (Cells.cons (vs := [.slice (some ⟨b706, 0, none⟩) x709.length 2]) (⟨_, hf751, rfl⟩) (Cells.cons (vs := [.slice (some ⟨b711, 0, none⟩) ([(⟨(1 : Int), (1 : Int), (0 : Int), ⟨(0 : Int), false, ([] : Str), ([] : (List api_Pair))⟩⟩ : api_Event)] : List api_Event).length 1]) (⟨_, hf754, rfl⟩) (Cells.cons (vs := [.slice (some ⟨b714, 0, none⟩) ([(⟨(0 : Int), (0 : Int), (0 : Int), ⟨(0 : Int), false, ([] : Str), ([] : (List api_Pair))⟩⟩ : api_Event)] : List api_Event).length 1]) (⟨_, hf757, rfl⟩) (Cells.cons (vs := [.slice (some ⟨b717, 0, none⟩) ([(⟨(4 : Int), (0 : Int), (0 : Int), ⟨(0 : Int), false, ([] : Str), ([] : (List api_Pair))⟩⟩ : api_Event)] : List api_Event).length 1]) (⟨_, hf760, rfl⟩) (Cells.cons (vs := [.slice (some ⟨b720, 0, none⟩) x723.length 4]) (⟨_, hf763, rfl⟩) Cells.nil)))))))))))))
    obtain ⟨x767, he768, H⟩ := bindS H
    replace he768 := Option.some.inj he768
    rw [he768] at S
    rw [show Value.slice (some ⟨b764, 0, none⟩) 13 13 = Value.slice (some ⟨b764, 0, none⟩) x767.length 13 from (by rw [← he768]; rfl)]
    clear he768
    refine W_v (.int .i64 (x767.length : Int)) (x_len_slice (n := x767.length) Try.underlying58 rfl) rfl ?_
    refine W_v (.int .i64 0) (x_move rfl) rfl ?_
    refine Wl_nil ?_
    refine tn ?_
    obtain ⟨o829, o829h, o829H⟩ := bindS H
    clear H
    refine Wp_blockJ (fun ρ w' => .inr () = o829 ∧ Agree ρ [(19, .pointer (some ⟨b645, 0, none⟩)), (20, .pointer (some ⟨b648, 0, none⟩)), (21, .pointer (some ⟨b651, 0, none⟩)), (22, .pointer (some ⟨b657, 0, none⟩)), (23, .pointer (some ⟨b662, 0, none⟩)), (24, .pointer (some ⟨b667, 0, none⟩))] ∧ Ext w w' ∧ St w' M761 F [Blk b667 (.cells #[.int .u8 1, .int .i64 1, .int .i64 0, .int .i64 0, .bool false, .string (bs ([] : Str)), .slice none 0 0] 32 (0, 0)), Blk b662 (.cells #[.int .u8 2, .int .i64 0, .int .i64 0, .int .i64 0, .bool true, .string (bs ([] : Str)), .slice none 0 0] 32 (0, 0)), Blk b657 (.cells #[.int .u8 1, .int .i64 0, .int .i64 1, .int .i64 0, .bool false, .string (bs ([] : Str)), .slice none 0 0] 32 (0, 0)), Blk b651 (.cells #[.int .u8 3, .int .i64 0, .int .i64 0, .int .i64 0, .bool false, .string (bs ([] : Str)), .slice none 0 0] 32 (0, 0)), Blk b648 (.cells #[.int .u8 2, .int .i64 0, .int .i64 0, .int .i64 0, .bool false, .string (bs ([] : Str)), .slice none 0 0] 32 (0, 0)), Blk b645 (.cells #[.int .u8 1, .int .i64 0, .int .i64 0, .int .i64 0, .bool false, .string (bs ([] : Str)), .slice none 0 0] 32 (0, 0))]) ?_ ?_
    · skip
      refine Wp_loop (fun n ρ w' => ∃ (x809 : Int), ferrymanlaw06_EventNames_l1 x767 n x809 = some o829 ∧ Agree ρ [(19, .pointer (some ⟨b645, 0, none⟩)), (20, .pointer (some ⟨b648, 0, none⟩)), (21, .pointer (some ⟨b651, 0, none⟩)), (22, .pointer (some ⟨b657, 0, none⟩)), (23, .pointer (some ⟨b662, 0, none⟩)), (24, .pointer (some ⟨b667, 0, none⟩)), (228, .slice (some ⟨b764, 0, none⟩) x767.length 13), (229, .int .i64 (x767.length : Int)), (230, .int .i64 x809)] ∧ Ext w w' ∧ St w' M761 F [Row (rSl r_api_Event) 22 (.slice (some ⟨b764, 0, none⟩) x767.length 13) x767, Blk b667 (.cells #[.int .u8 1, .int .i64 1, .int .i64 0, .int .i64 0, .bool false, .string (bs ([] : Str)), .slice none 0 0] 32 (0, 0)), Blk b662 (.cells #[.int .u8 2, .int .i64 0, .int .i64 0, .int .i64 0, .bool true, .string (bs ([] : Str)), .slice none 0 0] 32 (0, 0)), Blk b657 (.cells #[.int .u8 1, .int .i64 0, .int .i64 1, .int .i64 0, .bool false, .string (bs ([] : Str)), .slice none 0 0] 32 (0, 0)), Blk b651 (.cells #[.int .u8 3, .int .i64 0, .int .i64 0, .int .i64 0, .bool false, .string (bs ([] : Str)), .slice none 0 0] 32 (0, 0)), Blk b648 (.cells #[.int .u8 2, .int .i64 0, .int .i64 0, .int .i64 0, .bool false, .string (bs ([] : Str)), .slice none 0 0] 32 (0, 0)), Blk b645 (.cells #[.int .u8 1, .int .i64 0, .int .i64 0, .int .i64 0, .bool false, .string (bs ([] : Str)), .slice none 0 0] 32 (0, 0))]) k ?_ ?_
      · skip
        exact ⟨(0 : Int), o829h, ⟨rfl, rfl, rfl, rfl, rfl, rfl, rfl, rfl, rfl, trivial⟩, E, S.pick [0, 1, 2, 3, 4, 5, 6] (by decide)⟩
      · intro n
        rintro ρ w830 ⟨x809, H, hρ, E, S⟩
        rw [agree_eta hρ]
        clear hρ
        cases n with
        | zero => cases H
        | succ k =>
          rw [ferrymanlaw06_EventNames_l1.eq_2] at H
          refine Wp_seq ?_
          refine Wp_region_lit ?_
          refine W_v (.bool (decide (x809 < (x767.length : Int)))) (x_ibin rfl rfl rfl rfl) rfl ?_
          refine Wl_nil ?_
          refine tn ?_
          refine Wp_seq ?_
          rcases iteS H with ⟨hb831, H⟩ | ⟨hb831, H⟩
          · refine Wp_cond_true (congrArg Value.bool hb831) ?_
            refine Wp_skip ?_
            refine tn ?_
            refine Wp_seq ?_
            refine Wp_block ?_
            refine Wp_seq ?_
            refine Wp_region_lit ?_
            obtain ⟨⟨p832, p833⟩, H⟩ := chkS H
            obtain ⟨b834, o835, cs836, _, _, ee841, hb837, vs838, hR839, hc840⟩ := SlW.at' (S.row_read 0 rfl) p832 p833
            obtain ⟨v845, hs844, rfl⟩ := hR839
            obtain ⟨A842, c843, rfl, _⟩ := hs844.form
            refine W_v (.pointer (some ⟨b834, o835 + x809.toNat * 1, none⟩)) (x_indexAddr Try.underlying58 ty22 (slA ee841) rfl p832 p833) rfl ?_
            refine W_v (.slice A842 (rd x767 x809).length c843) (x_load (Hp.of_get hb837) ty22 rfl (hc840 0 _ rfl)) rfl ?_
            refine W_v (.slice A842 (rd x767 x809).length c843) (x_assign rfl) rfl ?_
            refine Wl_nil ?_
            refine tn ?_
            refine Wp_seq ?_
            refine Wp_region_lit ?_
            refine W_v (.slice A842 (rd x767 x809).length c843) (x_move rfl) rfl ?_
            obtain ⟨t846, ht847, H⟩ := bindS H
            refine W_callF fn12 (event_Legal.con k M761 (1 : Int) A842 c843 (rd x767 x809) t846 hs844 ht847) S rfl rfl (by rintro _ _ _ ⟨_, rfl⟩; exact flat_nil) ?_
            rintro _ w848 _ Γ' E' S ⟨rfl, rfl⟩
            replace E := E.trans E'
            clear E'
            refine Wl_nil ?_
            refine tn ?_
            rcases iteS H with ⟨hb849, H⟩ | ⟨hb849, H⟩
            · refine Wp_cond_true (congrArg Value.bool hb849) ?_
              refine Wp_seq ?_
              refine Wp_region_lit ?_
              refine W_v (.bool false) (x_assign rfl) rfl ?_
              refine Wl_nil ?_
              refine tn ?_
              refine Wp_ret ?_
              refine br (tr (tr (br (tr (tr (?_))))))
              obtain rfl := Option.some.inj H
              have H := o829H
              replace H := elimL H
              obtain rfl := Option.some.inj H
              exact ⟨_, _, _, fun w1 e1 => run_resR (vs := [.bool false]) (FA.cons (rfl) (FA.nil)), HM, E, S.pick [] (by decide), ⟨rfl, rfl⟩⟩
            refine Wp_cond_false (congrArg Value.bool hb849) ?_
            refine Wp_skip ?_
            refine bn ?_
            refine tn ?_
            refine Wp_region_lit ?_
            refine W_v (.int .i64 (IntKind.i64.wrap (x809 + (1 : Int)))) (x_ibin rfl rfl rfl rfl) rfl ?_
            refine W_v (.int .i64 (IntKind.i64.wrap (x809 + (1 : Int)))) (x_move rfl) rfl ?_
            refine Wl_nil ?_
            refine tn ?_
            exact ⟨k, Nat.lt_succ_self k, ⟨(IntKind.i64.wrap (x809 + (1 : Int))), H, ⟨rfl, rfl, rfl, rfl, rfl, rfl, rfl, rfl, rfl, trivial⟩, E, S.pick [0, 1, 2, 3, 4, 5, 6] (by decide)⟩⟩
          refine Wp_cond_false (congrArg Value.bool hb831) ?_
          refine Wp_exit ?_
          refine tx (tx (bsm (?_)))
          refine tn ?_
          exact ⟨Option.some.inj H, ⟨rfl, rfl, rfl, rfl, rfl, rfl, trivial⟩, E, S.pick [1, 2, 3, 4, 5, 6] (by decide)⟩
    clear o829h
    rintro ρ w850 ⟨rfl, hρ, E, S⟩
    rw [agree_eta hρ]
    clear hρ
    have H := o829H
    clear o829H
    replace H := elimR H
    refine tn ?_
    refine Wp_seq ?_
    refine Wp_region_lit ?_
    refine W_v (.agg #[.int .u8 1, .int .i64 0, .int .i64 0, .int .i64 0, .bool false, .string (bs ([] : Str)), .slice none 0 0]) (x_loadA (S.blk 5 rfl) ty32 rfl (sub_of_extract rfl) rfl rfl) rfl ?_
    refine W_v (.agg #[.int .u8 2, .int .i64 0, .int .i64 0, .int .i64 0, .bool false, .string (bs ([] : Str)), .slice none 0 0]) (x_loadA (S.blk 4 rfl) ty32 rfl (sub_of_extract rfl) rfl rfl) rfl ?_
    refine W_v (.agg #[.int .u8 3, .int .i64 0, .int .i64 0, .int .i64 0, .bool false, .string (bs ([] : Str)), .slice none 0 0]) (x_loadA (S.blk 3 rfl) ty32 rfl (sub_of_extract rfl) rfl rfl) rfl ?_
    refine W_v (.agg #[.int .u8 1, .int .i64 0, .int .i64 1, .int .i64 0, .bool false, .string (bs ([] : Str)), .slice none 0 0]) (x_loadA (S.blk 2 rfl) ty32 rfl (sub_of_extract rfl) rfl rfl) rfl ?_
    refine W_bslice S #[.int .u8 1, .int .i64 0, .int .i64 0, .int .i64 0, .bool false, .string (bs ([] : Str)), .slice none 0 0, .int .u8 2, .int .i64 0, .int .i64 0, .int .i64 0, .bool false, .string (bs ([] : Str)), .slice none 0 0, .int .u8 3, .int .i64 0, .int .i64 0, .int .i64 0, .bool false, .string (bs ([] : Str)), .slice none 0 0, .int .u8 1, .int .i64 0, .int .i64 1, .int .i64 0, .bool false, .string (bs ([] : Str)), .slice none 0 0] Try.underlying22 ty32 rfl rfl #[.int .u8 0, .int .i64 0, .int .i64 0, .int .i64 0, .bool false, .string (bs ([] : Str)), .slice none 0 0, .int .u8 0, .int .i64 0, .int .i64 0, .int .i64 0, .bool false, .string (bs ([] : Str)), .slice none 0 0, .int .u8 0, .int .i64 0, .int .i64 0, .int .i64 0, .bool false, .string (bs ([] : Str)), .slice none 0 0, .int .u8 0, .int .i64 0, .int .i64 0, .int .i64 0, .bool false, .string (bs ([] : Str)), .slice none 0 0] (by kernel_rfl) (by kernel_rfl) rfl ?_
    intro b851 w852 E' S
    replace E := E.trans E'
    clear E'
    replace S := S.blk_row (r := r_api_Event) (l := ([(⟨(1 : Int), (0 : Int), (0 : Int), ⟨(0 : Int), false, ([] : Str), ([] : (List api_Pair))⟩⟩ : api_Event), (⟨(2 : Int), (0 : Int), (0 : Int), ⟨(0 : Int), false, ([] : Str), ([] : (List api_Pair))⟩⟩ : api_Event), (⟨(3 : Int), (0 : Int), (0 : Int), ⟨(0 : Int), false, ([] : Str), ([] : (List api_Pair))⟩⟩ : api_Event), (⟨(1 : Int), (0 : Int), (1 : Int), ⟨(0 : Int), false, ([] : Str), ([] : (List api_Pair))⟩⟩ : api_Event)] : List api_Event)) 0 rfl 4 (Nat.le_refl 4) rfl (Cells.cons (vs := [.int .u8 1, .int .i64 0, .int .i64 0, .int .i64 0, .bool false, .string (bs ([] : Str)), .slice none 0 0]) (⟨_, (SlW.nil _ _), rfl⟩) (Cells.cons (vs := [.int .u8 2, .int .i64 0, .int .i64 0, .int .i64 0, .bool false, .string (bs ([] : Str)), .slice none 0 0]) (⟨_, (SlW.nil _ _), rfl⟩) (Cells.cons (vs := [.int .u8 3, .int .i64 0, .int .i64 0, .int .i64 0, .bool false, .string (bs ([] : Str)), .slice none 0 0]) (⟨_, (SlW.nil _ _), rfl⟩) (Cells.cons (vs := [.int .u8 1, .int .i64 0, .int .i64 1, .int .i64 0, .bool false, .string (bs ([] : Str)), .slice none 0 0]) (⟨_, (SlW.nil _ _), rfl⟩) Cells.nil))))
    obtain ⟨x854, he855, H⟩ := bindS H
    replace he855 := Option.some.inj he855
    rw [he855] at S
    rw [show Value.slice (some ⟨b851, 0, none⟩) 4 4 = Value.slice (some ⟨b851, 0, none⟩) x854.length 4 from (by rw [← he855]; rfl)]
    clear he855
    obtain ⟨t856, ht857, H⟩ := bindS H
    refine W_callN 1 fn12 (fun h9 hs9 hd9 => event_Legal.con k _ (1 : Int) (some ⟨b851, 0, none⟩) 4 x854 t856 (Sats.row hs9 hd9 0 rfl) ht857) S rfl rfl (by rintro _ _ _ ⟨_, rfl⟩; exact flat_nil) ?_
    rintro _ w858 _ Γ' E' S ⟨rfl, rfl⟩
    replace E := E.trans E'
    clear E'
    refine W_v (.bool t856) (x_move rfl) rfl ?_
    obtain ⟨o877, o877h, o877H⟩ := bindS H
    clear H
    refine Wl_cutN 5 (fun ρ w' => ∃ (x876 : Bool), (x876) = o877 ∧ Agree ρ [(19, .pointer (some ⟨b645, 0, none⟩)), (20, .pointer (some ⟨b648, 0, none⟩)), (22, .pointer (some ⟨b657, 0, none⟩)), (23, .pointer (some ⟨b662, 0, none⟩)), (248, .bool x876)] ∧ Ext w w' ∧ St w' M761 F [Blk b662 (.cells #[.int .u8 2, .int .i64 0, .int .i64 0, .int .i64 0, .bool true, .string (bs ([] : Str)), .slice none 0 0] 32 (0, 0)), Blk b657 (.cells #[.int .u8 1, .int .i64 0, .int .i64 1, .int .i64 0, .bool false, .string (bs ([] : Str)), .slice none 0 0] 32 (0, 0)), Blk b648 (.cells #[.int .u8 2, .int .i64 0, .int .i64 0, .int .i64 0, .bool false, .string (bs ([] : Str)), .slice none 0 0] 32 (0, 0)), Blk b645 (.cells #[.int .u8 1, .int .i64 0, .int .i64 0, .int .i64 0, .bool false, .string (bs ([] : Str)), .slice none 0 0] 32 (0, 0))]) ?_ ?_
    · have H := o877h
      rcases iteS H with ⟨hb875, H⟩ | ⟨hb875, H⟩
      · skip
        refine W_yes (congrArg some hb875) ?_
        refine W_v (.agg #[.int .u8 1, .int .i64 1, .int .i64 0, .int .i64 0, .bool false, .string (bs ([] : Str)), .slice none 0 0]) (x_loadA (S.blk 1 rfl) ty32 rfl (sub_of_extract rfl) rfl rfl) rfl ?_
        refine W_yes (congrArg some hb875) ?_
        refine W_v (.agg #[.int .u8 1, .int .i64 0, .int .i64 0, .int .i64 0, .bool false, .string (bs ([] : Str)), .slice none 0 0]) (x_loadA (S.blk 6 rfl) ty32 rfl (sub_of_extract rfl) rfl rfl) rfl ?_
        refine W_yes (congrArg some hb875) ?_
        refine W_bslice S #[.int .u8 1, .int .i64 1, .int .i64 0, .int .i64 0, .bool false, .string (bs ([] : Str)), .slice none 0 0, .int .u8 1, .int .i64 0, .int .i64 0, .int .i64 0, .bool false, .string (bs ([] : Str)), .slice none 0 0] Try.underlying22 ty32 rfl rfl #[.int .u8 0, .int .i64 0, .int .i64 0, .int .i64 0, .bool false, .string (bs ([] : Str)), .slice none 0 0, .int .u8 0, .int .i64 0, .int .i64 0, .int .i64 0, .bool false, .string (bs ([] : Str)), .slice none 0 0] (by kernel_rfl) (by kernel_rfl) rfl ?_
        intro b878 w879 E' S
        replace E := E.trans E'
        clear E'
        replace S := S.blk_row (r := r_api_Event) (l := ([(⟨(1 : Int), (1 : Int), (0 : Int), ⟨(0 : Int), false, ([] : Str), ([] : (List api_Pair))⟩⟩ : api_Event), (⟨(1 : Int), (0 : Int), (0 : Int), ⟨(0 : Int), false, ([] : Str), ([] : (List api_Pair))⟩⟩ : api_Event)] : List api_Event)) 0 rfl 2 (Nat.le_refl 2) rfl (Cells.cons (vs := [.int .u8 1, .int .i64 1, .int .i64 0, .int .i64 0, .bool false, .string (bs ([] : Str)), .slice none 0 0]) (⟨_, (SlW.nil _ _), rfl⟩) (Cells.cons (vs := [.int .u8 1, .int .i64 0, .int .i64 0, .int .i64 0, .bool false, .string (bs ([] : Str)), .slice none 0 0]) (⟨_, (SlW.nil _ _), rfl⟩) Cells.nil))
        obtain ⟨x881, he882, H⟩ := bindS H
        replace he882 := Option.some.inj he882
        rw [he882] at S
        rw [show Value.slice (some ⟨b878, 0, none⟩) 2 2 = Value.slice (some ⟨b878, 0, none⟩) x881.length 2 from (by rw [← he882]; rfl)]
        clear he882
        refine W_yes (congrArg some hb875) ?_
        obtain ⟨t883, ht884, H⟩ := bindS H
        refine W_callN 1 fn12 (fun h9 hs9 hd9 => event_Legal.con k _ (2 : Int) (some ⟨b878, 0, none⟩) 2 x881 t883 (Sats.row hs9 hd9 0 rfl) ht884) S rfl rfl (by rintro _ _ _ ⟨_, rfl⟩; exact flat_nil) ?_
        rintro _ w885 _ Γ' E' S ⟨rfl, rfl⟩
        replace E := E.trans E'
        clear E'
        refine W_v (.bool t883) (x_pick (k := true) (congrArg Value.bool hb875) rfl) rfl ?_
        refine Wl_nil ?_
        exact ⟨t883, Option.some.inj H, ⟨rfl, rfl, rfl, rfl, rfl, trivial⟩, E, S.pick [3, 4, 6, 7] (by decide)⟩
      · skip
        refine W_no (skT hb875) rfl ?_
        refine W_no (skT hb875) rfl ?_
        refine W_no (skT hb875) rfl ?_
        refine W_no (skT hb875) rfl ?_
        refine W_v (.bool false) (x_pick (k := false) (congrArg Value.bool hb875) rfl) rfl ?_
        refine Wl_nil ?_
        exact ⟨false, Option.some.inj H, ⟨rfl, rfl, rfl, rfl, rfl, trivial⟩, E, S.pick [2, 3, 5, 6] (by decide)⟩
    clear o877h
    rintro ρ w886 ⟨x876, rfl, hρ, E, S⟩
    rw [agree_eta hρ]
    clear hρ
    have H := o877H
    clear o877H
    refine W_v (.bool x876) (x_move rfl) rfl ?_
    obtain ⟨o895, o895h, o895H⟩ := bindS H
    clear H
    refine Wl_cutN 2 (fun ρ w' => ∃ (x894 : Bool), (x894) = o895 ∧ Agree ρ [(19, .pointer (some ⟨b645, 0, none⟩)), (20, .pointer (some ⟨b648, 0, none⟩)), (22, .pointer (some ⟨b657, 0, none⟩)), (23, .pointer (some ⟨b662, 0, none⟩)), (251, .bool x894)] ∧ Ext w w' ∧ St w' M761 F [Blk b662 (.cells #[.int .u8 2, .int .i64 0, .int .i64 0, .int .i64 0, .bool true, .string (bs ([] : Str)), .slice none 0 0] 32 (0, 0)), Blk b657 (.cells #[.int .u8 1, .int .i64 0, .int .i64 1, .int .i64 0, .bool false, .string (bs ([] : Str)), .slice none 0 0] 32 (0, 0)), Blk b648 (.cells #[.int .u8 2, .int .i64 0, .int .i64 0, .int .i64 0, .bool false, .string (bs ([] : Str)), .slice none 0 0] 32 (0, 0)), Blk b645 (.cells #[.int .u8 1, .int .i64 0, .int .i64 0, .int .i64 0, .bool false, .string (bs ([] : Str)), .slice none 0 0] 32 (0, 0))]) ?_ ?_
    · have H := o895h
      rcases iteS H with ⟨hb893, H⟩ | ⟨hb893, H⟩
      · skip
        refine W_yes (congrArg some hb893) ?_
        obtain ⟨t896, ht897, H⟩ := bindS H
        refine W_callF fn12 (event_Legal.con k M761 (1 : Int) none 0 ([] : (List api_Event)) t896 (SlW.nil _ _) ht897) S rfl rfl (by rintro _ _ _ ⟨_, rfl⟩; exact flat_nil) ?_
        rintro _ w898 _ Γ' E' S ⟨rfl, rfl⟩
        replace E := E.trans E'
        clear E'
        refine W_v (.bool t896) (x_pick (k := true) (congrArg Value.bool hb893) rfl) rfl ?_
        refine Wl_nil ?_
        exact ⟨t896, Option.some.inj H, ⟨rfl, rfl, rfl, rfl, rfl, trivial⟩, E, S.pick [0, 1, 2, 3] (by decide)⟩
      · skip
        refine W_no (skT hb893) rfl ?_
        refine W_v (.bool false) (x_pick (k := false) (congrArg Value.bool hb893) rfl) rfl ?_
        refine Wl_nil ?_
        exact ⟨false, Option.some.inj H, ⟨rfl, rfl, rfl, rfl, rfl, trivial⟩, E, S.pick [0, 1, 2, 3] (by decide)⟩
    clear o895h
    rintro ρ w899 ⟨x894, rfl, hρ, E, S⟩
    rw [agree_eta hρ]
    clear hρ
    have H := o895H
    clear o895H
    refine W_v (.bool x894) (x_move rfl) rfl ?_
    obtain ⟨o920, o920h, o920H⟩ := bindS H
    clear H
    refine Wl_cutN 7 (fun ρ w' => ∃ (x919 : Bool), (x919) = o920 ∧ Agree ρ [(19, .pointer (some ⟨b645, 0, none⟩)), (20, .pointer (some ⟨b648, 0, none⟩)), (22, .pointer (some ⟨b657, 0, none⟩)), (259, .bool x919)] ∧ Ext w w' ∧ St w' M761 F [Blk b657 (.cells #[.int .u8 1, .int .i64 0, .int .i64 1, .int .i64 0, .bool false, .string (bs ([] : Str)), .slice none 0 0] 32 (0, 0)), Blk b648 (.cells #[.int .u8 2, .int .i64 0, .int .i64 0, .int .i64 0, .bool false, .string (bs ([] : Str)), .slice none 0 0] 32 (0, 0)), Blk b645 (.cells #[.int .u8 1, .int .i64 0, .int .i64 0, .int .i64 0, .bool false, .string (bs ([] : Str)), .slice none 0 0] 32 (0, 0))]) ?_ ?_
    · have H := o920h
      rcases iteS H with ⟨hb918, H⟩ | ⟨hb918, H⟩
      · skip
        refine W_yes (congrArg some hb918) ?_
        refine W_v (.agg #[.int .u8 2, .int .i64 0, .int .i64 0, .int .i64 0, .bool false, .string (bs ([] : Str)), .slice none 0 0]) (x_loadA (S.blk 2 rfl) ty32 rfl (sub_of_extract rfl) rfl rfl) rfl ?_
        refine W_yes (congrArg some hb918) ?_
        refine W_bslice S #[.int .u8 2, .int .i64 0, .int .i64 0, .int .i64 0, .bool false, .string (bs ([] : Str)), .slice none 0 0] Try.underlying22 ty32 rfl rfl #[.int .u8 0, .int .i64 0, .int .i64 0, .int .i64 0, .bool false, .string (bs ([] : Str)), .slice none 0 0] (by kernel_rfl) (by kernel_rfl) rfl ?_
        intro b921 w922 E' S
        replace E := E.trans E'
        clear E'
        replace S := S.blk_row (r := r_api_Event) (l := ([(⟨(2 : Int), (0 : Int), (0 : Int), ⟨(0 : Int), false, ([] : Str), ([] : (List api_Pair))⟩⟩ : api_Event)] : List api_Event)) 0 rfl 1 (Nat.le_refl 1) rfl (Cells.cons (vs := [.int .u8 2, .int .i64 0, .int .i64 0, .int .i64 0, .bool false, .string (bs ([] : Str)), .slice none 0 0]) (⟨_, (SlW.nil _ _), rfl⟩) Cells.nil)
        refine W_yes (congrArg some hb918) ?_
        refine W_v (.agg #[.int .u8 2, .int .i64 0, .int .i64 0, .int .i64 0, .bool true, .string (bs ([] : Str)), .slice none 0 0]) (x_loadA (S.blk 1 rfl) ty32 rfl (sub_of_extract rfl) rfl rfl) rfl ?_
        refine W_yes (congrArg some hb918) ?_
        refine W_bslice S #[.int .u8 2, .int .i64 0, .int .i64 0, .int .i64 0, .bool true, .string (bs ([] : Str)), .slice none 0 0] Try.underlying22 ty32 rfl rfl #[.int .u8 0, .int .i64 0, .int .i64 0, .int .i64 0, .bool false, .string (bs ([] : Str)), .slice none 0 0] (by kernel_rfl) (by kernel_rfl) rfl ?_
        intro b924 w925 E' S
        replace E := E.trans E'
        clear E'
        replace S := S.blk_row (r := r_api_Event) (l := ([(⟨(2 : Int), (0 : Int), (0 : Int), ⟨(0 : Int), true, ([] : Str), ([] : (List api_Pair))⟩⟩ : api_Event)] : List api_Event)) 0 rfl 1 (Nat.le_refl 1) rfl (Cells.cons (vs := [.int .u8 2, .int .i64 0, .int .i64 0, .int .i64 0, .bool true, .string (bs ([] : Str)), .slice none 0 0]) (⟨_, (SlW.nil _ _), rfl⟩) Cells.nil)
        refine W_yes (congrArg some hb918) ?_
        replace S : St w925 M761 F [Row r_api_Event 32 (.slice (some ⟨b921, 0, none⟩) ([(⟨(2 : Int), (0 : Int), (0 : Int), ⟨(0 : Int), false, ([] : Str), ([] : (List api_Pair))⟩⟩ : api_Event)] : List api_Event).length 1) ([(⟨(2 : Int), (0 : Int), (0 : Int), ⟨(0 : Int), false, ([] : Str), ([] : (List api_Pair))⟩⟩ : api_Event)] : List api_Event), Row r_api_Event 32 (.slice (some ⟨b924, 0, none⟩) ([(⟨(2 : Int), (0 : Int), (0 : Int), ⟨(0 : Int), true, ([] : Str), ([] : (List api_Pair))⟩⟩ : api_Event)] : List api_Event).length 1) ([(⟨(2 : Int), (0 : Int), (0 : Int), ⟨(0 : Int), true, ([] : Str), ([] : (List api_Pair))⟩⟩ : api_Event)] : List api_Event), Blk b662 (.cells #[.int .u8 2, .int .i64 0, .int .i64 0, .int .i64 0, .bool true, .string (bs ([] : Str)), .slice none 0 0] 32 (0, 0)), Blk b657 (.cells #[.int .u8 1, .int .i64 0, .int .i64 1, .int .i64 0, .bool false, .string (bs ([] : Str)), .slice none 0 0] 32 (0, 0)), Blk b648 (.cells #[.int .u8 2, .int .i64 0, .int .i64 0, .int .i64 0, .bool false, .string (bs ([] : Str)), .slice none 0 0] 32 (0, 0)), Blk b645 (.cells #[.int .u8 1, .int .i64 0, .int .i64 0, .int .i64 0, .bool false, .string (bs ([] : Str)), .slice none 0 0] 32 (0, 0))] := S.pick [1, 0, 2, 3, 4, 5] (by decide)
        obtain ⟨t927, ht928, H⟩ := bindS H
        refine W_callN 2 fn28 (fun h9 hs9 hd9 => event_Same.con k _ (some ⟨b921, 0, none⟩) 1 ([(⟨(2 : Int), (0 : Int), (0 : Int), ⟨(0 : Int), false, ([] : Str), ([] : (List api_Pair))⟩⟩ : api_Event)] : List api_Event) (some ⟨b924, 0, none⟩) 1 ([(⟨(2 : Int), (0 : Int), (0 : Int), ⟨(0 : Int), true, ([] : Str), ([] : (List api_Pair))⟩⟩ : api_Event)] : List api_Event) t927 (Sats.row hs9 hd9 0 rfl) (Sats.row hs9 hd9 1 rfl) ht928) S rfl rfl (by rintro _ _ _ ⟨_, rfl⟩; exact flat_nil) ?_
        rintro _ w929 _ Γ' E' S ⟨rfl, rfl⟩
        replace E := E.trans E'
        clear E'
        refine W_yes (congrArg some hb918) ?_
        refine W_v (.bool (!t927)) (x_not rfl) rfl ?_
        refine W_v (.bool (!t927)) (x_pick (k := true) (congrArg Value.bool hb918) rfl) rfl ?_
        refine Wl_nil ?_
        exact ⟨(!t927), Option.some.inj H, ⟨rfl, rfl, rfl, rfl, trivial⟩, E, S.pick [3, 4, 5] (by decide)⟩
      · skip
        refine W_no (skT hb918) rfl ?_
        refine W_no (skT hb918) rfl ?_
        refine W_no (skT hb918) rfl ?_
        refine W_no (skT hb918) rfl ?_
        refine W_no (skT hb918) rfl ?_
        refine W_no (skT hb918) rfl ?_
        refine W_v (.bool false) (x_pick (k := false) (congrArg Value.bool hb918) rfl) rfl ?_
        refine Wl_nil ?_
        exact ⟨false, Option.some.inj H, ⟨rfl, rfl, rfl, rfl, trivial⟩, E, S.pick [1, 2, 3] (by decide)⟩
    clear o920h
    rintro ρ w930 ⟨x919, rfl, hρ, E, S⟩
    rw [agree_eta hρ]
    clear hρ
    have H := o920H
    clear o920H
    refine W_v (.bool x919) (x_move rfl) rfl ?_
    obtain ⟨o977, o977h, o977H⟩ := bindS H
    clear H
    refine Wl_cutN 10 (fun ρ w' => ∃ (x976 : Bool) (Mj : Hp), (x976) = o977 ∧ Agree ρ [(22, .pointer (some ⟨b657, 0, none⟩)), (270, .bool x976)] ∧ M761.le Mj ∧ Ext w w' ∧ St w' Mj F [Blk b657 (.cells #[.int .u8 1, .int .i64 0, .int .i64 1, .int .i64 0, .bool false, .string (bs ([] : Str)), .slice none 0 0] 32 (0, 0))]) ?_ ?_
    · have H := o977h
      have LE978 := Hp.le_refl M761
      rcases iteS H with ⟨hb975, H⟩ | ⟨hb975, H⟩
      · skip
        refine W_yes (congrArg some hb975) ?_
        refine W_v (.agg #[.int .u8 1, .int .i64 0, .int .i64 0, .int .i64 0, .bool false, .string (bs ([] : Str)), .slice none 0 0]) (x_loadA (S.blk 2 rfl) ty32 rfl (sub_of_extract rfl) rfl rfl) rfl ?_
        refine W_yes (congrArg some hb975) ?_
        refine W_v (.agg #[.int .u8 2, .int .i64 0, .int .i64 0, .int .i64 0, .bool false, .string (bs ([] : Str)), .slice none 0 0]) (x_loadA (S.blk 1 rfl) ty32 rfl (sub_of_extract rfl) rfl rfl) rfl ?_
        refine W_yes (congrArg some hb975) ?_
        refine W_bslice S #[.int .u8 1, .int .i64 0, .int .i64 0, .int .i64 0, .bool false, .string (bs ([] : Str)), .slice none 0 0, .int .u8 2, .int .i64 0, .int .i64 0, .int .i64 0, .bool false, .string (bs ([] : Str)), .slice none 0 0] Try.underlying22 ty32 rfl rfl #[.int .u8 0, .int .i64 0, .int .i64 0, .int .i64 0, .bool false, .string (bs ([] : Str)), .slice none 0 0, .int .u8 0, .int .i64 0, .int .i64 0, .int .i64 0, .bool false, .string (bs ([] : Str)), .slice none 0 0] (by kernel_rfl) (by kernel_rfl) rfl ?_
        intro b979 w980 E' S
        replace E := E.trans E'
        clear E'
        replace S := S.blk_row (r := r_api_Event) (l := ([(⟨(1 : Int), (0 : Int), (0 : Int), ⟨(0 : Int), false, ([] : Str), ([] : (List api_Pair))⟩⟩ : api_Event), (⟨(2 : Int), (0 : Int), (0 : Int), ⟨(0 : Int), false, ([] : Str), ([] : (List api_Pair))⟩⟩ : api_Event)] : List api_Event)) 0 rfl 2 (Nat.le_refl 2) rfl (Cells.cons (vs := [.int .u8 1, .int .i64 0, .int .i64 0, .int .i64 0, .bool false, .string (bs ([] : Str)), .slice none 0 0]) (⟨_, (SlW.nil _ _), rfl⟩) (Cells.cons (vs := [.int .u8 2, .int .i64 0, .int .i64 0, .int .i64 0, .bool false, .string (bs ([] : Str)), .slice none 0 0]) (⟨_, (SlW.nil _ _), rfl⟩) Cells.nil))
        obtain ⟨x982, he983, H⟩ := bindS H
        replace he983 := Option.some.inj he983
        rw [he983] at S
        rw [show Value.slice (some ⟨b979, 0, none⟩) 2 2 = Value.slice (some ⟨b979, 0, none⟩) x982.length 2 from (by rw [← he983]; rfl)]
        clear he983
        refine W_yes (congrArg some hb975) ?_
        refine W_v (.agg #[.int .i64 0, .int .i64 0]) (x_build2 (pl := [(0, 1), (1, 1)]) #[.int .i64 0, .int .i64 0] Try.underlying62 ty62 (by kernel_rfl) rfl (by kernel_rfl)) rfl ?_
        refine W_yes (congrArg some hb975) ?_
        refine W_v (.agg #[.int .i64 0, .int .i64 0]) (x_build2 (pl := [(0, 1), (1, 1)]) #[.int .i64 0, .int .i64 0] Try.underlying62 ty62 (by kernel_rfl) rfl (by kernel_rfl)) rfl ?_
        refine W_yes (congrArg some hb975) ?_
        refine W_bslice S #[.int .i64 0, .int .i64 0, .int .i64 0, .int .i64 0] Try.underlying55 ty62 rfl rfl #[.int .i64 0, .int .i64 0, .int .i64 0, .int .i64 0] (by kernel_rfl) (by kernel_rfl) rfl ?_
        intro b984 w985 E' S
        replace E := E.trans E'
        clear E'
        replace S := S.blk_row (r := r_event_Place) (l := ([(⟨(0 : Int), (0 : Int)⟩ : event_Place), (⟨(0 : Int), (0 : Int)⟩ : event_Place)] : List event_Place)) 0 rfl 2 (Nat.le_refl 2) rfl (Cells.cons (vs := [.int .i64 0, .int .i64 0]) (rfl) (Cells.cons (vs := [.int .i64 0, .int .i64 0]) (rfl) Cells.nil))
        refine W_yes (congrArg some hb975) ?_
        obtain ⟨M987, hM988, hf989, S⟩ := S.row_freeze 1 rfl
        replace HM := Hp.le_trans HM hM988
        replace hM96 := Hp.le_trans hM96 hM988
        replace hM335 := Hp.le_trans hM335 hM988
        replace hM383 := Hp.le_trans hM383 hM988
        replace hM431 := Hp.le_trans hM431 hM988
        replace hM479 := Hp.le_trans hM479 hM988
        replace hM527 := Hp.le_trans hM527 hM988
        replace hM575 := Hp.le_trans hM575 hM988
        replace hM623 := Hp.le_trans hM623 hM988
        replace LE978 := Hp.le_trans LE978 hM988
        replace hf727 := SlR.mono hf727 hM988
        replace hf730 := SlR.mono hf730 hM988
        replace hf733 := SlR.mono hf733 hM988
        replace hf736 := SlR.mono hf736 hM988
        replace hf739 := SlR.mono hf739 hM988
        replace hf742 := SlR.mono hf742 hM988
        replace hf745 := SlR.mono hf745 hM988
        replace hf748 := SlR.mono hf748 hM988
        replace hf751 := SlR.mono hf751 hM988
        replace hf754 := SlR.mono hf754 hM988
        replace hf757 := SlR.mono hf757 hM988
        replace hf760 := SlR.mono hf760 hM988
        replace hf763 := SlR.mono hf763 hM988
        obtain ⟨M990, hM991, hf992, S⟩ := S.row_freeze 0 rfl
        replace HM := Hp.le_trans HM hM991
        replace hM96 := Hp.le_trans hM96 hM991
        replace hM335 := Hp.le_trans hM335 hM991
        replace hM383 := Hp.le_trans hM383 hM991
        replace hM431 := Hp.le_trans hM431 hM991
        replace hM479 := Hp.le_trans hM479 hM991
        replace hM527 := Hp.le_trans hM527 hM991
        replace hM575 := Hp.le_trans hM575 hM991
        replace hM623 := Hp.le_trans hM623 hM991
        replace LE978 := Hp.le_trans LE978 hM991
        replace hf727 := SlR.mono hf727 hM991
        replace hf730 := SlR.mono hf730 hM991
        replace hf733 := SlR.mono hf733 hM991
        replace hf736 := SlR.mono hf736 hM991
        replace hf739 := SlR.mono hf739 hM991
        replace hf742 := SlR.mono hf742 hM991
        replace hf745 := SlR.mono hf745 hM991
        replace hf748 := SlR.mono hf748 hM991
        replace hf751 := SlR.mono hf751 hM991
        replace hf754 := SlR.mono hf754 hM991
        replace hf757 := SlR.mono hf757 hM991
        replace hf760 := SlR.mono hf760 hM991
        replace hf763 := SlR.mono hf763 hM991
        replace hf989 := SlR.mono hf989 hM991
        obtain ⟨t993, ht994, H⟩ := bindS H
        refine W_call fn24 (event_Without.con k M990 (some ⟨b979, 0, none⟩) 2 x982 (some ⟨b984, 0, none⟩) 2 ([(⟨(0 : Int), (0 : Int)⟩ : event_Place), (⟨(0 : Int), (0 : Int)⟩ : event_Place)] : List event_Place) t993 hf989 hf992 ht994) (Γ1 := []) (Γ2 := [Blk b657 (.cells #[.int .u8 1, .int .i64 0, .int .i64 1, .int .i64 0, .bool false, .string (bs ([] : Str)), .slice none 0 0] 32 (0, 0)), Blk b648 (.cells #[.int .u8 2, .int .i64 0, .int .i64 0, .int .i64 0, .bool false, .string (bs ([] : Str)), .slice none 0 0] 32 (0, 0)), Blk b645 (.cells #[.int .u8 1, .int .i64 0, .int .i64 0, .int .i64 0, .bool false, .string (bs ([] : Str)), .slice none 0 0] 32 (0, 0))]) S rfl rfl ?_
        rintro _ w998 M999 Γ' hM1000 E' S ⟨A995, c996, rfl, rfl⟩
        replace HM := Hp.le_trans HM hM1000
        replace hM96 := Hp.le_trans hM96 hM1000
        replace hM335 := Hp.le_trans hM335 hM1000
        replace hM383 := Hp.le_trans hM383 hM1000
        replace hM431 := Hp.le_trans hM431 hM1000
        replace hM479 := Hp.le_trans hM479 hM1000
        replace hM527 := Hp.le_trans hM527 hM1000
        replace hM575 := Hp.le_trans hM575 hM1000
        replace hM623 := Hp.le_trans hM623 hM1000
        replace LE978 := Hp.le_trans LE978 hM1000
        replace hf727 := SlR.mono hf727 hM1000
        replace hf730 := SlR.mono hf730 hM1000
        replace hf733 := SlR.mono hf733 hM1000
        replace hf736 := SlR.mono hf736 hM1000
        replace hf739 := SlR.mono hf739 hM1000
        replace hf742 := SlR.mono hf742 hM1000
        replace hf745 := SlR.mono hf745 hM1000
        replace hf748 := SlR.mono hf748 hM1000
        replace hf751 := SlR.mono hf751 hM1000
        replace hf754 := SlR.mono hf754 hM1000
        replace hf757 := SlR.mono hf757 hM1000
        replace hf760 := SlR.mono hf760 hM1000
        replace hf763 := SlR.mono hf763 hM1000
        replace hf989 := SlR.mono hf989 hM1000
        replace hf992 := SlR.mono hf992 hM1000
        replace E := E.trans E'
        clear E'
        refine W_yes (congrArg some hb975) ?_
        refine W_v (.int .i64 (t993.length : Int)) (x_len_slice (n := t993.length) Try.underlying22 rfl) rfl ?_
        refine W_yes (congrArg some hb975) ?_
        refine W_v (.bool ((t993.length : Int) == (0 : Int))) (x_ibin rfl rfl rfl rfl) rfl ?_
        refine W_v (.bool ((t993.length : Int) == (0 : Int))) (x_pick (k := true) (congrArg Value.bool hb975) rfl) rfl ?_
        refine Wl_nil ?_
        exact ⟨((t993.length : Int) == (0 : Int)), M999, Option.some.inj H, ⟨rfl, rfl, trivial⟩, LE978, E, S.pick [1] (by decide)⟩
      · skip
        refine W_no (skT hb975) rfl ?_
        refine W_no (skT hb975) rfl ?_
        refine W_no (skT hb975) rfl ?_
        refine W_no (skT hb975) rfl ?_
        refine W_no (skT hb975) rfl ?_
        refine W_no (skT hb975) rfl ?_
        refine W_no (skT hb975) rfl ?_
        refine W_no (skT hb975) rfl ?_
        refine W_no (skT hb975) rfl ?_
        refine W_v (.bool false) (x_pick (k := false) (congrArg Value.bool hb975) rfl) rfl ?_
        refine Wl_nil ?_
        exact ⟨false, M761, Option.some.inj H, ⟨rfl, rfl, trivial⟩, (Hp.le_refl M761), E, S.pick [0] (by decide)⟩
    clear o977h
    rintro ρ w1001 ⟨x976, M1002, rfl, hρ, hM1003, E, S⟩
    rw [agree_eta hρ]
    clear hρ
    replace HM := Hp.le_trans HM hM1003
    replace hM96 := Hp.le_trans hM96 hM1003
    replace hM335 := Hp.le_trans hM335 hM1003
    replace hM383 := Hp.le_trans hM383 hM1003
    replace hM431 := Hp.le_trans hM431 hM1003
    replace hM479 := Hp.le_trans hM479 hM1003
    replace hM527 := Hp.le_trans hM527 hM1003
    replace hM575 := Hp.le_trans hM575 hM1003
    replace hM623 := Hp.le_trans hM623 hM1003
    replace hf727 := SlR.mono hf727 hM1003
    replace hf730 := SlR.mono hf730 hM1003
    replace hf733 := SlR.mono hf733 hM1003
    replace hf736 := SlR.mono hf736 hM1003
    replace hf739 := SlR.mono hf739 hM1003
    replace hf742 := SlR.mono hf742 hM1003
    replace hf745 := SlR.mono hf745 hM1003
    replace hf748 := SlR.mono hf748 hM1003
    replace hf751 := SlR.mono hf751 hM1003
    replace hf754 := SlR.mono hf754 hM1003
    replace hf757 := SlR.mono hf757 hM1003
    replace hf760 := SlR.mono hf760 hM1003
    replace hf763 := SlR.mono hf763 hM1003
    have H := o977H
    clear o977H
    refine W_v (.bool x976) (x_move rfl) rfl ?_
    obtain ⟨o1078, o1078h, o1078H⟩ := bindS H
    clear H
    refine Wl_cutN 13 (fun ρ w' => ∃ (x1077 : Bool) (Mj : Hp), (x1077) = o1078 ∧ Agree ρ [(284, .bool x1077)] ∧ M1002.le Mj ∧ Ext w w' ∧ St w' Mj F []) ?_ ?_
    · have H := o1078h
      have LE1079 := Hp.le_refl M1002
      rcases iteS H with ⟨hb1076, H⟩ | ⟨hb1076, H⟩
      · skip
        refine W_yes (congrArg some hb1076) ?_
        refine W_v (.agg #[.int .u8 1, .int .i64 0, .int .i64 1, .int .i64 0, .bool false, .string (bs ([] : Str)), .slice none 0 0]) (x_loadA (S.blk 0 rfl) ty32 rfl (sub_of_extract rfl) rfl rfl) rfl ?_
        refine W_yes (congrArg some hb1076) ?_
        refine W_bslice S #[.int .u8 1, .int .i64 0, .int .i64 1, .int .i64 0, .bool false, .string (bs ([] : Str)), .slice none 0 0] Try.underlying22 ty32 rfl rfl #[.int .u8 0, .int .i64 0, .int .i64 0, .int .i64 0, .bool false, .string (bs ([] : Str)), .slice none 0 0] (by kernel_rfl) (by kernel_rfl) rfl ?_
        intro b1080 w1081 E' S
        replace E := E.trans E'
        clear E'
        replace S := S.blk_row (r := r_api_Event) (l := ([(⟨(1 : Int), (0 : Int), (1 : Int), ⟨(0 : Int), false, ([] : Str), ([] : (List api_Pair))⟩⟩ : api_Event)] : List api_Event)) 0 rfl 1 (Nat.le_refl 1) rfl (Cells.cons (vs := [.int .u8 1, .int .i64 0, .int .i64 1, .int .i64 0, .bool false, .string (bs ([] : Str)), .slice none 0 0]) (⟨_, (SlW.nil _ _), rfl⟩) Cells.nil)
        refine W_yes (congrArg some hb1076) ?_
        refine W_v (.agg #[.int .i64 0, .int .i64 0]) (x_build2 (pl := [(0, 1), (1, 1)]) #[.int .i64 0, .int .i64 0] Try.underlying62 ty62 (by kernel_rfl) rfl (by kernel_rfl)) rfl ?_
        refine W_yes (congrArg some hb1076) ?_
        refine W_v (.agg #[.int .i64 0, .int .i64 0]) (x_build2 (pl := [(0, 1), (1, 1)]) #[.int .i64 0, .int .i64 0] Try.underlying62 ty62 (by kernel_rfl) rfl (by kernel_rfl)) rfl ?_
        refine W_yes (congrArg some hb1076) ?_
        refine W_v (.agg #[.int .i64 0, .int .i64 (-1)]) (x_build2 (pl := [(0, 1), (1, 1)]) #[.int .i64 0, .int .i64 (-1)] Try.underlying62 ty62 (by kernel_rfl) rfl (by kernel_rfl)) rfl ?_
        refine W_yes (congrArg some hb1076) ?_
        refine W_v (.agg #[.int .i64 1, .int .i64 0]) (x_build2 (pl := [(0, 1), (1, 1)]) #[.int .i64 1, .int .i64 0] Try.underlying62 ty62 (by kernel_rfl) rfl (by kernel_rfl)) rfl ?_
        refine W_yes (congrArg some hb1076) ?_
        refine W_bslice S #[.int .i64 0, .int .i64 0, .int .i64 0, .int .i64 0, .int .i64 0, .int .i64 (-1), .int .i64 1, .int .i64 0] Try.underlying55 ty62 rfl rfl #[.int .i64 0, .int .i64 0, .int .i64 0, .int .i64 0, .int .i64 0, .int .i64 0, .int .i64 0, .int .i64 0] (by kernel_rfl) (by kernel_rfl) rfl ?_
        intro b1083 w1084 E' S
        replace E := E.trans E'
        clear E'
        replace S := S.blk_row (r := r_event_Place) (l := ([(⟨(0 : Int), (0 : Int)⟩ : event_Place), (⟨(0 : Int), (0 : Int)⟩ : event_Place), (⟨(0 : Int), (-1 : Int)⟩ : event_Place), (⟨(1 : Int), (0 : Int)⟩ : event_Place)] : List event_Place)) 0 rfl 4 (Nat.le_refl 4) rfl (Cells.cons (vs := [.int .i64 0, .int .i64 0]) (rfl) (Cells.cons (vs := [.int .i64 0, .int .i64 0]) (rfl) (Cells.cons (vs := [.int .i64 0, .int .i64 (-1)]) (rfl) (Cells.cons (vs := [.int .i64 1, .int .i64 0]) (rfl) Cells.nil))))
        obtain ⟨x1086, he1087, H⟩ := bindS H
        replace he1087 := Option.some.inj he1087
        rw [he1087] at S
        rw [show Value.slice (some ⟨b1083, 0, none⟩) 4 4 = Value.slice (some ⟨b1083, 0, none⟩) x1086.length 4 from (by rw [← he1087]; rfl)]
        clear he1087
        refine W_yes (congrArg some hb1076) ?_
        obtain ⟨M1088, hM1089, hf1090, S⟩ := S.row_freeze 1 rfl
        replace HM := Hp.le_trans HM hM1089
        replace hM96 := Hp.le_trans hM96 hM1089
        replace hM335 := Hp.le_trans hM335 hM1089
        replace hM383 := Hp.le_trans hM383 hM1089
        replace hM431 := Hp.le_trans hM431 hM1089
        replace hM479 := Hp.le_trans hM479 hM1089
        replace hM527 := Hp.le_trans hM527 hM1089
        replace hM575 := Hp.le_trans hM575 hM1089
        replace hM623 := Hp.le_trans hM623 hM1089
        replace hM1003 := Hp.le_trans hM1003 hM1089
        replace LE1079 := Hp.le_trans LE1079 hM1089
        replace hf727 := SlR.mono hf727 hM1089
        replace hf730 := SlR.mono hf730 hM1089
        replace hf733 := SlR.mono hf733 hM1089
        replace hf736 := SlR.mono hf736 hM1089
        replace hf739 := SlR.mono hf739 hM1089
        replace hf742 := SlR.mono hf742 hM1089
        replace hf745 := SlR.mono hf745 hM1089
        replace hf748 := SlR.mono hf748 hM1089
        replace hf751 := SlR.mono hf751 hM1089
        replace hf754 := SlR.mono hf754 hM1089
        replace hf757 := SlR.mono hf757 hM1089
        replace hf760 := SlR.mono hf760 hM1089
        replace hf763 := SlR.mono hf763 hM1089
        obtain ⟨M1091, hM1092, hf1093, S⟩ := S.row_freeze 0 rfl
        replace HM := Hp.le_trans HM hM1092
        replace hM96 := Hp.le_trans hM96 hM1092
        replace hM335 := Hp.le_trans hM335 hM1092
        replace hM383 := Hp.le_trans hM383 hM1092
        replace hM431 := Hp.le_trans hM431 hM1092
        replace hM479 := Hp.le_trans hM479 hM1092
        replace hM527 := Hp.le_trans hM527 hM1092
        replace hM575 := Hp.le_trans hM575 hM1092
        replace hM623 := Hp.le_trans hM623 hM1092
        replace hM1003 := Hp.le_trans hM1003 hM1092
        replace LE1079 := Hp.le_trans LE1079 hM1092
        replace hf727 := SlR.mono hf727 hM1092
        replace hf730 := SlR.mono hf730 hM1092
        replace hf733 := SlR.mono hf733 hM1092
        replace hf736 := SlR.mono hf736 hM1092
        replace hf739 := SlR.mono hf739 hM1092
        replace hf742 := SlR.mono hf742 hM1092
        replace hf745 := SlR.mono hf745 hM1092
        replace hf748 := SlR.mono hf748 hM1092
        replace hf751 := SlR.mono hf751 hM1092
        replace hf754 := SlR.mono hf754 hM1092
        replace hf757 := SlR.mono hf757 hM1092
        replace hf760 := SlR.mono hf760 hM1092
        replace hf763 := SlR.mono hf763 hM1092
        replace hf1090 := SlR.mono hf1090 hM1092
        obtain ⟨t1094, ht1095, H⟩ := bindS H
        refine W_call fn24 (event_Without.con k M1091 (some ⟨b1080, 0, none⟩) 1 ([(⟨(1 : Int), (0 : Int), (1 : Int), ⟨(0 : Int), false, ([] : Str), ([] : (List api_Pair))⟩⟩ : api_Event)] : List api_Event) (some ⟨b1083, 0, none⟩) 4 x1086 t1094 hf1090 hf1093 ht1095) (Γ1 := []) (Γ2 := [Blk b657 (.cells #[.int .u8 1, .int .i64 0, .int .i64 1, .int .i64 0, .bool false, .string (bs ([] : Str)), .slice none 0 0] 32 (0, 0))]) S rfl rfl ?_
        rintro _ w1099 M1100 Γ' hM1101 E' S ⟨A1096, c1097, rfl, rfl⟩
        replace HM := Hp.le_trans HM hM1101
        replace hM96 := Hp.le_trans hM96 hM1101
        replace hM335 := Hp.le_trans hM335 hM1101
        replace hM383 := Hp.le_trans hM383 hM1101
        replace hM431 := Hp.le_trans hM431 hM1101
        replace hM479 := Hp.le_trans hM479 hM1101
        replace hM527 := Hp.le_trans hM527 hM1101
        replace hM575 := Hp.le_trans hM575 hM1101
        replace hM623 := Hp.le_trans hM623 hM1101
        replace hM1003 := Hp.le_trans hM1003 hM1101
        replace LE1079 := Hp.le_trans LE1079 hM1101
        replace hf727 := SlR.mono hf727 hM1101
        replace hf730 := SlR.mono hf730 hM1101
        replace hf733 := SlR.mono hf733 hM1101
        replace hf736 := SlR.mono hf736 hM1101
        replace hf739 := SlR.mono hf739 hM1101
        replace hf742 := SlR.mono hf742 hM1101
        replace hf745 := SlR.mono hf745 hM1101
        replace hf748 := SlR.mono hf748 hM1101
        replace hf751 := SlR.mono hf751 hM1101
        replace hf754 := SlR.mono hf754 hM1101
        replace hf757 := SlR.mono hf757 hM1101
        replace hf760 := SlR.mono hf760 hM1101
        replace hf763 := SlR.mono hf763 hM1101
        replace hf1090 := SlR.mono hf1090 hM1101
        replace hf1093 := SlR.mono hf1093 hM1101
        replace E := E.trans E'
        clear E'
        refine W_yes (congrArg some hb1076) ?_
        obtain ⟨⟨p1102, p1103⟩, H⟩ := chkS H
        obtain ⟨b1104, o1105, cs1106, _, _, ee1111, hb1107, vs1108, hR1109, hc1110⟩ := SlW.at' (S.row_read 0 rfl) p1102 p1103
        obtain ⟨v1115, hs1114, rfl⟩ := hR1109
        obtain ⟨A1112, c1113, rfl, _⟩ := hs1114.form
        refine W_v (.pointer (some ⟨b1104, o1105 + (0 : Int).toNat * 7, none⟩)) (x_indexAddr Try.underlying22 ty32 (slA ee1111) rfl p1102 p1103) rfl ?_
        refine W_yes (congrArg some hb1076) ?_
        refine W_v (.pointer (some ⟨b1104, o1105 + (0 : Int).toNat * 7 + 2, none⟩)) (x_fieldAddr (o := o1105 + (0 : Int).toNat * 7) (off := 2) Try.underlying32 rfl ty3 rfl rfl) rfl ?_
        refine W_yes (congrArg some hb1076) ?_
        refine W_v (.int .i64 ((rd t1094 (0 : Int)).Call)) (x_load (Hp.of_get hb1107) ty3 rfl (hc1110 2 _ rfl)) rfl ?_
        refine W_yes (congrArg some hb1076) ?_
        refine W_v (.bool ((rd t1094 (0 : Int)).Call == (0 : Int))) (x_ibin rfl rfl rfl rfl) rfl ?_
        refine W_v (.bool ((rd t1094 (0 : Int)).Call == (0 : Int))) (x_pick (k := true) (congrArg Value.bool hb1076) rfl) rfl ?_
        refine Wl_nil ?_
        exact ⟨((rd t1094 (0 : Int)).Call == (0 : Int)), M1100, Option.some.inj H, ⟨rfl, trivial⟩, LE1079, E, S.pick [] (by decide)⟩
      · skip
        refine W_no (skT hb1076) rfl ?_
        refine W_no (skT hb1076) rfl ?_
        refine W_no (skT hb1076) rfl ?_
        refine W_no (skT hb1076) rfl ?_
        refine W_no (skT hb1076) rfl ?_
        refine W_no (skT hb1076) rfl ?_
        refine W_no (skT hb1076) rfl ?_
        refine W_no (skT hb1076) rfl ?_
        refine W_no (skT hb1076) rfl ?_
        refine W_no (skT hb1076) rfl ?_
        refine W_no (skT hb1076) rfl ?_
        refine W_no (skT hb1076) rfl ?_
        refine W_v (.bool false) (x_pick (k := false) (congrArg Value.bool hb1076) rfl) rfl ?_
        refine Wl_nil ?_
        exact ⟨false, M1002, Option.some.inj H, ⟨rfl, trivial⟩, (Hp.le_refl M1002), E, S.pick [] (by decide)⟩
    clear o1078h
    rintro ρ w1116 ⟨x1077, M1117, rfl, hρ, hM1118, E, S⟩
    rw [agree_eta hρ]
    clear hρ
    replace HM := Hp.le_trans HM hM1118
    replace hM96 := Hp.le_trans hM96 hM1118
    replace hM335 := Hp.le_trans hM335 hM1118
    replace hM383 := Hp.le_trans hM383 hM1118
    replace hM431 := Hp.le_trans hM431 hM1118
    replace hM479 := Hp.le_trans hM479 hM1118
    replace hM527 := Hp.le_trans hM527 hM1118
    replace hM575 := Hp.le_trans hM575 hM1118
    replace hM623 := Hp.le_trans hM623 hM1118
    replace hM1003 := Hp.le_trans hM1003 hM1118
    replace hf727 := SlR.mono hf727 hM1118
    replace hf730 := SlR.mono hf730 hM1118
    replace hf733 := SlR.mono hf733 hM1118
    replace hf736 := SlR.mono hf736 hM1118
    replace hf739 := SlR.mono hf739 hM1118
    replace hf742 := SlR.mono hf742 hM1118
    replace hf745 := SlR.mono hf745 hM1118
    replace hf748 := SlR.mono hf748 hM1118
    replace hf751 := SlR.mono hf751 hM1118
    replace hf754 := SlR.mono hf754 hM1118
    replace hf757 := SlR.mono hf757 hM1118
    replace hf760 := SlR.mono hf760 hM1118
    replace hf763 := SlR.mono hf763 hM1118
    have H := o1078H
    clear o1078H
    refine W_v (.bool x1077) (x_assign rfl) rfl ?_
    refine Wl_nil ?_
    refine tn ?_
    refine Wp_ret ?_
    obtain rfl := Option.some.inj H
    exact ⟨_, _, _, fun w1 e1 => run_resR (vs := [.bool x1077]) (FA.cons (rfl) (FA.nil)), HM, E, S.pick [] (by decide), ⟨rfl, rfl⟩⟩
end Go.Proofs.Ytninegjnkkcepaa
