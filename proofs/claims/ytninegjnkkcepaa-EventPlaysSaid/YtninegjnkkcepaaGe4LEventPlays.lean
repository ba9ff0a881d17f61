import Derived.Test.YtninegjnkkcepaaGe4B
import Derived.Test.YtninegjnkkcepaaGe4P0
import Derived.Test.YtninegjnkkcepaaGe4P1
import Derived.Test.YtninegjnkkcepaaGe4LEventPlaysP0
namespace Go.Proofs.Ytninegjnkkcepaa
open Go
set_option linter.unusedVariables false
set_option linter.unusedSimpArgs false
def ferrymanlaw06_EventPlays_l24 (t3573 : (List api_Event)) (x4015 : Int) : Nat → Int → Option ((Unit))
  | 0, _ => none
  | k + 1, x4352 => (if 0 ≤ x4015 ∧ x4015 < (t3573.length : Int) then (if (decide (x4352 < (((rd t3573 x4015).Answer.Pairs).length : Int))) = true then (if 0 ≤ x4015 ∧ x4015 < (t3573.length : Int) then (if 0 ≤ x4352 ∧ x4352 < (((rd t3573 x4015).Answer.Pairs).length : Int) then ferrymanlaw06_EventPlays_l24 t3573 x4015 k (IntKind.i64.wrap (x4352 + (1 : Int))) else none) else none) else some ()) else none)
set_option maxHeartbeats 2000000 in
theorem ferrymanlaw06_EventPlays_l24.mono {t3573 : (List api_Event)} {x4015 : Int} : ∀ {kl : Nat} {x0}, OLe (ferrymanlaw06_EventPlays_l24 t3573 x4015 kl x0) (ferrymanlaw06_EventPlays_l24 t3573 x4015 (kl + 1) x0) := by
  intro kl
  induction kl with
  | zero => intros; exact OLe.none
  | succ kl ih =>
    intros
    rw [ferrymanlaw06_EventPlays_l24.eq_2, ferrymanlaw06_EventPlays_l24.eq_2]
    repeat' (first | with_reducible exact OLe.none | with_reducible exact OLe.some | with_reducible refine OLe.ite ?_ ?_ | with_reducible refine OLe.bind ?_ (fun _ => ?_) | exact ih | refine OLe.bind ?_ (fun _ => ?_) | refine OLe.ite ?_ ?_ | refine OLe.elim (fun _ => ?_) (fun _ => ?_) | split)
def ferrymanlaw06_EventPlays_l22 (t3573 : (List api_Event)) : Nat → Int → Option ((Unit))
  | 0, _ => none
  | k + 1, x4015 => (if (decide (x4015 < (t3573.length : Int))) = true then (if 0 ≤ x4015 ∧ x4015 < (t3573.length : Int) then (Option.bind (ferrymanlaw06_EventPlays_l24 t3573 x4015 k (0 : Int)) (fun _ => ferrymanlaw06_EventPlays_l22 t3573 k (IntKind.i64.wrap (x4015 + (1 : Int))))) else none) else some ())
set_option maxHeartbeats 2000000 in
theorem ferrymanlaw06_EventPlays_l22.mono {t3573 : (List api_Event)} : ∀ {kl : Nat} {x0}, OLe (ferrymanlaw06_EventPlays_l22 t3573 kl x0) (ferrymanlaw06_EventPlays_l22 t3573 (kl + 1) x0) := by
  intro kl
  induction kl with
  | zero => intros; exact OLe.none
  | succ kl ih =>
    intros
    rw [ferrymanlaw06_EventPlays_l22.eq_2, ferrymanlaw06_EventPlays_l22.eq_2]
    repeat' (first | with_reducible exact OLe.none | with_reducible exact OLe.some | with_reducible refine OLe.ite ?_ ?_ | with_reducible refine OLe.bind ?_ (fun _ => ?_) | with_reducible exact ferrymanlaw06_EventPlays_l24.mono | exact ih | refine OLe.bind ?_ (fun _ => ?_) | refine OLe.ite ?_ ?_ | refine OLe.elim (fun _ => ?_) (fun _ => ?_) | split)
def ferrymanlaw06_EventPlays_l19 : Nat → Int → List api_Pair → Option ((Unit))
  | 0, _, _ => none
  | k + 1, x3446, x3447 => (if (decide (x3446 < (x3447.length : Int))) = true then (if 0 ≤ x3446 ∧ x3446 < (x3447.length : Int) then (Option.bind (α := List api_Pair) (some (List.set x3447 x3446.toNat (⟨([115, 112, 111, 105, 108, 116] : Str), (rd x3447 x3446).Value⟩ : api_Pair))) (fun x3483 => ferrymanlaw06_EventPlays_l19 k (IntKind.i64.wrap (x3446 + (1 : Int))) x3483)) else none) else some ())
set_option maxHeartbeats 2000000 in
theorem ferrymanlaw06_EventPlays_l19.mono  : ∀ {kl : Nat} {x0 x1}, OLe (ferrymanlaw06_EventPlays_l19  kl x0 x1) (ferrymanlaw06_EventPlays_l19  (kl + 1) x0 x1) := by
  intro kl
  induction kl with
  | zero => intros; exact OLe.none
  | succ kl ih =>
    intros
    rw [ferrymanlaw06_EventPlays_l19.eq_2, ferrymanlaw06_EventPlays_l19.eq_2]
    repeat' (first | with_reducible exact OLe.none | with_reducible exact OLe.some | with_reducible refine OLe.ite ?_ ?_ | with_reducible refine OLe.bind ?_ (fun _ => ?_) | exact ih | refine OLe.bind ?_ (fun _ => ?_) | refine OLe.ite ?_ ?_ | refine OLe.elim (fun _ => ?_) (fun _ => ?_) | split)
def ferrymanlaw06_EventPlays_l12 (a0 : Int) (a1 : (List ferrymanlaw06_Step)) : Nat → List api_Event → Int → Option ((Bool) ⊕ (Unit))
  | 0, _, _ => none
  | k + 1, x2244, x2248 => (if (decide (x2248 < (a1.length : Int))) = true then (if 0 ≤ x2248 ∧ x2248 < (a1.length : Int) then (Option.bind (α := Int) (if ((decide ((rd a1 x2248).What < (1 : Int))) || (decide ((rd a1 x2248).What > (3 : Int)))) = true then some ((3 : Int)) else some ((rd a1 x2248).What)) (fun x3376 => (if ([] : List api_Pair).length + ((rd a1 x2248).Answer.Pairs).length ≤ 4398046511104 then (Option.bind (ferrymanlaw06_Step_do_Z k (⟨x3376, (rd a1 x2248).Task, ⟨(rd a1 x2248).Answer.Err, (rd a1 x2248).Answer.Found, (rd a1 x2248).Answer.Value, (([] : List api_Pair) ++ (rd a1 x2248).Answer.Pairs)⟩⟩ : ferrymanlaw06_Step)) (fun t3397 => (Option.bind (ferrymanlaw06_EventPlays_l19 k (0 : Int) (([] : List api_Pair) ++ (rd a1 x2248).Answer.Pairs)) (fun _ => (Option.bind (ferrymanref06_Next k a0 x2244 x3376 ((rd a1 x2248).Task) ((rd a1 x2248).Answer)) (fun t3488 => (Option.bind (α := Int) (if ((decide ((rd a1 x2248).Task < (0 : Int))) || (decide ((rd a1 x2248).Task ≥ a0))) = true then some ((1 : Int)) else (Option.bind (α := Int) (if (!t3488.2) = true then some ((7 : Int)) else some ((0 : Int))) (fun x3516 => some (x3516)))) (fun x3511 => (Option.bind (α := Bool) (if (t3397 != x3511) = true then some (true) else (Option.bind (event_Recorder_Events_Z k ) (fun t3547 => (Option.bind (ferrymanref06_Same k t3547 t3488.1) (fun t3555 => some ((!t3555))))))) (fun x3544 => (if x3544 = true then some (.inl false) else (Option.bind (event_Recorder_Under_Z k ((rd a1 x2248).Task)) (fun t3562 => (Option.bind (ferrymanref06_Under k t3488.1 ((rd a1 x2248).Task)) (fun t3567 => (if (((t3562.1 != t3567.1) || (!(t3562.2.1 == t3567.2.1))) || (!(t3562.2.2 == t3567.2.2))) = true then some (.inl false) else (Option.bind (event_Recorder_Events_Z k ) (fun t3573 => (Option.bind (ferrymanlaw06_EventPlays_l22 t3573 k (0 : Int)) (fun _ => ferrymanlaw06_EventPlays_l12 a0 a1 k t3488.1 (IntKind.i64.wrap (x2248 + (1 : Int))))))))))))))))))))))) else none))) else none) else some (.inr ()))
set_option maxHeartbeats 2000000 in
theorem ferrymanlaw06_EventPlays_l12.mono {a0 : Int} {a1 : (List ferrymanlaw06_Step)} : ∀ {kl : Nat} {x0 x1}, OLe (ferrymanlaw06_EventPlays_l12 a0 a1 kl x0 x1) (ferrymanlaw06_EventPlays_l12 a0 a1 (kl + 1) x0 x1) := by
  intro kl
  induction kl with
  | zero => intros; exact OLe.none
  | succ kl ih =>
    intros
    rw [ferrymanlaw06_EventPlays_l12.eq_2, ferrymanlaw06_EventPlays_l12.eq_2]
    repeat' (first | with_reducible exact OLe.none | with_reducible exact OLe.some | with_reducible refine OLe.ite ?_ ?_ | with_reducible refine OLe.bind ?_ (fun _ => ?_) | with_reducible exact event_Recorder_Events_Z.mono | with_reducible exact event_Recorder_Under_Z.mono | with_reducible exact ferrymanlaw06_EventPlays_l19.mono | with_reducible exact ferrymanlaw06_EventPlays_l22.mono | with_reducible exact ferrymanlaw06_Step_do_Z.mono | with_reducible exact ferrymanref06_Next.mono | with_reducible exact ferrymanref06_Same.mono | with_reducible exact ferrymanref06_Under.mono | exact ih | refine OLe.bind ?_ (fun _ => ?_) | refine OLe.ite ?_ ?_ | refine OLe.elim (fun _ => ?_) (fun _ => ?_) | split)
def ferrymanlaw06_EventPlays_l49 (t8074 : (List api_Event)) (x8516 : Int) : Nat → Int → Option ((Unit))
  | 0, _ => none
  | k + 1, x8853 => (if 0 ≤ x8516 ∧ x8516 < (t8074.length : Int) then (if (decide (x8853 < (((rd t8074 x8516).Answer.Pairs).length : Int))) = true then (if 0 ≤ x8516 ∧ x8516 < (t8074.length : Int) then (if 0 ≤ x8853 ∧ x8853 < (((rd t8074 x8516).Answer.Pairs).length : Int) then ferrymanlaw06_EventPlays_l49 t8074 x8516 k (IntKind.i64.wrap (x8853 + (1 : Int))) else none) else none) else some ()) else none)
set_option maxHeartbeats 2000000 in
theorem ferrymanlaw06_EventPlays_l49.mono {t8074 : (List api_Event)} {x8516 : Int} : ∀ {kl : Nat} {x0}, OLe (ferrymanlaw06_EventPlays_l49 t8074 x8516 kl x0) (ferrymanlaw06_EventPlays_l49 t8074 x8516 (kl + 1) x0) := by
  intro kl
  induction kl with
  | zero => intros; exact OLe.none
  | succ kl ih =>
    intros
    rw [ferrymanlaw06_EventPlays_l49.eq_2, ferrymanlaw06_EventPlays_l49.eq_2]
    repeat' (first | with_reducible exact OLe.none | with_reducible exact OLe.some | with_reducible refine OLe.ite ?_ ?_ | with_reducible refine OLe.bind ?_ (fun _ => ?_) | exact ih | refine OLe.bind ?_ (fun _ => ?_) | refine OLe.ite ?_ ?_ | refine OLe.elim (fun _ => ?_) (fun _ => ?_) | split)
def ferrymanlaw06_EventPlays_l47 (t8074 : (List api_Event)) : Nat → Int → Option ((Unit))
  | 0, _ => none
  | k + 1, x8516 => (if (decide (x8516 < (t8074.length : Int))) = true then (if 0 ≤ x8516 ∧ x8516 < (t8074.length : Int) then (Option.bind (ferrymanlaw06_EventPlays_l49 t8074 x8516 k (0 : Int)) (fun _ => ferrymanlaw06_EventPlays_l47 t8074 k (IntKind.i64.wrap (x8516 + (1 : Int))))) else none) else some ())
set_option maxHeartbeats 2000000 in
theorem ferrymanlaw06_EventPlays_l47.mono {t8074 : (List api_Event)} : ∀ {kl : Nat} {x0}, OLe (ferrymanlaw06_EventPlays_l47 t8074 kl x0) (ferrymanlaw06_EventPlays_l47 t8074 (kl + 1) x0) := by
  intro kl
  induction kl with
  | zero => intros; exact OLe.none
  | succ kl ih =>
    intros
    rw [ferrymanlaw06_EventPlays_l47.eq_2, ferrymanlaw06_EventPlays_l47.eq_2]
    repeat' (first | with_reducible exact OLe.none | with_reducible exact OLe.some | with_reducible refine OLe.ite ?_ ?_ | with_reducible refine OLe.bind ?_ (fun _ => ?_) | with_reducible exact ferrymanlaw06_EventPlays_l49.mono | exact ih | refine OLe.bind ?_ (fun _ => ?_) | refine OLe.ite ?_ ?_ | refine OLe.elim (fun _ => ?_) (fun _ => ?_) | split)
def ferrymanlaw06_EventPlays_l44 : Nat → Int → List api_Pair → Option ((Unit))
  | 0, _, _ => none
  | k + 1, x7947, x7948 => (if (decide (x7947 < (x7948.length : Int))) = true then (if 0 ≤ x7947 ∧ x7947 < (x7948.length : Int) then (Option.bind (α := List api_Pair) (some (List.set x7948 x7947.toNat (⟨([115, 112, 111, 105, 108, 116] : Str), (rd x7948 x7947).Value⟩ : api_Pair))) (fun x7984 => ferrymanlaw06_EventPlays_l44 k (IntKind.i64.wrap (x7947 + (1 : Int))) x7984)) else none) else some ())
set_option maxHeartbeats 2000000 in
theorem ferrymanlaw06_EventPlays_l44.mono  : ∀ {kl : Nat} {x0 x1}, OLe (ferrymanlaw06_EventPlays_l44  kl x0 x1) (ferrymanlaw06_EventPlays_l44  (kl + 1) x0 x1) := by
  intro kl
  induction kl with
  | zero => intros; exact OLe.none
  | succ kl ih =>
    intros
    rw [ferrymanlaw06_EventPlays_l44.eq_2, ferrymanlaw06_EventPlays_l44.eq_2]
    repeat' (first | with_reducible exact OLe.none | with_reducible exact OLe.some | with_reducible refine OLe.ite ?_ ?_ | with_reducible refine OLe.bind ?_ (fun _ => ?_) | exact ih | refine OLe.bind ?_ (fun _ => ?_) | refine OLe.ite ?_ ?_ | refine OLe.elim (fun _ => ?_) (fun _ => ?_) | split)
def ferrymanlaw06_EventPlays_l37 (a0 : Int) (a1 : (List ferrymanlaw06_Step)) : Nat → List api_Event → Int → List event_task → List api_Event → Option ((Bool) ⊕ (Unit))
  | 0, _, _, _, _ => none
  | k + 1, x6725, x6729, x6730, x6734 => (if (decide (x6729 < (a1.length : Int))) = true then (if 0 ≤ x6729 ∧ x6729 < (a1.length : Int) then (Option.bind (α := Int) (if ((decide ((rd a1 x6729).What < (1 : Int))) || (decide ((rd a1 x6729).What > (3 : Int)))) = true then some ((3 : Int)) else some ((rd a1 x6729).What)) (fun x7871 => (if ([] : List api_Pair).length + ((rd a1 x6729).Answer.Pairs).length ≤ 4398046511104 then (Option.bind (ferrymanlaw06_Step_do_AO_POO k (⟨x7871, (rd a1 x6729).Task, ⟨(rd a1 x6729).Answer.Err, (rd a1 x6729).Answer.Found, (rd a1 x6729).Answer.Value, (([] : List api_Pair) ++ (rd a1 x6729).Answer.Pairs)⟩⟩ : ferrymanlaw06_Step) (⟨x6730, x6734⟩ : event_Recorder)) (fun t7892 => (Option.bind (ferrymanlaw06_EventPlays_l44 k (0 : Int) (([] : List api_Pair) ++ (rd a1 x6729).Answer.Pairs)) (fun _ => (Option.bind (ferrymanref06_Next k a0 x6725 x7871 ((rd a1 x6729).Task) ((rd a1 x6729).Answer)) (fun t7989 => (Option.bind (α := Int) (if ((decide ((rd a1 x6729).Task < (0 : Int))) || (decide ((rd a1 x6729).Task ≥ a0))) = true then some ((1 : Int)) else (Option.bind (α := Int) (if (!t7989.2) = true then some ((7 : Int)) else some ((0 : Int))) (fun x8017 => some (x8017)))) (fun x8012 => (Option.bind (α := Bool) (if (t7892.1 != x8012) = true then some (true) else (Option.bind (event_Recorder_Events_POO k t7892.2) (fun t8048 => (Option.bind (ferrymanref06_Same k t8048 t7989.1) (fun t8056 => some ((!t8056))))))) (fun x8045 => (if x8045 = true then some (.inl false) else (Option.bind (event_Recorder_Under_POO k t7892.2 ((rd a1 x6729).Task)) (fun t8063 => (Option.bind (ferrymanref06_Under k t7989.1 ((rd a1 x6729).Task)) (fun t8068 => (if (((t8063.1 != t8068.1) || (!(t8063.2.1 == t8068.2.1))) || (!(t8063.2.2 == t8068.2.2))) = true then some (.inl false) else (Option.bind (event_Recorder_Events_POO k t7892.2) (fun t8074 => (Option.bind (ferrymanlaw06_EventPlays_l47 t8074 k (0 : Int)) (fun _ => ferrymanlaw06_EventPlays_l37 a0 a1 k t7989.1 (IntKind.i64.wrap (x6729 + (1 : Int))) t7892.2.tasks t7892.2.l)))))))))))))))))))) else none))) else none) else some (.inr ()))
set_option maxHeartbeats 2000000 in
theorem ferrymanlaw06_EventPlays_l37.mono {a0 : Int} {a1 : (List ferrymanlaw06_Step)} : ∀ {kl : Nat} {x0 x1 x2 x3}, OLe (ferrymanlaw06_EventPlays_l37 a0 a1 kl x0 x1 x2 x3) (ferrymanlaw06_EventPlays_l37 a0 a1 (kl + 1) x0 x1 x2 x3) := by
  intro kl
  induction kl with
  | zero => intros; exact OLe.none
  | succ kl ih =>
    intros
    rw [ferrymanlaw06_EventPlays_l37.eq_2, ferrymanlaw06_EventPlays_l37.eq_2]
    repeat' (first | with_reducible exact OLe.none | with_reducible exact OLe.some | with_reducible refine OLe.ite ?_ ?_ | with_reducible refine OLe.bind ?_ (fun _ => ?_) | with_reducible exact event_Recorder_Events_POO.mono | with_reducible exact event_Recorder_Under_POO.mono | with_reducible exact ferrymanlaw06_EventPlays_l44.mono | with_reducible exact ferrymanlaw06_EventPlays_l47.mono | with_reducible exact ferrymanlaw06_Step_do_AO_POO.mono | with_reducible exact ferrymanref06_Next.mono | with_reducible exact ferrymanref06_Same.mono | with_reducible exact ferrymanref06_Under.mono | exact ih | refine OLe.bind ?_ (fun _ => ?_) | refine OLe.ite ?_ ?_ | refine OLe.elim (fun _ => ?_) (fun _ => ?_) | split)
def ferrymanlaw06_EventPlays (k : Nat) (a0 : Int) (a1 : (List ferrymanlaw06_Step)) : Option (Bool) :=
  (Option.bind (ferrymanlaw06_large k a1) (fun t1 => (if t1 = true then (Option.bind (ferrymanlaw06_works k ) (fun t5 => some t5)) else (Option.bind (event_New_v k a0) (fun t8 => (Sum.elim (fun t10 => (Option.bind (ferrymanref06_Legal k a0 ([] : (List api_Event))) (fun t15 => (if ((!(false == t15)) || true) = true then (Option.bind (ferrymanref06_Legal k a0 ([] : (List api_Event))) (fun t20 => (Option.bind (α := Bool) (if (true == (!t20)) = true then (Option.bind (ferrymanlaw06_works k ) (fun t32 => some (t32))) else some (false)) (fun x30 => some x30)))) else (Option.bind (ferrymanlaw06_EventPlays_l12 a0 a1 k ([] : List api_Event) (0 : Int)) (fun o3348o => Sum.elim (fun r' => some r') (fun _ => (Option.bind (ferrymanlaw06_works k ) (fun t4454 => some t4454))) o3348o)))))) (fun t11 => (Option.bind (ferrymanref06_Legal k a0 ([] : (List api_Event))) (fun t4468 => (if ((!(true == t4468)) || false) = true then (Option.bind (ferrymanref06_Legal k a0 ([] : (List api_Event))) (fun t4473 => (Option.bind (α := Bool) (if (false == (!t4473)) = true then (Option.bind (ferrymanlaw06_works k ) (fun t4485 => some (t4485))) else some (false)) (fun x4483 => some x4483)))) else (Option.bind (ferrymanlaw06_EventPlays_l37 a0 a1 k ([] : List api_Event) (0 : Int) t11.tasks t11.l) (fun o7843o => Sum.elim (fun r' => some r') (fun _ => (Option.bind (ferrymanlaw06_works k ) (fun t8955 => some t8955))) o7843o))))))) t8)))))
set_option maxHeartbeats 2000000 in
theorem ferrymanlaw06_EventPlays.mono {k : Nat} {a0 : Int} {a1 : (List ferrymanlaw06_Step)} : OLe (ferrymanlaw06_EventPlays k a0 a1) (ferrymanlaw06_EventPlays (k + 1) a0 a1) := by
  unfold ferrymanlaw06_EventPlays
  repeat' (first | with_reducible exact OLe.none | with_reducible exact OLe.some | with_reducible refine OLe.ite ?_ ?_ | with_reducible refine OLe.bind ?_ (fun _ => ?_) | with_reducible exact event_New_v.mono | with_reducible exact ferrymanlaw06_EventPlays_l12.mono | with_reducible exact ferrymanlaw06_EventPlays_l37.mono | with_reducible exact ferrymanlaw06_large.mono | with_reducible exact ferrymanlaw06_works.mono | with_reducible exact ferrymanref06_Legal.mono | refine OLe.bind ?_ (fun _ => ?_) | refine OLe.ite ?_ ?_ | refine OLe.elim (fun _ => ?_) (fun _ => ?_) | split)
set_option maxHeartbeats 8000000 in
set_option maxRecDepth 100000 in
theorem ferrymanlaw06_EventPlays.con (k : Nat) (M : Hp) (a0 : Int) (A1 : Option Addr) (c1 : Nat) (a1 : (List ferrymanlaw06_Step)) (r : Bool) (hr1 : SlR r_ferrymanlaw06_Step M (.slice A1 a1.length c1) a1) (h : ferrymanlaw06_EventPlays k a0 a1 = some r) : Con Try.prog 4 #[.int .i64 a0, .slice A1 a1.length c1] M [] (fun v M' Γ' => v = .bool r ∧ Γ' = []) := by
  refine con_of_wp Try.func4 rfl Try.ntmps4 Try.results4 rfl ?_
  intro w F rn S hrn
  have E := Ext.refl w
  have HM := Hp.le_refl M
  have H := h
  unfold ferrymanlaw06_EventPlays at H
  refine Wp_seq (Wp_region_lit (W_v (.bool false) (x_assign rfl) rfl (Wl_nil (tn (Wp_seq (Wp_seq (Wp_region_lit (W_v (.slice A1 a1.length c1) (x_move rfl) rfl ?_))))))))
  obtain ⟨t1, ht2, H⟩ := bindS H
  refine W_callF fn13 (ferrymanlaw06_large.con k M A1 c1 a1 t1 hr1 ht2) S rfl rfl (by rintro _ _ _ ⟨_, rfl⟩; exact flat_nil) ?_
  rintro _ w3 _ Γ' E' S ⟨rfl, rfl⟩
  replace E := E.trans E'
  refine Wl_nil (tn ?_)
  rcases iteS H with ⟨hb4, H⟩ | ⟨hb4, H⟩
  · refine Wp_cond_true (congrArg Value.bool hb4) ?_
    refine Wp_seq (Wp_region_lit ?_)
    obtain ⟨t5, ht6, H⟩ := bindS H
    refine W_callF fn10 (ferrymanlaw06_works.con k M  t5  ht6) S rfl rfl (by rintro _ _ _ ⟨_, rfl⟩; exact flat_nil) ?_
    rintro _ w7 _ Γ' E' S ⟨rfl, rfl⟩
    replace E := E.trans E'
    refine W_v (.bool t5) (x_assign rfl) rfl (Wl_nil (tn ?_))
    refine Wp_ret ?_
    refine tr (?_)
    obtain rfl := Option.some.inj H
    exact ⟨_, _, _, fun w1 e1 => run_resR (vs := [.bool t5]) (FA.cons (rfl) (FA.nil)), HM, E, S.pick [] (by decide), ⟨rfl, rfl⟩⟩
  refine Wp_cond_false (congrArg Value.bool hb4) (Wp_skip (tn (Wp_seq (Wp_region_lit (W_v (.int .i64 a0) (x_move rfl) rfl ?_)))))
  obtain ⟨t8, ht9, H⟩ := bindS H
  rcases t8 with t10 | t11
  · skip
    replace H := elimL H
    refine W_callF2 fn14 (event_New_v.con k M a0 (Sum.inl t10)  ht9) (Γ1 := []) (Γ2 := []) S rfl rfl (by rintro _ _ _ ⟨rfl, rfl⟩; exact flat_nil) ?_
    rintro _ w12 _ Γ' E' S ⟨rfl, rfl⟩
    replace E := E.trans E'
    replace S : St w12 M F [] := S
    refine W_v (.tuple #[.pointer none, .int .i64 1]) (x_move rfl) rfl (W_v (.pointer none) (x_extract rfl rfl) rfl (W_v (.int .i64 1) (x_extract rfl rfl) rfl (W_v (.pointer none) (x_assign rfl) rfl (W_v (.int .i64 1) (x_assign rfl) rfl (Wl_nil (tn (Wp_seq (Wp_seq (Wp_region_lit (W_v (.int .i64 1) (x_move rfl) rfl (W_v (.bool false) (x_ibin rfl rfl rfl rfl) rfl (W_v (.int .i64 a0) (x_move rfl) rfl ?_))))))))))))
    obtain ⟨t15, ht16, H⟩ := bindS H
    refine W_callF fn15 (ferrymanref06_Legal.con k M a0 none 0 ([] : (List api_Event)) t15 (SlW.nil _ _) ht16) S rfl rfl (by rintro _ _ _ ⟨_, rfl⟩; exact flat_nil) ?_
    rintro _ w17 _ Γ' E' S ⟨rfl, rfl⟩
    replace E := E.trans E'
    refine W_v (.bool (!(false == t15))) (x_bne Try.underlying4 rfl rfl) rfl (W_v (.bool (!(false == t15))) (x_move rfl) rfl ?_)
    refine Wl_cutN 3 (fun ρ w' => Agree ρ [(0, .int .i64 a0), (1, .slice A1 a1.length c1), (5, .pointer none), (6, .int .i64 1), (41, .bool ((!(false == t15)) || true))] ∧ w17 = w') ?_ ?_
    · rcases boolCases (!(false == t15)) with hb18 | hb18
      · skip
        refine W_yes (congrArg some hb18) (W_v (.int .i64 1) (x_move rfl) rfl (W_yes (congrArg some hb18) (W_v (.bool true) (x_ibin rfl rfl rfl rfl) rfl (W_v (.bool true) (x_pick (k := false) (congrArg Value.bool hb18) rfl) rfl (Wl_nil ?_)))))
        exact ⟨⟨rfl, rfl, rfl, rfl, (by first | rfl | (rw [hb18]; rfl) | (simp only [hb18]; rfl)), trivial⟩, rfl⟩
      · skip
        refine W_no (skF hb18) rfl (W_no (skF hb18) rfl (W_v (.bool true) (x_pick (k := true) (congrArg Value.bool hb18) rfl) rfl (Wl_nil ?_)))
        exact ⟨⟨rfl, rfl, rfl, rfl, (by first | rfl | (rw [hb18]; rfl) | (simp only [hb18]; rfl)), trivial⟩, rfl⟩
    as_aux_lemma =>
    rintro ρ _ ⟨hρ, rfl⟩
    rw [agree_eta hρ]
    refine Wl_nil (tn ?_)
    rcases iteS H with ⟨hb19, H⟩ | ⟨hb19, H⟩
    · refine Wp_cond_true (congrArg Value.bool hb19) ?_
      refine Wp_seq (Wp_region_lit (W_v (.int .i64 1) (x_move rfl) rfl (W_v (.bool true) (x_ibin rfl rfl rfl rfl) rfl (W_v (.bool true) (x_move rfl) rfl (W_yes (rfl) (W_v (.pointer none) (x_move rfl) rfl (W_yes (rfl) (W_v (.bool true) (x_eq_of (r := true) rfl rfl (run_eq_ptrnn Try.underlying36)) rfl (W_v (.bool true) (x_pick (k := true) rfl rfl) rfl (W_v (.int .i64 a0) (x_move rfl) rfl ?_))))))))))
      obtain ⟨t20, ht21, H⟩ := bindS H
      refine W_callF fn15 (ferrymanref06_Legal.con k M a0 none 0 ([] : (List api_Event)) t20 (SlW.nil _ _) ht21) S rfl rfl (by rintro _ _ _ ⟨_, rfl⟩; exact flat_nil) ?_
      rintro _ w22 _ Γ' E' S ⟨rfl, rfl⟩
      replace E := E.trans E'
      refine W_v (.bool (!t20)) (x_not (b := t20) rfl) rfl (W_v (.bool (true == (!t20))) (x_beq Try.underlying4 rfl rfl) rfl (W_v (.bool (true == (!t20))) (x_move rfl) rfl ?_))
      obtain ⟨o31, o31h, o31H⟩ := bindS H
      refine Wl_cutN 2 (fun ρ w' => ∃ (x30 : Bool), (x30) = o31 ∧ Agree ρ [(54, .bool x30)] ∧ Ext w w' ∧ St w' M F []) ?_ ?_
      · have H := o31h
        rcases iteS H with ⟨hb29, H⟩ | ⟨hb29, H⟩
        · skip
          refine W_yes (congrArg some hb29) ?_
          obtain ⟨t32, ht33, H⟩ := bindS H
          refine W_callF fn10 (ferrymanlaw06_works.con k M  t32  ht33) S rfl rfl (by rintro _ _ _ ⟨_, rfl⟩; exact flat_nil) ?_
          rintro _ w34 _ Γ' E' S ⟨rfl, rfl⟩
          replace E := E.trans E'
          refine W_v (.bool t32) (x_pick (k := true) (congrArg Value.bool hb29) rfl) rfl (Wl_nil ?_)
          exact ⟨t32, Option.some.inj H, ⟨rfl, trivial⟩, E, S.pick [] (by decide)⟩
        · skip
          refine W_no (skT hb29) rfl (W_v (.bool false) (x_pick (k := false) (congrArg Value.bool hb29) rfl) rfl (Wl_nil ?_))
          exact ⟨false, Option.some.inj H, ⟨rfl, trivial⟩, E, S.pick [] (by decide)⟩
      rintro ρ w35 ⟨x30, rfl, hρ, E, S⟩
      rw [agree_eta hρ]
      have H := o31H
      refine W_v (.bool x30) (x_assign rfl) rfl (Wl_nil (tn ?_))
      refine Wp_ret ?_
      refine tr (?_)
      obtain rfl := Option.some.inj H
      exact ⟨_, _, _, fun w1 e1 => run_resR (vs := [.bool x30]) (FA.cons (rfl) (FA.nil)), HM, E, S.pick [] (by decide), ⟨rfl, rfl⟩⟩
    refine Wp_cond_false (congrArg Value.bool hb19) (Wp_skip (tn ?_))
    as_aux_lemma =>
    refine Wp_seq (Wp_region_lit (W_v (.slice none 0 0) (x_assign rfl) rfl (Wl_nil (tn (Wp_seq (Wp_seq (Wp_region_lit (W_v (.int .i64 0) (x_assign rfl) rfl (Wl_nil (tn ?_))))))))))
    obtain ⟨o3348, o3348h, o3348H⟩ := bindS H
    refine Wp_blockJ (fun ρ w' => ∃ (Mj : Hp), .inr () = o3348 ∧ Agree ρ [] ∧ M.le Mj ∧ Ext w w' ∧ St w' Mj F []) ?_ ?_
    · skip
      refine Wp_loop (fun n ρ w' => ∃ (x2244 : List api_Event) (x2248 : Int) (A2245 : Option Addr) (c2246 : Nat) (Mj : Hp), ferrymanlaw06_EventPlays_l12 a0 a1 n x2244 x2248 = some o3348 ∧ Agree ρ [(0, .int .i64 a0), (1, .slice A1 a1.length c1), (5, .pointer none), (7, .slice A2245 x2244.length c2246), (8, .int .i64 x2248)] ∧ M.le Mj ∧ Ext w w' ∧ St w' Mj F [] ∧ SlR r_api_Event Mj (.slice A2245 x2244.length c2246) x2244) k ?_ ?_
      · skip
        exact ⟨([] : List api_Event), (0 : Int), none, 0, M, o3348h, ⟨rfl, rfl, rfl, rfl, rfl, trivial⟩, (Hp.le_refl M), E, S.pick [] (by decide), (SlW.nil _ _)⟩
      · intro n
        rintro ρ w3349 ⟨x2244, x2248, A2245, c2246, M3350, H, hρ, hM3351, E, S, hs2247⟩
        rw [agree_eta hρ]
        replace HM := Hp.le_trans HM hM3351
        replace hr1 := SlR.mono hr1 hM3351
        cases n with
        | zero => cases H
        | succ k =>
          rw [ferrymanlaw06_EventPlays_l12.eq_2] at H
          refine Wp_seq (Wp_seq (Wp_region_lit (W_v (.int .i64 x2248) (x_move rfl) rfl (W_v (.slice A1 a1.length c1) (x_move rfl) rfl (W_v (.int .i64 (a1.length : Int)) (x_len_slice (n := a1.length) Try.underlying34 rfl) rfl (W_v (.bool (decide (x2248 < (a1.length : Int)))) (x_ibin rfl rfl rfl rfl) rfl (Wl_nil (tn ?_))))))))
          rcases iteS H with ⟨hb3352, H⟩ | ⟨hb3352, H⟩
          · refine Wp_cond_true (congrArg Value.bool hb3352) ?_
            refine Wp_skip (tn (Wp_seq ?_))
            refine Wp_block ?_
            refine Wp_seq (Wp_region_lit (W_v (.slice A1 a1.length c1) (x_move rfl) rfl (W_v (.int .i64 x2248) (x_move rfl) rfl ?_)))
            obtain ⟨⟨p3353, p3354⟩, H⟩ := chkS H
            obtain ⟨b3355, o3356, cs3357, _, _, ee3362, hb3358, vs3359, hR3360, hc3361⟩ := SlW.at' hr1 p3353 p3354
            obtain ⟨v3366, hs3365, rfl⟩ := hR3360
            obtain ⟨A3363, c3364, rfl, _⟩ := hs3365.form
            refine W_v (.pointer (some ⟨b3355, o3356 + x2248.toNat * 6, none⟩)) (x_indexAddr Try.underlying34 ty40 (slA ee3362) rfl p3353 p3354) rfl (W_v (.agg #[.int .u8 ((rd a1 x2248).What), .int .i64 ((rd a1 x2248).Task), .int .i64 ((rd a1 x2248).Answer.Err), .bool ((rd a1 x2248).Answer.Found), .string (bs ((rd a1 x2248).Answer.Value)), .slice A3363 ((rd a1 x2248).Answer.Pairs).length c3364]) (x_loadA (S.frz hb3358) ty40 rfl (sub_el hc3361 0 rfl) rfl rfl) rfl ?_)
            refine W_alloc S #[.int .u8 0, .int .i64 0, .int .i64 0, .bool false, .string (bs ([] : Str)), .slice none 0 0] ty40 rfl rfl ?_
            intro b3367 w3368 E' S
            replace E := E.trans E'
            refine W_store S 0 rfl ty40 rfl rfl [.int .u8 ((rd a1 x2248).What), .int .i64 ((rd a1 x2248).Task), .int .i64 ((rd a1 x2248).Answer.Err), .bool ((rd a1 x2248).Answer.Found), .string (bs ((rd a1 x2248).Answer.Value)), .slice A3363 ((rd a1 x2248).Answer.Pairs).length c3364] rfl rfl rfl #[.int .u8 ((rd a1 x2248).What), .int .i64 ((rd a1 x2248).Task), .int .i64 ((rd a1 x2248).Answer.Err), .bool ((rd a1 x2248).Answer.Found), .string (bs ((rd a1 x2248).Answer.Value)), .slice A3363 ((rd a1 x2248).Answer.Pairs).length c3364] (by as_aux_lemma => kernel_rfl) rfl ?_
            intro w3370 E' S
            replace E := E.trans E'
            refine Wl_nil (tn (Wp_seq (Wp_seq (Wp_region_lit (W_v (pt b3367 0) (x_fieldAddr (o := 0) (off := 0) Try.underlying40 rfl ty5 rfl rfl) rfl (W_v (.int .u8 ((rd a1 x2248).What)) (x_load (S.blk 0 rfl) ty5 rfl rfl) rfl (W_v (.bool (decide ((rd a1 x2248).What < (1 : Int)))) (x_ibin rfl rfl rfl rfl) rfl (W_v (.bool (decide ((rd a1 x2248).What < (1 : Int)))) (x_move rfl) rfl ?_))))))))
            refine Wl_cutN 4 (fun ρ w' => Agree ρ [(0, .int .i64 a0), (1, .slice A1 a1.length c1), (5, .pointer none), (7, .slice A2245 x2244.length c2246), (8, .int .i64 x2248), (9, pt b3367 0), (72, .bool ((decide ((rd a1 x2248).What < (1 : Int))) || (decide ((rd a1 x2248).What > (3 : Int)))))] ∧ w3370 = w') ?_ ?_
            · rcases boolCases (decide ((rd a1 x2248).What < (1 : Int))) with hb3371 | hb3371
              · skip
                refine W_yes (congrArg some hb3371) (W_v (pt b3367 0) (x_fieldAddr (o := 0) (off := 0) Try.underlying40 rfl ty5 rfl rfl) rfl (W_yes (congrArg some hb3371) (W_v (.int .u8 ((rd a1 x2248).What)) (x_load (S.blk 0 rfl) ty5 rfl rfl) rfl (W_yes (congrArg some hb3371) (W_v (.bool (decide ((rd a1 x2248).What > (3 : Int)))) (x_ibin rfl rfl rfl rfl) rfl (W_v (.bool (decide ((rd a1 x2248).What > (3 : Int)))) (x_pick (k := false) (congrArg Value.bool hb3371) rfl) rfl (Wl_nil ?_)))))))
                exact ⟨⟨rfl, rfl, rfl, rfl, rfl, rfl, (by first | rfl | (rw [hb3371]; rfl) | (simp only [hb3371]; rfl)), trivial⟩, rfl⟩
              · skip
                refine W_no (skF hb3371) rfl (W_no (skF hb3371) rfl (W_no (skF hb3371) rfl (W_v (.bool true) (x_pick (k := true) (congrArg Value.bool hb3371) rfl) rfl (Wl_nil ?_))))
                exact ⟨⟨rfl, rfl, rfl, rfl, rfl, rfl, (by first | rfl | (rw [hb3371]; rfl) | (simp only [hb3371]; rfl)), trivial⟩, rfl⟩
            as_aux_lemma =>
            rintro ρ _ ⟨hρ, rfl⟩
            rw [agree_eta hρ]
            refine Wl_nil (tn ?_)
            obtain ⟨o3377, o3377h, o3377H⟩ := bindS H
            refine Wp_cut (fun ρ w' => ∃ (x3376 : Int), (x3376) = o3377 ∧ Agree ρ [(0, .int .i64 a0), (1, .slice A1 a1.length c1), (5, .pointer none), (7, .slice A2245 x2244.length c2246), (8, .int .i64 x2248), (9, pt b3367 0)] ∧ Ext w w' ∧ St w' M3350 F [Blk b3367 (.cells #[.int .u8 x3376, .int .i64 ((rd a1 x2248).Task), .int .i64 ((rd a1 x2248).Answer.Err), .bool ((rd a1 x2248).Answer.Found), .string (bs ((rd a1 x2248).Answer.Value)), .slice A3363 ((rd a1 x2248).Answer.Pairs).length c3364] 40 (0, 0))]) ?_ ?_
            · clear o3377H
              have H := o3377h
              rcases iteS H with ⟨hb3378, H⟩ | ⟨hb3378, H⟩
              · refine Wp_cond_true (congrArg Value.bool hb3378) ?_
                refine Wp_region_lit (W_v (pt b3367 0) (x_fieldAddr (o := 0) (off := 0) Try.underlying40 rfl ty5 rfl rfl) rfl ?_)
                refine W_store S 0 rfl ty5 rfl rfl [.int .u8 3] rfl rfl rfl #[.int .u8 3, .int .i64 ((rd a1 x2248).Task), .int .i64 ((rd a1 x2248).Answer.Err), .bool ((rd a1 x2248).Answer.Found), .string (bs ((rd a1 x2248).Answer.Value)), .slice A3363 ((rd a1 x2248).Answer.Pairs).length c3364] rfl rfl ?_
                intro w3379 E' S
                replace E := E.trans E'
                refine Wl_nil (tn ?_)
                exact ⟨(3 : Int), Option.some.inj H, ⟨rfl, rfl, rfl, rfl, rfl, rfl, trivial⟩, E, S.pick [0] (by decide)⟩
              refine Wp_cond_false (congrArg Value.bool hb3378) (Wp_skip (tn ?_))
              exact ⟨((rd a1 x2248).What), Option.some.inj H, ⟨rfl, rfl, rfl, rfl, rfl, rfl, trivial⟩, E, S.pick [0] (by decide)⟩
            as_aux_lemma =>
            rintro ρ w3380 ⟨x3376, rfl, hρ, E, S⟩
            rw [agree_eta hρ]
            have H := o3377H
            refine tn (Wp_seq (Wp_region_lit (W_v (.agg #[.int .u8 x3376, .int .i64 ((rd a1 x2248).Task), .int .i64 ((rd a1 x2248).Answer.Err), .bool ((rd a1 x2248).Answer.Found), .string (bs ((rd a1 x2248).Answer.Value)), .slice A3363 ((rd a1 x2248).Answer.Pairs).length c3364]) (x_loadA (S.blk 0 rfl) ty40 rfl (sub_of_extract rfl) rfl rfl) rfl ?_)))
            refine W_alloc S #[.int .u8 0, .int .i64 0, .int .i64 0, .bool false, .string (bs ([] : Str)), .slice none 0 0] ty40 rfl rfl ?_
            intro b3381 w3382 E' S
            replace E := E.trans E'
            refine W_store S 0 rfl ty40 rfl rfl [.int .u8 x3376, .int .i64 ((rd a1 x2248).Task), .int .i64 ((rd a1 x2248).Answer.Err), .bool ((rd a1 x2248).Answer.Found), .string (bs ((rd a1 x2248).Answer.Value)), .slice A3363 ((rd a1 x2248).Answer.Pairs).length c3364] rfl rfl rfl #[.int .u8 x3376, .int .i64 ((rd a1 x2248).Task), .int .i64 ((rd a1 x2248).Answer.Err), .bool ((rd a1 x2248).Answer.Found), .string (bs ((rd a1 x2248).Answer.Value)), .slice A3363 ((rd a1 x2248).Answer.Pairs).length c3364] (by as_aux_lemma => kernel_rfl) rfl ?_
            intro w3384 E' S
            replace E := E.trans E'
            refine Wl_nil (tn (Wp_seq (Wp_region_lit ?_)))
            refine W_bslice S #[] Try.underlying28 ty43 rfl rfl #[] (by as_aux_lemma => kernel_rfl) (by as_aux_lemma => kernel_rfl) rfl ?_
            intro b3385 w3386 E' S
            replace E := E.trans E'
            replace S := S.blk_row (r := r_api_Pair) (l := ([] : List api_Pair)) 0 rfl 0 (Nat.le_refl 0) rfl Cells.nil
            refine W_v (pt b3367 2) (x_fieldAddr (o := 0) (off := 2) Try.underlying40 rfl ty30 rfl rfl) rfl (W_v (pt b3367 5) (x_fieldAddr (o := 2) (off := 3) Try.underlying30 rfl ty28 rfl rfl) rfl (W_v (.slice A3363 ((rd a1 x2248).Answer.Pairs).length c3364) (x_load (S.blk 2 rfl) ty28 rfl rfl) rfl ?_))
            obtain ⟨p3388, H⟩ := chkS H
            obtain ⟨src3389, hs3390, hC3391⟩ := src_of_read (P := Try.prog) (ρ := r_api_Pair) (l := (rd a1 x2248).Answer.Pairs) (SlR.world hs3365 S) (by decide)
            refine W_append S 0 rfl rfl rfl Try.underlying28 (.inl Try.underlying28) ty43 rfl (by decide) (by decide) hs3390 hC3391 rfl (by omega) rfl ?_
            intro v3392 w3393 E' S
            replace E := E.trans E'
            obtain ⟨A3394, c3395, rfl, _⟩ := (S.row_read 0 rfl).form
            refine W_v (pt b3381 2) (x_fieldAddr (o := 0) (off := 2) Try.underlying40 rfl ty30 rfl rfl) rfl (W_v (pt b3381 5) (x_fieldAddr (o := 2) (off := 3) Try.underlying30 rfl ty28 rfl rfl) rfl ?_)
            refine W_store S 1 rfl ty28 rfl rfl [.slice A3394 (([] : List api_Pair) ++ (rd a1 x2248).Answer.Pairs).length c3395] rfl rfl rfl #[.int .u8 x3376, .int .i64 ((rd a1 x2248).Task), .int .i64 ((rd a1 x2248).Answer.Err), .bool ((rd a1 x2248).Answer.Found), .string (bs ((rd a1 x2248).Answer.Value)), .slice A3394 (([] : List api_Pair) ++ (rd a1 x2248).Answer.Pairs).length c3395] rfl rfl ?_
            intro w3396 E' S
            replace E := E.trans E'
            refine Wl_nil (tn (Wp_seq (Wp_region_lit (W_v (.agg #[.int .u8 x3376, .int .i64 ((rd a1 x2248).Task), .int .i64 ((rd a1 x2248).Answer.Err), .bool ((rd a1 x2248).Answer.Found), .string (bs ((rd a1 x2248).Answer.Value)), .slice A3394 (([] : List api_Pair) ++ (rd a1 x2248).Answer.Pairs).length c3395]) (x_loadA (S.blk 1 rfl) ty40 rfl (sub_of_extract rfl) rfl rfl) rfl (W_v (.pointer none) (x_move rfl) rfl ?_)))))
            obtain ⟨t3397, ht3398, H⟩ := bindS H
            refine W_callLF fn16 (fun h9 hs9 hd9 => ferrymanlaw06_Step_do_Z.con k _ A3394 c3395 (⟨x3376, (rd a1 x2248).Task, ⟨(rd a1 x2248).Answer.Err, (rd a1 x2248).Answer.Found, (rd a1 x2248).Answer.Value, (([] : List api_Pair) ++ (rd a1 x2248).Answer.Pairs)⟩⟩ : ferrymanlaw06_Step) t3397 (Sats.row hs9 hd9 0 rfl) ht3398) (Δ := [Row r_api_Pair 43 (.slice A3394 (([] : List api_Pair) ++ (rd a1 x2248).Answer.Pairs).length c3395) (([] : List api_Pair) ++ (rd a1 x2248).Answer.Pairs)]) (Γ1 := []) (Γ2 := [_, _]) S rfl rfl (by rintro _ _ _ ⟨rfl, rfl⟩; exact flat_nil) ?_
            rintro _ w3399 _ Γ' E' S ⟨rfl, rfl⟩
            replace E := E.trans E'
            replace S : St w3399 M3350 F [_, _, _] := S
            refine W_v (.int .i64 t3397) (x_assign rfl) rfl (Wl_nil (tn ?_))
            as_aux_lemma =>
            refine Wp_seq (Wp_seq (Wp_region_lit (W_v (.int .i64 0) (x_assign rfl) rfl (Wl_nil (tn ?_)))))
            obtain ⟨o3468, o3468h, o3468H⟩ := bindS H
            refine Wp_blockJ (fun ρ w' => () = o3468 ∧ Agree ρ [(0, .int .i64 a0), (1, .slice A1 a1.length c1), (5, .pointer none), (7, .slice A2245 x2244.length c2246), (8, .int .i64 x2248), (9, pt b3367 0), (11, .int .i64 t3397)] ∧ Ext w w' ∧ St w' M3350 F [Blk b3367 (.cells #[.int .u8 x3376, .int .i64 ((rd a1 x2248).Task), .int .i64 ((rd a1 x2248).Answer.Err), .bool ((rd a1 x2248).Answer.Found), .string (bs ((rd a1 x2248).Answer.Value)), .slice A3363 ((rd a1 x2248).Answer.Pairs).length c3364] 40 (0, 0))]) ?_ ?_
            · skip
              refine Wp_loop (fun n ρ w' => ∃ (x3446 : Int) (x3447 : List api_Pair) (A3448 : Option Addr) (c3449 : Nat), ferrymanlaw06_EventPlays_l19 n x3446 x3447 = some o3468 ∧ Agree ρ [(0, .int .i64 a0), (1, .slice A1 a1.length c1), (5, .pointer none), (7, .slice A2245 x2244.length c2246), (8, .int .i64 x2248), (9, pt b3367 0), (10, pt b3381 0), (11, .int .i64 t3397), (12, .int .i64 x3446)] ∧ Ext w w' ∧ St w' M3350 F [Row r_api_Pair 43 (.slice A3448 x3447.length c3449) x3447, Blk b3381 (.cells #[.int .u8 x3376, .int .i64 ((rd a1 x2248).Task), .int .i64 ((rd a1 x2248).Answer.Err), .bool ((rd a1 x2248).Answer.Found), .string (bs ((rd a1 x2248).Answer.Value)), .slice A3448 x3447.length c3449] 40 (0, 0)), Blk b3367 (.cells #[.int .u8 x3376, .int .i64 ((rd a1 x2248).Task), .int .i64 ((rd a1 x2248).Answer.Err), .bool ((rd a1 x2248).Answer.Found), .string (bs ((rd a1 x2248).Answer.Value)), .slice A3363 ((rd a1 x2248).Answer.Pairs).length c3364] 40 (0, 0))]) k ?_ ?_
              · skip
                exact ⟨(0 : Int), (([] : List api_Pair) ++ (rd a1 x2248).Answer.Pairs), A3394, c3395, o3468h, ⟨rfl, rfl, rfl, rfl, rfl, rfl, rfl, rfl, rfl, trivial⟩, E, S.pick [0, 1, 2] (by decide)⟩
              · intro n
                rintro ρ w3469 ⟨x3446, x3447, A3448, c3449, H, hρ, E, S⟩
                rw [agree_eta hρ]
                cases n with
                | zero => cases H
                | succ k =>
                  rw [ferrymanlaw06_EventPlays_l19.eq_2] at H
                  refine Wp_seq (Wp_seq (Wp_region_lit (W_v (.int .i64 x3446) (x_move rfl) rfl (W_v (pt b3381 2) (x_fieldAddr (o := 0) (off := 2) Try.underlying40 rfl ty30 rfl rfl) rfl (W_v (pt b3381 5) (x_fieldAddr (o := 2) (off := 3) Try.underlying30 rfl ty28 rfl rfl) rfl (W_v (.slice A3448 x3447.length c3449) (x_load (S.blk 1 rfl) ty28 rfl rfl) rfl (W_v (.int .i64 (x3447.length : Int)) (x_len_slice (n := x3447.length) Try.underlying28 rfl) rfl (W_v (.bool (decide (x3446 < (x3447.length : Int)))) (x_ibin rfl rfl rfl rfl) rfl (Wl_nil (tn ?_))))))))))
                  rcases iteS H with ⟨hb3470, H⟩ | ⟨hb3470, H⟩
                  · refine Wp_cond_true (congrArg Value.bool hb3470) ?_
                    refine Wp_skip (tn (Wp_seq ?_))
                    refine Wp_block ?_
                    refine Wp_region_lit (W_v (pt b3381 2) (x_fieldAddr (o := 0) (off := 2) Try.underlying40 rfl ty30 rfl rfl) rfl (W_v (pt b3381 5) (x_fieldAddr (o := 2) (off := 3) Try.underlying30 rfl ty28 rfl rfl) rfl (W_v (.slice A3448 x3447.length c3449) (x_load (S.blk 1 rfl) ty28 rfl rfl) rfl (W_v (.int .i64 x3446) (x_move rfl) rfl ?_))))
                    obtain ⟨⟨p3471, p3472⟩, H⟩ := chkS H
                    obtain ⟨b3473, o3474, cs3475, _, _, ee3480, hb3476, vs3477, hR3478, hc3479⟩ := SlW.at' (S.row_read 0 rfl) p3471 p3472
                    obtain rfl : vs3477 = _ := hR3478
                    refine W_v (.pointer (some ⟨b3473, o3474 + x3446.toNat * 2, none⟩)) (x_indexAddr Try.underlying28 ty43 (slA ee3480) rfl p3471 p3472) rfl (W_v (.pointer (some ⟨b3473, o3474 + x3446.toNat * 2, none⟩)) (x_fieldAddr (o := o3474 + x3446.toNat * 2) (off := 0) Try.underlying43 rfl ty9 rfl rfl) rfl ?_)
                    obtain ⟨x3483, he3484, H⟩ := bindS H
                    replace he3484 := Option.some.inj he3484
                    refine W_rowstore S 0 rfl rfl ee3480 (by first | exact p3471 | simpa using p3471) (by first | exact p3472 | simpa using p3472) 0 ty9 rfl rfl [.string (bs ([115, 112, 111, 105, 108, 116] : Str))] rfl rfl rfl rfl (⟨([115, 112, 111, 105, 108, 116] : Str), (rd x3447 x3446).Value⟩ : api_Pair) (by rintro _ rfl; rfl) he3484 ?_
                    intro w3482 E' S
                    replace E := E.trans E'
                    have hs3485 : Value.slice A3448 x3447.length c3449 = Value.slice A3448 x3483.length c3449 := by rw [← he3484, List.length_set]
                    try rw [hs3485] at S
                    try rw [hs3485]
                    have p3486 : x3446 < (x3483.length : Int) := by rw [← he3484, List.length_set]; exact p3472
                    refine Wl_nil (bn (tn (Wp_region_lit (W_v (.int .i64 x3446) (x_move rfl) rfl (W_v (.int .i64 (IntKind.i64.wrap (x3446 + (1 : Int)))) (x_ibin rfl rfl rfl rfl) rfl (W_v (.int .i64 (IntKind.i64.wrap (x3446 + (1 : Int)))) (x_assign rfl) rfl (Wl_nil (tn ?_))))))))
                    exact ⟨k, Nat.lt_succ_self k, ⟨(IntKind.i64.wrap (x3446 + (1 : Int))), x3483, A3448, c3449, H, ⟨rfl, rfl, rfl, rfl, rfl, rfl, rfl, rfl, rfl, trivial⟩, E, S.pick [0, 1, 2] (by decide)⟩⟩
                  refine Wp_cond_false (congrArg Value.bool hb3470) ?_
                  refine Wp_exit ?_
                  refine tx (tx (bsm (?_)))
                  refine tn ?_
                  exact ⟨Option.some.inj H, ⟨rfl, rfl, rfl, rfl, rfl, rfl, rfl, trivial⟩, E, S.pick [2] (by decide)⟩
            rintro ρ w3487 ⟨rfl, hρ, E, S⟩
            rw [agree_eta hρ]
            have H := o3468H
            refine tn ?_
            as_aux_lemma =>
            refine Wp_seq (Wp_region_lit (W_v (.int .i64 a0) (x_move rfl) rfl (W_v (.slice A2245 x2244.length c2246) (x_move rfl) rfl (W_v (pt b3367 0) (x_fieldAddr (o := 0) (off := 0) Try.underlying40 rfl ty5 rfl rfl) rfl (W_v (.int .u8 x3376) (x_load (S.blk 0 rfl) ty5 rfl rfl) rfl (W_v (pt b3367 1) (x_fieldAddr (o := 0) (off := 1) Try.underlying40 rfl ty3 rfl rfl) rfl (W_v (.int .i64 ((rd a1 x2248).Task)) (x_load (S.blk 0 rfl) ty3 rfl rfl) rfl (W_v (pt b3367 2) (x_fieldAddr (o := 0) (off := 2) Try.underlying40 rfl ty30 rfl rfl) rfl (W_v (.agg #[.int .i64 ((rd a1 x2248).Answer.Err), .bool ((rd a1 x2248).Answer.Found), .string (bs ((rd a1 x2248).Answer.Value)), .slice A3363 ((rd a1 x2248).Answer.Pairs).length c3364]) (x_loadA (S.blk 0 rfl) ty30 rfl (sub_of_extract rfl) rfl rfl) rfl ?_)))))))))
            obtain ⟨t3488, ht3489, H⟩ := bindS H
            refine W_call fn17 (ferrymanref06_Next.con k M3350 a0 A2245 c2246 x2244 x3376 ((rd a1 x2248).Task) A3363 c3364 ((rd a1 x2248).Answer) t3488 hs2247 hs3365 ht3489) (Γ1 := []) (Γ2 := [_]) S rfl rfl ?_
            rintro _ w3493 M3494 Γ' hM3495 E' S ⟨A3490, c3491, rfl, hs3492, rfl⟩
            replace HM := Hp.le_trans HM hM3495
            replace hM3351 := Hp.le_trans hM3351 hM3495
            replace hr1 := SlR.mono hr1 hM3495
            replace hs2247 := SlR.mono hs2247 hM3495
            replace hb3358 := hM3495 _ _ hb3358
            replace hs3365 := SlR.mono hs3365 hM3495
            replace E := E.trans E'
            refine W_v (.tuple #[.slice A3490 t3488.1.length c3491, .bool t3488.2]) (x_move rfl) rfl (W_v (.slice A3490 t3488.1.length c3491) (x_extract rfl rfl) rfl (W_v (.bool t3488.2) (x_extract rfl rfl) rfl (W_v (.slice A3490 t3488.1.length c3491) (x_assign rfl) rfl (W_v (.bool t3488.2) (x_assign rfl) rfl (Wl_nil (tn (Wp_seq (Wp_region_lit (W_v (.int .i64 0) (x_assign rfl) rfl (Wl_nil (tn (Wp_seq (Wp_seq (Wp_region_lit (W_v (pt b3367 1) (x_fieldAddr (o := 0) (off := 1) Try.underlying40 rfl ty3 rfl rfl) rfl ?_)))))))))))))))
            refine W_v (.int .i64 ((rd a1 x2248).Task)) (x_load (S.blk 0 rfl) ty3 rfl rfl) rfl (W_v (.bool (decide ((rd a1 x2248).Task < (0 : Int)))) (x_ibin rfl rfl rfl rfl) rfl (W_v (.bool (decide ((rd a1 x2248).Task < (0 : Int)))) (x_move rfl) rfl ?_))
            refine Wl_cutN 5 (fun ρ w' => Agree ρ [(0, .int .i64 a0), (1, .slice A1 a1.length c1), (5, .pointer none), (8, .int .i64 x2248), (9, pt b3367 0), (11, .int .i64 t3397), (13, .slice A3490 t3488.1.length c3491), (14, .bool t3488.2), (15, .int .i64 0), (119, .bool ((decide ((rd a1 x2248).Task < (0 : Int))) || (decide ((rd a1 x2248).Task ≥ a0))))] ∧ w3493 = w') ?_ ?_
            · rcases boolCases (decide ((rd a1 x2248).Task < (0 : Int))) with hb3496 | hb3496
              · skip
                refine W_yes (congrArg some hb3496) (W_v (pt b3367 1) (x_fieldAddr (o := 0) (off := 1) Try.underlying40 rfl ty3 rfl rfl) rfl (W_yes (congrArg some hb3496) (W_v (.int .i64 ((rd a1 x2248).Task)) (x_load (S.blk 0 rfl) ty3 rfl rfl) rfl (W_yes (congrArg some hb3496) (W_v (.int .i64 a0) (x_move rfl) rfl (W_yes (congrArg some hb3496) (W_v (.bool (decide ((rd a1 x2248).Task ≥ a0))) (x_ibin rfl rfl rfl rfl) rfl (W_v (.bool (decide ((rd a1 x2248).Task ≥ a0))) (x_pick (k := false) (congrArg Value.bool hb3496) rfl) rfl (Wl_nil ?_)))))))))
                exact ⟨⟨rfl, rfl, rfl, rfl, rfl, rfl, rfl, rfl, rfl, (by first | rfl | (rw [hb3496]; rfl) | (simp only [hb3496]; rfl)), trivial⟩, rfl⟩
              · skip
                refine W_no (skF hb3496) rfl (W_no (skF hb3496) rfl (W_no (skF hb3496) rfl (W_no (skF hb3496) rfl (W_v (.bool true) (x_pick (k := true) (congrArg Value.bool hb3496) rfl) rfl (Wl_nil ?_)))))
                exact ⟨⟨rfl, rfl, rfl, rfl, rfl, rfl, rfl, rfl, rfl, (by first | rfl | (rw [hb3496]; rfl) | (simp only [hb3496]; rfl)), trivial⟩, rfl⟩
            as_aux_lemma =>
            rintro ρ _ ⟨hρ, rfl⟩
            rw [agree_eta hρ]
            refine Wl_nil (tn ?_)
            obtain ⟨o3512, o3512h, o3512H⟩ := bindS H
            refine Wp_cut (fun ρ w' => ∃ (x3511 : Int), (x3511) = o3512 ∧ Agree ρ [(0, .int .i64 a0), (1, .slice A1 a1.length c1), (5, .pointer none), (8, .int .i64 x2248), (9, pt b3367 0), (11, .int .i64 t3397), (13, .slice A3490 t3488.1.length c3491), (15, .int .i64 x3511)] ∧ Ext w w' ∧ St w' M3494 F [Blk b3367 (.cells #[.int .u8 x3376, .int .i64 ((rd a1 x2248).Task), .int .i64 ((rd a1 x2248).Answer.Err), .bool ((rd a1 x2248).Answer.Found), .string (bs ((rd a1 x2248).Answer.Value)), .slice A3363 ((rd a1 x2248).Answer.Pairs).length c3364] 40 (0, 0))]) ?_ ?_
            · clear o3512H
              have H := o3512h
              rcases iteS H with ⟨hb3513, H⟩ | ⟨hb3513, H⟩
              · refine Wp_cond_true (congrArg Value.bool hb3513) ?_
                refine Wp_region_lit (W_v (.int .i64 1) (x_assign rfl) rfl (Wl_nil (tn ?_)))
                exact ⟨(1 : Int), Option.some.inj H, ⟨rfl, rfl, rfl, rfl, rfl, rfl, rfl, rfl, trivial⟩, E, S.pick [0] (by decide)⟩
              refine Wp_cond_false (congrArg Value.bool hb3513) (Wp_seq (Wp_region_lit (W_v (.bool t3488.2) (x_move rfl) rfl (W_v (.bool (!t3488.2)) (x_not (b := t3488.2) rfl) rfl (Wl_nil (tn ?_))))))
              obtain ⟨o3517, o3517h, o3517H⟩ := bindS H
              refine Wp_cut (fun ρ w' => ∃ (x3516 : Int), (x3516) = o3517 ∧ Agree ρ [(0, .int .i64 a0), (1, .slice A1 a1.length c1), (5, .pointer none), (8, .int .i64 x2248), (9, pt b3367 0), (11, .int .i64 t3397), (13, .slice A3490 t3488.1.length c3491), (15, .int .i64 x3516)] ∧ Ext w w' ∧ St w' M3494 F [Blk b3367 (.cells #[.int .u8 x3376, .int .i64 ((rd a1 x2248).Task), .int .i64 ((rd a1 x2248).Answer.Err), .bool ((rd a1 x2248).Answer.Found), .string (bs ((rd a1 x2248).Answer.Value)), .slice A3363 ((rd a1 x2248).Answer.Pairs).length c3364] 40 (0, 0))]) ?_ ?_
              · clear o3517H
                have H := o3517h
                rcases iteS H with ⟨hb3518, H⟩ | ⟨hb3518, H⟩
                · refine Wp_cond_true (congrArg Value.bool hb3518) ?_
                  refine Wp_region_lit (W_v (.int .i64 7) (x_assign rfl) rfl (Wl_nil (tn ?_)))
                  exact ⟨(7 : Int), Option.some.inj H, ⟨rfl, rfl, rfl, rfl, rfl, rfl, rfl, rfl, trivial⟩, E, S.pick [0] (by decide)⟩
                refine Wp_cond_false (congrArg Value.bool hb3518) (Wp_skip (tn ?_))
                exact ⟨(0 : Int), Option.some.inj H, ⟨rfl, rfl, rfl, rfl, rfl, rfl, rfl, rfl, trivial⟩, E, S.pick [0] (by decide)⟩
              rintro ρ w3519 ⟨x3516, rfl, hρ, E, S⟩
              rw [agree_eta hρ]
              have H := o3517H
              refine tn ?_
              exact ⟨x3516, Option.some.inj H, ⟨rfl, rfl, rfl, rfl, rfl, rfl, rfl, rfl, trivial⟩, E, S.pick [0] (by decide)⟩
            as_aux_lemma =>
            rintro ρ w3520 ⟨x3511, rfl, hρ, E, S⟩
            rw [agree_eta hρ]
            have H := o3512H
            refine tn (Wp_seq (Wp_region_lit (W_v (.slice A3490 t3488.1.length c3491) (x_move rfl) rfl (W_v (.slice A3490 t3488.1.length c3491) (x_assign rfl) rfl (Wl_nil (tn (Wp_seq (Wp_seq (Wp_region_lit (W_v (.int .i64 t3397) (x_move rfl) rfl (W_v (.int .i64 x3511) (x_move rfl) rfl (W_v (.bool (t3397 != x3511)) (x_ibin rfl rfl rfl rfl) rfl (W_v (.bool (t3397 != x3511)) (x_move rfl) rfl ?_)))))))))))))
            obtain ⟨o3545, o3545h, o3545H⟩ := bindS H
            refine Wl_cutN 6 (fun ρ w' => ∃ (x3544 : Bool) (Mj : Hp), (x3544) = o3545 ∧ Agree ρ [(0, .int .i64 a0), (1, .slice A1 a1.length c1), (5, .pointer none), (7, .slice A3490 t3488.1.length c3491), (8, .int .i64 x2248), (9, pt b3367 0), (132, .bool x3544)] ∧ M3494.le Mj ∧ Ext w w' ∧ St w' Mj F [Blk b3367 (.cells #[.int .u8 x3376, .int .i64 ((rd a1 x2248).Task), .int .i64 ((rd a1 x2248).Answer.Err), .bool ((rd a1 x2248).Answer.Found), .string (bs ((rd a1 x2248).Answer.Value)), .slice A3363 ((rd a1 x2248).Answer.Pairs).length c3364] 40 (0, 0))]) ?_ ?_
            · as_aux_lemma =>
                have H := o3545h
                have LE3546 := Hp.le_refl M3494
                rcases iteS H with ⟨hb3543, H⟩ | ⟨hb3543, H⟩
                · skip
                  refine W_no (skF hb3543) rfl (W_no (skF hb3543) rfl (W_no (skF hb3543) rfl (W_no (skF hb3543) rfl (W_no (skF hb3543) rfl (W_v (.bool true) (x_pick (k := true) (congrArg Value.bool hb3543) rfl) rfl (Wl_nil ?_))))))
                  exact ⟨true, M3494, Option.some.inj H, ⟨rfl, rfl, rfl, rfl, rfl, rfl, rfl, trivial⟩, (Hp.le_refl M3494), E, S.pick [0] (by decide)⟩
                · skip
                  refine W_yes (congrArg some hb3543) (W_v (.pointer none) (x_move rfl) rfl (W_yes (congrArg some hb3543) ?_))
                  obtain ⟨t3547, ht3548, H⟩ := bindS H
                  refine W_call fn19 (event_Recorder_Events_Z.con k M3494  t3547  ht3548) (Γ1 := []) (Γ2 := [_]) S rfl rfl ?_
                  rintro _ w3552 M3553 Γ' hM3554 E' S ⟨A3549, c3550, rfl, rfl⟩
                  replace HM := Hp.le_trans HM hM3554
                  replace hM3351 := Hp.le_trans hM3351 hM3554
                  replace LE3546 := Hp.le_trans LE3546 hM3554
                  replace hr1 := SlR.mono hr1 hM3554
                  replace hs2247 := SlR.mono hs2247 hM3554
                  replace hb3358 := hM3554 _ _ hb3358
                  replace hs3365 := SlR.mono hs3365 hM3554
                  replace hs3492 := SlR.mono hs3492 hM3554
                  replace E := E.trans E'
                  replace S : St w3552 M3553 F [_, _] := S
                  refine W_yes (congrArg some hb3543) (W_v (.slice A3490 t3488.1.length c3491) (x_move rfl) rfl (W_yes (congrArg some hb3543) ?_))
                  obtain ⟨t3555, ht3556, H⟩ := bindS H
                  refine W_callN 1 fn18 (fun h9 hs9 hd9 => ferrymanref06_Same.con k _ A3549 c3550 t3547 A3490 c3491 t3488.1 t3555 (SlW.wk (r := r_api_Event) (Sats.nst hs9 hd9 0 rfl)) (SlR.mono hs3492 (Hp.le_union_left _ _)) ht3556) S rfl rfl (by rintro _ _ _ ⟨_, rfl⟩; exact flat_nil) ?_
                  rintro _ w3557 _ Γ' E' S ⟨rfl, rfl⟩
                  replace E := E.trans E'
                  refine W_yes (congrArg some hb3543) (W_v (.bool (!t3555)) (x_not (b := t3555) rfl) rfl (W_v (.bool (!t3555)) (x_pick (k := false) (congrArg Value.bool hb3543) rfl) rfl (Wl_nil ?_)))
                  exact ⟨(!t3555), M3553, Option.some.inj H, ⟨rfl, rfl, rfl, rfl, rfl, rfl, rfl, trivial⟩, LE3546, E, S.pick [1] (by decide)⟩
            as_aux_lemma =>
            rintro ρ w3558 ⟨x3544, M3559, rfl, hρ, hM3560, E, S⟩
            rw [agree_eta hρ]
            replace HM := Hp.le_trans HM hM3560
            replace hM3351 := Hp.le_trans hM3351 hM3560
            replace hr1 := SlR.mono hr1 hM3560
            replace hs2247 := SlR.mono hs2247 hM3560
            replace hb3358 := hM3560 _ _ hb3358
            replace hs3365 := SlR.mono hs3365 hM3560
            replace hs3492 := SlR.mono hs3492 hM3560
            have H := o3545H
            refine Wl_nil (tn ?_)
            rcases iteS H with ⟨hb3561, H⟩ | ⟨hb3561, H⟩
            · refine Wp_cond_true (congrArg Value.bool hb3561) ?_
              refine Wp_seq (Wp_region_lit (W_v (.bool false) (x_assign rfl) rfl (Wl_nil (tn ?_))))
              refine Wp_ret ?_
              refine tr (br (tr (tr (br (tr (tr (?_)))))))
              obtain rfl := Option.some.inj H
              have H := o3348H
              replace H := elimL H
              obtain rfl := Option.some.inj H
              exact ⟨_, _, _, fun w1 e1 => run_resR (vs := [.bool false]) (FA.cons (rfl) (FA.nil)), HM, E, S.pick [] (by decide), ⟨rfl, rfl⟩⟩
            refine Wp_cond_false (congrArg Value.bool hb3561) (Wp_skip (tn (Wp_seq (Wp_region_lit (W_v (.pointer none) (x_move rfl) rfl (W_v (pt b3367 1) (x_fieldAddr (o := 0) (off := 1) Try.underlying40 rfl ty3 rfl rfl) rfl (W_v (.int .i64 ((rd a1 x2248).Task)) (x_load (S.blk 0 rfl) ty3 rfl rfl) rfl ?_)))))))
            obtain ⟨t3562, ht3563, H⟩ := bindS H
            refine W_callF2 fn20 (event_Recorder_Under_Z.con k M3559 ((rd a1 x2248).Task) t3562  ht3563) (Γ1 := []) (Γ2 := [_]) S rfl rfl (by rintro _ _ _ ⟨rfl, rfl⟩; exact flat_nil) ?_
            rintro _ w3564 _ Γ' E' S ⟨rfl, rfl⟩
            replace E := E.trans E'
            replace S : St w3564 M3559 F [_] := S
            refine W_v (.tuple #[.int .i64 t3562.1, .bool t3562.2.1, .bool t3562.2.2]) (x_move rfl) rfl (W_v (.int .i64 t3562.1) (x_extract rfl rfl) rfl (W_v (.bool t3562.2.1) (x_extract rfl rfl) rfl (W_v (.bool t3562.2.2) (x_extract rfl rfl) rfl (W_v (.int .i64 t3562.1) (x_assign rfl) rfl (W_v (.bool t3562.2.1) (x_assign rfl) rfl (W_v (.bool t3562.2.2) (x_assign rfl) rfl (Wl_nil (tn ?_))))))))
            as_aux_lemma =>
            refine Wp_seq (Wp_region_lit (W_v (.slice A3490 t3488.1.length c3491) (x_move rfl) rfl (W_v (pt b3367 1) (x_fieldAddr (o := 0) (off := 1) Try.underlying40 rfl ty3 rfl rfl) rfl (W_v (.int .i64 ((rd a1 x2248).Task)) (x_load (S.blk 0 rfl) ty3 rfl rfl) rfl ?_))))
            obtain ⟨t3567, ht3568, H⟩ := bindS H
            refine W_callF fn21 (ferrymanref06_Under.con k M3559 A3490 c3491 t3488.1 ((rd a1 x2248).Task) t3567 hs3492 ht3568) S rfl rfl (by rintro _ _ _ ⟨_, rfl⟩; exact flat_nil) ?_
            rintro _ w3569 _ Γ' E' S ⟨rfl, rfl⟩
            replace E := E.trans E'
            refine W_v (.tuple #[.int .i64 t3567.1, .bool t3567.2.1, .bool t3567.2.2]) (x_move rfl) rfl (W_v (.int .i64 t3567.1) (x_extract rfl rfl) rfl (W_v (.bool t3567.2.1) (x_extract rfl rfl) rfl (W_v (.bool t3567.2.2) (x_extract rfl rfl) rfl (W_v (.int .i64 t3567.1) (x_assign rfl) rfl (W_v (.bool t3567.2.1) (x_assign rfl) rfl (W_v (.bool t3567.2.2) (x_assign rfl) rfl (Wl_nil (tn (Wp_seq (Wp_seq (Wp_region_lit (W_v (.int .i64 t3562.1) (x_move rfl) rfl (W_v (.int .i64 t3567.1) (x_move rfl) rfl (W_v (.bool (t3562.1 != t3567.1)) (x_ibin rfl rfl rfl rfl) rfl (W_v (.bool (t3562.1 != t3567.1)) (x_move rfl) rfl ?_)))))))))))))))
            refine Wl_cutN 4 (fun ρ w' => Agree ρ [(0, .int .i64 a0), (1, .slice A1 a1.length c1), (5, .pointer none), (7, .slice A3490 t3488.1.length c3491), (8, .int .i64 x2248), (18, .bool t3562.2.2), (21, .bool t3567.2.2), (156, .bool ((t3562.1 != t3567.1) || (!(t3562.2.1 == t3567.2.1))))] ∧ w3569 = w') ?_ ?_
            · rcases boolCases (t3562.1 != t3567.1) with hb3570 | hb3570
              · skip
                refine W_yes (congrArg some hb3570) (W_v (.bool t3562.2.1) (x_move rfl) rfl (W_yes (congrArg some hb3570) (W_v (.bool t3567.2.1) (x_move rfl) rfl (W_yes (congrArg some hb3570) (W_v (.bool (!(t3562.2.1 == t3567.2.1))) (x_bne Try.underlying4 rfl rfl) rfl (W_v (.bool (!(t3562.2.1 == t3567.2.1))) (x_pick (k := false) (congrArg Value.bool hb3570) rfl) rfl (Wl_nil ?_)))))))
                exact ⟨⟨rfl, rfl, rfl, rfl, rfl, rfl, rfl, (by first | rfl | (rw [hb3570]; rfl) | (simp only [hb3570]; rfl)), trivial⟩, rfl⟩
              · skip
                refine W_no (skF hb3570) rfl (W_no (skF hb3570) rfl (W_no (skF hb3570) rfl (W_v (.bool true) (x_pick (k := true) (congrArg Value.bool hb3570) rfl) rfl (Wl_nil ?_))))
                exact ⟨⟨rfl, rfl, rfl, rfl, rfl, rfl, rfl, (by first | rfl | (rw [hb3570]; rfl) | (simp only [hb3570]; rfl)), trivial⟩, rfl⟩
            as_aux_lemma =>
            rintro ρ _ ⟨hρ, rfl⟩
            rw [agree_eta hρ]
            refine W_v (.bool ((t3562.1 != t3567.1) || (!(t3562.2.1 == t3567.2.1)))) (x_move rfl) rfl ?_
            refine Wl_cutN 4 (fun ρ w' => Agree ρ [(0, .int .i64 a0), (1, .slice A1 a1.length c1), (5, .pointer none), (7, .slice A3490 t3488.1.length c3491), (8, .int .i64 x2248), (161, .bool (((t3562.1 != t3567.1) || (!(t3562.2.1 == t3567.2.1))) || (!(t3562.2.2 == t3567.2.2))))] ∧ w3569 = w') ?_ ?_
            · rcases boolCases ((t3562.1 != t3567.1) || (!(t3562.2.1 == t3567.2.1))) with hb3571 | hb3571
              · skip
                refine W_yes (congrArg some hb3571) (W_v (.bool t3562.2.2) (x_move rfl) rfl (W_yes (congrArg some hb3571) (W_v (.bool t3567.2.2) (x_move rfl) rfl (W_yes (congrArg some hb3571) (W_v (.bool (!(t3562.2.2 == t3567.2.2))) (x_bne Try.underlying4 rfl rfl) rfl (W_v (.bool (!(t3562.2.2 == t3567.2.2))) (x_pick (k := false) (congrArg Value.bool hb3571) rfl) rfl (Wl_nil ?_)))))))
                exact ⟨⟨rfl, rfl, rfl, rfl, rfl, (by first | rfl | (rw [hb3571]; rfl) | (simp only [hb3571]; rfl)), trivial⟩, rfl⟩
              · skip
                refine W_no (skF hb3571) rfl (W_no (skF hb3571) rfl (W_no (skF hb3571) rfl (W_v (.bool true) (x_pick (k := true) (congrArg Value.bool hb3571) rfl) rfl (Wl_nil ?_))))
                exact ⟨⟨rfl, rfl, rfl, rfl, rfl, (by first | rfl | (rw [hb3571]; rfl) | (simp only [hb3571]; rfl)), trivial⟩, rfl⟩
            as_aux_lemma =>
            rintro ρ _ ⟨hρ, rfl⟩
            rw [agree_eta hρ]
            refine Wl_nil (tn ?_)
            rcases iteS H with ⟨hb3572, H⟩ | ⟨hb3572, H⟩
            · refine Wp_cond_true (congrArg Value.bool hb3572) ?_
              refine Wp_seq (Wp_region_lit (W_v (.bool false) (x_assign rfl) rfl (Wl_nil (tn ?_))))
              refine Wp_ret ?_
              refine tr (br (tr (tr (br (tr (tr (?_)))))))
              obtain rfl := Option.some.inj H
              have H := o3348H
              replace H := elimL H
              obtain rfl := Option.some.inj H
              exact ⟨_, _, _, fun w1 e1 => run_resR (vs := [.bool false]) (FA.cons (rfl) (FA.nil)), HM, E, S.pick [] (by decide), ⟨rfl, rfl⟩⟩
            refine Wp_cond_false (congrArg Value.bool hb3572) (Wp_skip (tn (Wp_seq (Wp_region_lit (W_v (.pointer none) (x_move rfl) rfl ?_)))))
            obtain ⟨t3573, ht3574, H⟩ := bindS H
            refine W_call fn19 (event_Recorder_Events_Z.con k M3559  t3573  ht3574) (Γ1 := []) (Γ2 := [_]) S rfl rfl ?_
            rintro _ w3578 M3579 Γ' hM3580 E' S ⟨A3575, c3576, rfl, rfl⟩
            replace HM := Hp.le_trans HM hM3580
            replace hM3351 := Hp.le_trans hM3351 hM3580
            replace hM3560 := Hp.le_trans hM3560 hM3580
            replace hr1 := SlR.mono hr1 hM3580
            replace hs2247 := SlR.mono hs2247 hM3580
            replace hb3358 := hM3580 _ _ hb3358
            replace hs3365 := SlR.mono hs3365 hM3580
            replace hs3492 := SlR.mono hs3492 hM3580
            replace E := E.trans E'
            replace S : St w3578 M3579 F [_, _] := S
            refine W_v (.slice A3575 t3573.length c3576) (x_assign rfl) rfl (Wl_nil (tn (Wp_seq (Wp_region_lit (W_v (.int .i64 0) (x_assign rfl) rfl (Wl_nil (tn ?_)))))))
            replace S := S.nst_nss 0 rfl get_api_Event
            replace S : St w3578 M3579 F [_, _] := S
            obtain ⟨o4232, o4232h, o4232H⟩ := bindS H
            refine Wp_blockJ (fun ρ w' => () = o4232 ∧ Agree ρ [(0, .int .i64 a0), (1, .slice A1 a1.length c1), (5, .pointer none), (7, .slice A3490 t3488.1.length c3491), (8, .int .i64 x2248)] ∧ Ext w w' ∧ St w' M3579 F []) ?_ ?_
            · skip
              refine Wp_loop (fun n ρ w' => ∃ (x4015 : Int), ferrymanlaw06_EventPlays_l22 t3573 n x4015 = some o4232 ∧ Agree ρ [(0, .int .i64 a0), (1, .slice A1 a1.length c1), (5, .pointer none), (7, .slice A3490 t3488.1.length c3491), (8, .int .i64 x2248), (22, .slice A3575 t3573.length c3576), (23, .int .i64 x4015)] ∧ Ext w w' ∧ St w' M3579 F [Nss rw_api_Event get_api_Event 32 (.slice A3575 t3573.length c3576) t3573]) k ?_ ?_
              · skip
                exact ⟨(0 : Int), o4232h, ⟨rfl, rfl, rfl, rfl, rfl, rfl, rfl, trivial⟩, E, S.pick [0] (by decide)⟩
              · intro n
                rintro ρ w4233 ⟨x4015, H, hρ, E, S⟩
                rw [agree_eta hρ]
                cases n with
                | zero => cases H
                | succ k =>
                  rw [ferrymanlaw06_EventPlays_l22.eq_2] at H
                  refine Wp_seq (Wp_seq (Wp_region_lit (W_v (.int .i64 x4015) (x_move rfl) rfl (W_v (.slice A3575 t3573.length c3576) (x_move rfl) rfl (W_v (.int .i64 (t3573.length : Int)) (x_len_slice (n := t3573.length) Try.underlying22 rfl) rfl (W_v (.bool (decide (x4015 < (t3573.length : Int)))) (x_ibin rfl rfl rfl rfl) rfl (Wl_nil (tn ?_))))))))
                  rcases iteS H with ⟨hb4234, H⟩ | ⟨hb4234, H⟩
                  · refine Wp_cond_true (congrArg Value.bool hb4234) ?_
                    refine Wp_skip (tn (Wp_seq ?_))
                    refine Wp_block ?_
                    refine Wp_seq (Wp_region_lit (W_v (.slice A3575 t3573.length c3576) (x_move rfl) rfl (W_v (.int .i64 x4015) (x_move rfl) rfl ?_)))
                    obtain ⟨⟨p4235, p4236⟩, H⟩ := chkS H
                    obtain ⟨l4245, sh4246, So4247⟩ := S.nss_open 0 rfl
                    have p4248 : x4015 < (l4245.length : Int) := by rw [sh4246.1]; exact p4236
                    obtain ⟨b4237, o4238, cs4239, _, _, ee4244, hb4240, vs4241, hR4242, hc4243⟩ := SlW.at' (So4247.nst_read 0 rfl) p4235 p4248
                    obtain ⟨v4249, hs4250, hq4251, _⟩ := led_api_Event.led hR4242
                    obtain ⟨A4252, c4253, rfl, _⟩ := hs4250.form
                    have hn4254 := sh4246.at p4235 p4236
                    rw [hn4254] at hq4251
                    refine W_v (.pointer (some ⟨b4237, o4238 + x4015.toNat * 7, none⟩)) (x_indexAddr Try.underlying22 ty32 (slA ee4244) rfl p4235 p4236) rfl (W_v (.pointer (some ⟨b4237, o4238 + x4015.toNat * 7 + 1, none⟩)) (x_fieldAddr (o := o4238 + x4015.toNat * 7) (off := 1) Try.underlying32 rfl ty3 rfl rfl) rfl ?_)
                    refine W_nssstore S 0 rfl rfl ee4244 p4235 p4236 1 ty3 rfl rfl [.int .i64 (-7)] rfl rfl rfl rfl (fun x => (⟨x.What, (-7 : Int), x.Call, ⟨x.Answer.Err, x.Answer.Found, x.Answer.Value, x.Answer.Pairs⟩⟩ : api_Event)) (by rintro _ x _ ⟨_, h, rfl⟩; exact ⟨_, h, rfl⟩) (fun _ => rfl) ?_
                    intro w4255 E' S
                    replace E := E.trans E'
                    replace S : St w4255 M3579 F [_] := S
                    refine Wl_nil (tn (Wp_seq (Wp_region_lit (W_v (.int .i64 0) (x_assign rfl) rfl (Wl_nil (tn ?_))))))
                    obtain ⟨o4400, o4400h, o4400H⟩ := bindS H
                    refine Wp_blockJ (fun ρ w' => () = o4400 ∧ Agree ρ [(0, .int .i64 a0), (1, .slice A1 a1.length c1), (5, .pointer none), (7, .slice A3490 t3488.1.length c3491), (8, .int .i64 x2248), (22, .slice A3575 t3573.length c3576), (23, .int .i64 x4015)] ∧ Ext w w' ∧ St w' M3579 F [Nss rw_api_Event get_api_Event 32 (.slice A3575 t3573.length c3576) t3573]) ?_ ?_
                    · skip
                      refine Wp_loop (fun n ρ w' => ∃ (x4352 : Int), ferrymanlaw06_EventPlays_l24 t3573 x4015 n x4352 = some o4400 ∧ Agree ρ [(0, .int .i64 a0), (1, .slice A1 a1.length c1), (5, .pointer none), (7, .slice A3490 t3488.1.length c3491), (8, .int .i64 x2248), (22, .slice A3575 t3573.length c3576), (23, .int .i64 x4015), (24, .int .i64 x4352)] ∧ Ext w w' ∧ St w' M3579 F [Nss rw_api_Event get_api_Event 32 (.slice A3575 t3573.length c3576) t3573]) k ?_ ?_
                      · skip
                        exact ⟨(0 : Int), o4400h, ⟨rfl, rfl, rfl, rfl, rfl, rfl, rfl, rfl, trivial⟩, E, S.pick [0] (by decide)⟩
                      · intro n
                        rintro ρ w4401 ⟨x4352, H, hρ, E, S⟩
                        rw [agree_eta hρ]
                        cases n with
                        | zero => cases H
                        | succ k =>
                          rw [ferrymanlaw06_EventPlays_l24.eq_2] at H
                          refine Wp_seq (Wp_seq (Wp_region_lit (W_v (.int .i64 x4352) (x_move rfl) rfl (W_v (.slice A3575 t3573.length c3576) (x_move rfl) rfl (W_v (.int .i64 x4015) (x_move rfl) rfl ?_)))))
                          obtain ⟨⟨p4402, p4403⟩, H⟩ := chkS H
                          obtain ⟨l4412, sh4413, So4414⟩ := S.nss_open 0 rfl
                          have p4415 : x4015 < (l4412.length : Int) := by rw [sh4413.1]; exact p4403
                          obtain ⟨b4404, o4405, cs4406, _, _, ee4411, hb4407, vs4408, hR4409, hc4410⟩ := SlW.at' (So4414.nst_read 0 rfl) p4402 p4415
                          obtain ⟨v4416, hs4417, hq4418, _⟩ := led_api_Event.led hR4409
                          obtain ⟨A4419, c4420, rfl, _⟩ := hs4417.form
                          have hn4421 := sh4413.at p4402 p4403
                          rw [hn4421] at hq4418
                          refine W_v (.pointer (some ⟨b4404, o4405 + x4015.toNat * 7, none⟩)) (x_indexAddr Try.underlying22 ty32 (slA ee4411) rfl p4402 p4403) rfl (W_v (.pointer (some ⟨b4404, o4405 + x4015.toNat * 7 + 3, none⟩)) (x_fieldAddr (o := o4405 + x4015.toNat * 7) (off := 3) Try.underlying32 rfl ty30 rfl rfl) rfl (W_v (.pointer (some ⟨b4404, o4405 + x4015.toNat * 7 + 3 + 3, none⟩)) (x_fieldAddr (o := o4405 + x4015.toNat * 7 + 3) (off := 3) Try.underlying30 rfl ty28 rfl rfl) rfl (W_v (.slice A4419 ((rd t3573 x4015).Answer.Pairs).length c4420) (x_load (Hp.of_get hb4407) ty28 rfl (hc4410 6 _ hq4418)) rfl (W_v (.int .i64 (((rd t3573 x4015).Answer.Pairs).length : Int)) (x_len_slice (n := ((rd t3573 x4015).Answer.Pairs).length) Try.underlying28 rfl) rfl (W_v (.bool (decide (x4352 < (((rd t3573 x4015).Answer.Pairs).length : Int)))) (x_ibin rfl rfl rfl rfl) rfl (Wl_nil (tn ?_)))))))
                          rcases iteS H with ⟨hb4422, H⟩ | ⟨hb4422, H⟩
                          · refine Wp_cond_true (congrArg Value.bool hb4422) ?_
                            refine Wp_skip (tn (Wp_seq ?_))
                            refine Wp_block ?_
                            refine Wp_region_lit (W_v (.slice A3575 t3573.length c3576) (x_move rfl) rfl (W_v (.int .i64 x4015) (x_move rfl) rfl ?_))
                            obtain ⟨⟨p4423, p4424⟩, H⟩ := chkS H
                            obtain ⟨l4433, sh4434, So4435⟩ := S.nss_open 0 rfl
                            have p4436 : x4015 < (l4433.length : Int) := by rw [sh4434.1]; exact p4424
                            obtain ⟨b4425, o4426, cs4427, _, _, ee4432, hb4428, vs4429, hR4430, hc4431⟩ := SlW.at' (So4435.nst_read 0 rfl) p4423 p4436
                            obtain ⟨v4437, hs4438, hq4439, _⟩ := led_api_Event.led hR4430
                            obtain ⟨A4440, c4441, rfl, _⟩ := hs4438.form
                            have hn4442 := sh4434.at p4423 p4424
                            rw [hn4442] at hq4439
                            refine W_v (.pointer (some ⟨b4425, o4426 + x4015.toNat * 7, none⟩)) (x_indexAddr Try.underlying22 ty32 (slA ee4432) rfl p4423 p4424) rfl (W_v (.pointer (some ⟨b4425, o4426 + x4015.toNat * 7 + 3, none⟩)) (x_fieldAddr (o := o4426 + x4015.toNat * 7) (off := 3) Try.underlying32 rfl ty30 rfl rfl) rfl (W_v (.pointer (some ⟨b4425, o4426 + x4015.toNat * 7 + 3 + 3, none⟩)) (x_fieldAddr (o := o4426 + x4015.toNat * 7 + 3) (off := 3) Try.underlying30 rfl ty28 rfl rfl) rfl (W_v (.slice A4440 ((rd t3573 x4015).Answer.Pairs).length c4441) (x_load (Hp.of_get hb4428) ty28 rfl (hc4431 6 _ hq4439)) rfl (W_v (.int .i64 x4352) (x_move rfl) rfl ?_))))
                            obtain ⟨⟨p4443, p4444⟩, H⟩ := chkS H
                            obtain ⟨b4445, o4446, _, _, _, ee4447, _⟩ := SlW.at' (i := x4352) hs4438.r p4443 (by rw [hn4442]; exact p4444)
                            refine W_v (.pointer (some ⟨b4445, o4446 + x4352.toNat * 2, none⟩)) (x_indexAddr Try.underlying28 ty43 (slA ee4447) rfl p4443 p4444) rfl (W_v (.pointer (some ⟨b4445, o4446 + x4352.toNat * 2, none⟩)) (x_fieldAddr (o := o4446 + x4352.toNat * 2) (off := 0) Try.underlying43 rfl ty9 rfl rfl) rfl ?_)
                            refine W_nssin So4435 0 rfl sh4434 rfl ee4432 p4423 p4436 led_api_Event txt_api_Pair hb4428 (hc4431 6 _ hq4439) (by decide) ee4447 p4443 p4444 0 rfl ty9 rfl ([115, 112, 111, 105, 108, 116] : Str) rfl ?_
                            intro w4448 E' S
                            replace E := E.trans E'
                            replace S : St w4448 M3579 F [_] := S
                            refine Wl_nil (bn (tn (Wp_region_lit (W_v (.int .i64 x4352) (x_move rfl) rfl (W_v (.int .i64 (IntKind.i64.wrap (x4352 + (1 : Int)))) (x_ibin rfl rfl rfl rfl) rfl (W_v (.int .i64 (IntKind.i64.wrap (x4352 + (1 : Int)))) (x_assign rfl) rfl (Wl_nil (tn ?_))))))))
                            exact ⟨k, Nat.lt_succ_self k, ⟨(IntKind.i64.wrap (x4352 + (1 : Int))), H, ⟨rfl, rfl, rfl, rfl, rfl, rfl, rfl, rfl, trivial⟩, E, S.pick [0] (by decide)⟩⟩
                          refine Wp_cond_false (congrArg Value.bool hb4422) ?_
                          refine Wp_exit ?_
                          refine tx (tx (bsm (?_)))
                          refine tn ?_
                          exact ⟨Option.some.inj H, ⟨rfl, rfl, rfl, rfl, rfl, rfl, rfl, trivial⟩, E, S.pick [0] (by decide)⟩
                    rintro ρ w4449 ⟨rfl, hρ, E, S⟩
                    rw [agree_eta hρ]
                    have H := o4400H
                    refine bn (tn (Wp_region_lit (W_v (.int .i64 x4015) (x_move rfl) rfl (W_v (.int .i64 (IntKind.i64.wrap (x4015 + (1 : Int)))) (x_ibin rfl rfl rfl rfl) rfl (W_v (.int .i64 (IntKind.i64.wrap (x4015 + (1 : Int)))) (x_assign rfl) rfl (Wl_nil (tn ?_)))))))
                    exact ⟨k, Nat.lt_succ_self k, ⟨(IntKind.i64.wrap (x4015 + (1 : Int))), H, ⟨rfl, rfl, rfl, rfl, rfl, rfl, rfl, trivial⟩, E, S.pick [0] (by decide)⟩⟩
                  refine Wp_cond_false (congrArg Value.bool hb4234) ?_
                  refine Wp_exit ?_
                  refine tx (tx (bsm (?_)))
                  refine tn ?_
                  exact ⟨Option.some.inj H, ⟨rfl, rfl, rfl, rfl, rfl, trivial⟩, E, S.pick [] (by decide)⟩
            rintro ρ w4450 ⟨rfl, hρ, E, S⟩
            rw [agree_eta hρ]
            have H := o4232H
            refine bn (tn (Wp_region_lit (W_v (.int .i64 x2248) (x_move rfl) rfl (W_v (.int .i64 (IntKind.i64.wrap (x2248 + (1 : Int)))) (x_ibin rfl rfl rfl rfl) rfl (W_v (.int .i64 (IntKind.i64.wrap (x2248 + (1 : Int)))) (x_assign rfl) rfl (Wl_nil (tn ?_)))))))
            exact ⟨k, Nat.lt_succ_self k, ⟨t3488.1, (IntKind.i64.wrap (x2248 + (1 : Int))), A3490, c3491, M3579, H, ⟨rfl, rfl, rfl, rfl, rfl, trivial⟩, hM3351, E, S.pick [] (by decide), hs3492⟩⟩
          refine Wp_cond_false (congrArg Value.bool hb3352) ?_
          refine Wp_exit ?_
          refine tx (tx (bsm (?_)))
          refine tn ?_
          exact ⟨M3350, Option.some.inj H, trivial, hM3351, E, S.pick [] (by decide)⟩
    rintro ρ w4451 ⟨M4452, rfl, hρ, hM4453, E, S⟩
    rw [agree_eta hρ]
    replace HM := Hp.le_trans HM hM4453
    replace hr1 := SlR.mono hr1 hM4453
    have H := o3348H
    replace H := elimR H
    refine tn ?_
    as_aux_lemma =>
    refine Wp_seq (Wp_region_lit ?_)
    obtain ⟨t4454, ht4455, H⟩ := bindS H
    refine W_callF fn10 (ferrymanlaw06_works.con k M4452  t4454  ht4455) S rfl rfl (by rintro _ _ _ ⟨_, rfl⟩; exact flat_nil) ?_
    rintro _ w4456 _ Γ' E' S ⟨rfl, rfl⟩
    replace E := E.trans E'
    refine W_v (.bool t4454) (x_assign rfl) rfl (Wl_nil (tn ?_))
    refine Wp_ret ?_
    obtain rfl := Option.some.inj H
    exact ⟨_, _, _, fun w1 e1 => run_resR (vs := [.bool t4454]) (FA.cons (rfl) (FA.nil)), HM, E, S.pick [] (by decide), ⟨rfl, rfl⟩⟩
  · skip
    replace H := elimR H
    refine W_call fn14 (event_New_v.con k M a0 (Sum.inr t11)  ht9) (Γ1 := []) (Γ2 := []) S rfl rfl ?_
    rintro _ w4465 M4466 Γ' hM4467 E' S ⟨b4457, A4459, c4460, A4462, c4463, rfl, rfl⟩
    replace HM := Hp.le_trans HM hM4467
    replace hr1 := SlR.mono hr1 hM4467
    replace E := E.trans E'
    replace S : St w4465 M4466 F [_, _, _] := S
    refine W_v (.tuple #[pt b4457 0, .int .i64 0]) (x_move rfl) rfl (W_v (pt b4457 0) (x_extract rfl rfl) rfl (W_v (.int .i64 0) (x_extract rfl rfl) rfl (W_v (pt b4457 0) (x_assign rfl) rfl (W_v (.int .i64 0) (x_assign rfl) rfl (Wl_nil (tn (Wp_seq (Wp_seq (Wp_region_lit (W_v (.int .i64 0) (x_move rfl) rfl (W_v (.bool true) (x_ibin rfl rfl rfl rfl) rfl (W_v (.int .i64 a0) (x_move rfl) rfl ?_))))))))))))
    obtain ⟨t4468, ht4469, H⟩ := bindS H
    refine W_callF fn15 (ferrymanref06_Legal.con k M4466 a0 none 0 ([] : (List api_Event)) t4468 (SlW.nil _ _) ht4469) S rfl rfl (by rintro _ _ _ ⟨_, rfl⟩; exact flat_nil) ?_
    rintro _ w4470 _ Γ' E' S ⟨rfl, rfl⟩
    replace E := E.trans E'
    refine W_v (.bool (!(true == t4468))) (x_bne Try.underlying4 rfl rfl) rfl (W_v (.bool (!(true == t4468))) (x_move rfl) rfl ?_)
    refine Wl_cutN 3 (fun ρ w' => Agree ρ [(0, .int .i64 a0), (1, .slice A1 a1.length c1), (5, pt b4457 0), (6, .int .i64 0), (41, .bool ((!(true == t4468)) || false))] ∧ w4470 = w') ?_ ?_
    · rcases boolCases (!(true == t4468)) with hb4471 | hb4471
      · skip
        refine W_yes (congrArg some hb4471) (W_v (.int .i64 0) (x_move rfl) rfl (W_yes (congrArg some hb4471) (W_v (.bool false) (x_ibin rfl rfl rfl rfl) rfl (W_v (.bool false) (x_pick (k := false) (congrArg Value.bool hb4471) rfl) rfl (Wl_nil ?_)))))
        exact ⟨⟨rfl, rfl, rfl, rfl, (by first | rfl | (rw [hb4471]; rfl) | (simp only [hb4471]; rfl)), trivial⟩, rfl⟩
      · skip
        refine W_no (skF hb4471) rfl (W_no (skF hb4471) rfl (W_v (.bool true) (x_pick (k := true) (congrArg Value.bool hb4471) rfl) rfl (Wl_nil ?_)))
        exact ⟨⟨rfl, rfl, rfl, rfl, (by first | rfl | (rw [hb4471]; rfl) | (simp only [hb4471]; rfl)), trivial⟩, rfl⟩
    as_aux_lemma =>
    rintro ρ _ ⟨hρ, rfl⟩
    rw [agree_eta hρ]
    refine Wl_nil (tn ?_)
    rcases iteS H with ⟨hb4472, H⟩ | ⟨hb4472, H⟩
    · refine Wp_cond_true (congrArg Value.bool hb4472) ?_
      refine Wp_seq (Wp_region_lit (W_v (.int .i64 0) (x_move rfl) rfl (W_v (.bool false) (x_ibin rfl rfl rfl rfl) rfl (W_v (.bool false) (x_move rfl) rfl (W_no (rfl) rfl (W_no (rfl) rfl (W_v (.bool false) (x_pick (k := false) rfl rfl) rfl (W_v (.int .i64 a0) (x_move rfl) rfl ?_))))))))
      obtain ⟨t4473, ht4474, H⟩ := bindS H
      refine W_callF fn15 (ferrymanref06_Legal.con k M4466 a0 none 0 ([] : (List api_Event)) t4473 (SlW.nil _ _) ht4474) S rfl rfl (by rintro _ _ _ ⟨_, rfl⟩; exact flat_nil) ?_
      rintro _ w4475 _ Γ' E' S ⟨rfl, rfl⟩
      replace E := E.trans E'
      refine W_v (.bool (!t4473)) (x_not (b := t4473) rfl) rfl (W_v (.bool (false == (!t4473))) (x_beq Try.underlying4 rfl rfl) rfl (W_v (.bool (false == (!t4473))) (x_move rfl) rfl ?_))
      obtain ⟨o4484, o4484h, o4484H⟩ := bindS H
      refine Wl_cutN 2 (fun ρ w' => ∃ (x4483 : Bool), (x4483) = o4484 ∧ Agree ρ [(54, .bool x4483)] ∧ Ext w w' ∧ St w' M4466 F []) ?_ ?_
      · have H := o4484h
        rcases iteS H with ⟨hb4482, H⟩ | ⟨hb4482, H⟩
        · skip
          refine W_yes (congrArg some hb4482) ?_
          obtain ⟨t4485, ht4486, H⟩ := bindS H
          refine W_callF fn10 (ferrymanlaw06_works.con k M4466  t4485  ht4486) S rfl rfl (by rintro _ _ _ ⟨_, rfl⟩; exact flat_nil) ?_
          rintro _ w4487 _ Γ' E' S ⟨rfl, rfl⟩
          replace E := E.trans E'
          refine W_v (.bool t4485) (x_pick (k := true) (congrArg Value.bool hb4482) rfl) rfl (Wl_nil ?_)
          exact ⟨t4485, Option.some.inj H, ⟨rfl, trivial⟩, E, S.pick [] (by decide)⟩
        · skip
          refine W_no (skT hb4482) rfl (W_v (.bool false) (x_pick (k := false) (congrArg Value.bool hb4482) rfl) rfl (Wl_nil ?_))
          exact ⟨false, Option.some.inj H, ⟨rfl, trivial⟩, E, S.pick [] (by decide)⟩
      rintro ρ w4488 ⟨x4483, rfl, hρ, E, S⟩
      rw [agree_eta hρ]
      have H := o4484H
      refine W_v (.bool x4483) (x_assign rfl) rfl (Wl_nil (tn ?_))
      refine Wp_ret ?_
      refine tr (?_)
      obtain rfl := Option.some.inj H
      exact ⟨_, _, _, fun w1 e1 => run_resR (vs := [.bool x4483]) (FA.cons (rfl) (FA.nil)), HM, E, S.pick [] (by decide), ⟨rfl, rfl⟩⟩
    refine Wp_cond_false (congrArg Value.bool hb4472) (Wp_skip (tn ?_))
    as_aux_lemma =>
    refine Wp_seq (Wp_region_lit (W_v (.slice none 0 0) (x_assign rfl) rfl (Wl_nil (tn (Wp_seq (Wp_seq (Wp_region_lit (W_v (.int .i64 0) (x_assign rfl) rfl (Wl_nil (tn ?_))))))))))
    obtain ⟨o7843, o7843h, o7843H⟩ := bindS H
    refine Wp_blockJ (fun ρ w' => ∃ (Mj : Hp), .inr () = o7843 ∧ Agree ρ [] ∧ M4466.le Mj ∧ Ext w w' ∧ St w' Mj F []) ?_ ?_
    · skip
      refine Wp_loop (fun n ρ w' => ∃ (x6725 : List api_Event) (x6729 : Int) (x6730 : List event_task) (x6734 : List api_Event) (A6726 : Option Addr) (c6727 : Nat) (A6731 : Option Addr) (c6732 : Nat) (A6735 : Option Addr) (c6736 : Nat) (Mj : Hp), ferrymanlaw06_EventPlays_l37 a0 a1 n x6725 x6729 x6730 x6734 = some o7843 ∧ Agree ρ [(0, .int .i64 a0), (1, .slice A1 a1.length c1), (5, pt b4457 0), (7, .slice A6726 x6725.length c6727), (8, .int .i64 x6729)] ∧ M4466.le Mj ∧ Ext w w' ∧ St w' Mj F [Row r_api_Event 32 (.slice A6735 x6734.length c6736) x6734, Row r_event_task 70 (.slice A6731 x6730.length c6732) x6730, Blk b4457 (.cells #[.slice A6731 x6730.length c6732, .slice A6735 x6734.length c6736] 73 (0, 0))] ∧ SlR r_api_Event Mj (.slice A6726 x6725.length c6727) x6725) k ?_ ?_
      · skip
        exact ⟨([] : List api_Event), (0 : Int), t11.tasks, t11.l, none, 0, A4459, c4460, A4462, c4463, M4466, o7843h, ⟨rfl, rfl, rfl, rfl, rfl, trivial⟩, (Hp.le_refl M4466), E, S.pick [2, 1, 0] (by decide), (SlW.nil _ _)⟩
      · intro n
        rintro ρ w7844 ⟨x6725, x6729, x6730, x6734, A6726, c6727, A6731, c6732, A6735, c6736, M7845, H, hρ, hM7846, E, S, hs6728⟩
        rw [agree_eta hρ]
        replace HM := Hp.le_trans HM hM7846
        replace hr1 := SlR.mono hr1 hM7846
        cases n with
        | zero => cases H
        | succ k =>
          rw [ferrymanlaw06_EventPlays_l37.eq_2] at H
          refine Wp_seq (Wp_seq (Wp_region_lit (W_v (.int .i64 x6729) (x_move rfl) rfl (W_v (.slice A1 a1.length c1) (x_move rfl) rfl (W_v (.int .i64 (a1.length : Int)) (x_len_slice (n := a1.length) Try.underlying34 rfl) rfl (W_v (.bool (decide (x6729 < (a1.length : Int)))) (x_ibin rfl rfl rfl rfl) rfl (Wl_nil (tn ?_))))))))
          rcases iteS H with ⟨hb7847, H⟩ | ⟨hb7847, H⟩
          · refine Wp_cond_true (congrArg Value.bool hb7847) ?_
            refine Wp_skip (tn (Wp_seq ?_))
            refine Wp_block ?_
            refine Wp_seq (Wp_region_lit (W_v (.slice A1 a1.length c1) (x_move rfl) rfl (W_v (.int .i64 x6729) (x_move rfl) rfl ?_)))
            obtain ⟨⟨p7848, p7849⟩, H⟩ := chkS H
            obtain ⟨b7850, o7851, cs7852, _, _, ee7857, hb7853, vs7854, hR7855, hc7856⟩ := SlW.at' hr1 p7848 p7849
            obtain ⟨v7861, hs7860, rfl⟩ := hR7855
            obtain ⟨A7858, c7859, rfl, _⟩ := hs7860.form
            refine W_v (.pointer (some ⟨b7850, o7851 + x6729.toNat * 6, none⟩)) (x_indexAddr Try.underlying34 ty40 (slA ee7857) rfl p7848 p7849) rfl (W_v (.agg #[.int .u8 ((rd a1 x6729).What), .int .i64 ((rd a1 x6729).Task), .int .i64 ((rd a1 x6729).Answer.Err), .bool ((rd a1 x6729).Answer.Found), .string (bs ((rd a1 x6729).Answer.Value)), .slice A7858 ((rd a1 x6729).Answer.Pairs).length c7859]) (x_loadA (S.frz hb7853) ty40 rfl (sub_el hc7856 0 rfl) rfl rfl) rfl ?_)
            refine W_alloc S #[.int .u8 0, .int .i64 0, .int .i64 0, .bool false, .string (bs ([] : Str)), .slice none 0 0] ty40 rfl rfl ?_
            intro b7862 w7863 E' S
            replace E := E.trans E'
            refine W_store S 0 rfl ty40 rfl rfl [.int .u8 ((rd a1 x6729).What), .int .i64 ((rd a1 x6729).Task), .int .i64 ((rd a1 x6729).Answer.Err), .bool ((rd a1 x6729).Answer.Found), .string (bs ((rd a1 x6729).Answer.Value)), .slice A7858 ((rd a1 x6729).Answer.Pairs).length c7859] rfl rfl rfl #[.int .u8 ((rd a1 x6729).What), .int .i64 ((rd a1 x6729).Task), .int .i64 ((rd a1 x6729).Answer.Err), .bool ((rd a1 x6729).Answer.Found), .string (bs ((rd a1 x6729).Answer.Value)), .slice A7858 ((rd a1 x6729).Answer.Pairs).length c7859] (by as_aux_lemma => kernel_rfl) rfl ?_
            intro w7865 E' S
            replace E := E.trans E'
            refine Wl_nil (tn (Wp_seq (Wp_seq (Wp_region_lit (W_v (pt b7862 0) (x_fieldAddr (o := 0) (off := 0) Try.underlying40 rfl ty5 rfl rfl) rfl (W_v (.int .u8 ((rd a1 x6729).What)) (x_load (S.blk 0 rfl) ty5 rfl rfl) rfl (W_v (.bool (decide ((rd a1 x6729).What < (1 : Int)))) (x_ibin rfl rfl rfl rfl) rfl (W_v (.bool (decide ((rd a1 x6729).What < (1 : Int)))) (x_move rfl) rfl ?_))))))))
            refine Wl_cutN 4 (fun ρ w' => Agree ρ [(0, .int .i64 a0), (1, .slice A1 a1.length c1), (5, pt b4457 0), (7, .slice A6726 x6725.length c6727), (8, .int .i64 x6729), (9, pt b7862 0), (72, .bool ((decide ((rd a1 x6729).What < (1 : Int))) || (decide ((rd a1 x6729).What > (3 : Int)))))] ∧ w7865 = w') ?_ ?_
            · rcases boolCases (decide ((rd a1 x6729).What < (1 : Int))) with hb7866 | hb7866
              · skip
                refine W_yes (congrArg some hb7866) (W_v (pt b7862 0) (x_fieldAddr (o := 0) (off := 0) Try.underlying40 rfl ty5 rfl rfl) rfl (W_yes (congrArg some hb7866) (W_v (.int .u8 ((rd a1 x6729).What)) (x_load (S.blk 0 rfl) ty5 rfl rfl) rfl (W_yes (congrArg some hb7866) (W_v (.bool (decide ((rd a1 x6729).What > (3 : Int)))) (x_ibin rfl rfl rfl rfl) rfl (W_v (.bool (decide ((rd a1 x6729).What > (3 : Int)))) (x_pick (k := false) (congrArg Value.bool hb7866) rfl) rfl (Wl_nil ?_)))))))
                exact ⟨⟨rfl, rfl, rfl, rfl, rfl, rfl, (by first | rfl | (rw [hb7866]; rfl) | (simp only [hb7866]; rfl)), trivial⟩, rfl⟩
              · skip
                refine W_no (skF hb7866) rfl (W_no (skF hb7866) rfl (W_no (skF hb7866) rfl (W_v (.bool true) (x_pick (k := true) (congrArg Value.bool hb7866) rfl) rfl (Wl_nil ?_))))
                exact ⟨⟨rfl, rfl, rfl, rfl, rfl, rfl, (by first | rfl | (rw [hb7866]; rfl) | (simp only [hb7866]; rfl)), trivial⟩, rfl⟩
            as_aux_lemma =>
            rintro ρ _ ⟨hρ, rfl⟩
            rw [agree_eta hρ]
            refine Wl_nil (tn ?_)
            obtain ⟨o7872, o7872h, o7872H⟩ := bindS H
            refine Wp_cut (fun ρ w' => ∃ (x7871 : Int), (x7871) = o7872 ∧ Agree ρ [(0, .int .i64 a0), (1, .slice A1 a1.length c1), (5, pt b4457 0), (7, .slice A6726 x6725.length c6727), (8, .int .i64 x6729), (9, pt b7862 0)] ∧ Ext w w' ∧ St w' M7845 F [Blk b7862 (.cells #[.int .u8 x7871, .int .i64 ((rd a1 x6729).Task), .int .i64 ((rd a1 x6729).Answer.Err), .bool ((rd a1 x6729).Answer.Found), .string (bs ((rd a1 x6729).Answer.Value)), .slice A7858 ((rd a1 x6729).Answer.Pairs).length c7859] 40 (0, 0)), Row r_api_Event 32 (.slice A6735 x6734.length c6736) x6734, Row r_event_task 70 (.slice A6731 x6730.length c6732) x6730, Blk b4457 (.cells #[.slice A6731 x6730.length c6732, .slice A6735 x6734.length c6736] 73 (0, 0))]) ?_ ?_
            · clear o7872H
              have H := o7872h
              rcases iteS H with ⟨hb7873, H⟩ | ⟨hb7873, H⟩
              · refine Wp_cond_true (congrArg Value.bool hb7873) ?_
                refine Wp_region_lit (W_v (pt b7862 0) (x_fieldAddr (o := 0) (off := 0) Try.underlying40 rfl ty5 rfl rfl) rfl ?_)
                refine W_store S 0 rfl ty5 rfl rfl [.int .u8 3] rfl rfl rfl #[.int .u8 3, .int .i64 ((rd a1 x6729).Task), .int .i64 ((rd a1 x6729).Answer.Err), .bool ((rd a1 x6729).Answer.Found), .string (bs ((rd a1 x6729).Answer.Value)), .slice A7858 ((rd a1 x6729).Answer.Pairs).length c7859] rfl rfl ?_
                intro w7874 E' S
                replace E := E.trans E'
                refine Wl_nil (tn ?_)
                exact ⟨(3 : Int), Option.some.inj H, ⟨rfl, rfl, rfl, rfl, rfl, rfl, trivial⟩, E, S.pick [0, 1, 2, 3] (by decide)⟩
              refine Wp_cond_false (congrArg Value.bool hb7873) (Wp_skip (tn ?_))
              exact ⟨((rd a1 x6729).What), Option.some.inj H, ⟨rfl, rfl, rfl, rfl, rfl, rfl, trivial⟩, E, S.pick [0, 1, 2, 3] (by decide)⟩
            as_aux_lemma =>
            rintro ρ w7875 ⟨x7871, rfl, hρ, E, S⟩
            rw [agree_eta hρ]
            have H := o7872H
            refine tn (Wp_seq (Wp_region_lit (W_v (.agg #[.int .u8 x7871, .int .i64 ((rd a1 x6729).Task), .int .i64 ((rd a1 x6729).Answer.Err), .bool ((rd a1 x6729).Answer.Found), .string (bs ((rd a1 x6729).Answer.Value)), .slice A7858 ((rd a1 x6729).Answer.Pairs).length c7859]) (x_loadA (S.blk 0 rfl) ty40 rfl (sub_of_extract rfl) rfl rfl) rfl ?_)))
            refine W_alloc S #[.int .u8 0, .int .i64 0, .int .i64 0, .bool false, .string (bs ([] : Str)), .slice none 0 0] ty40 rfl rfl ?_
            intro b7876 w7877 E' S
            replace E := E.trans E'
            refine W_store S 0 rfl ty40 rfl rfl [.int .u8 x7871, .int .i64 ((rd a1 x6729).Task), .int .i64 ((rd a1 x6729).Answer.Err), .bool ((rd a1 x6729).Answer.Found), .string (bs ((rd a1 x6729).Answer.Value)), .slice A7858 ((rd a1 x6729).Answer.Pairs).length c7859] rfl rfl rfl #[.int .u8 x7871, .int .i64 ((rd a1 x6729).Task), .int .i64 ((rd a1 x6729).Answer.Err), .bool ((rd a1 x6729).Answer.Found), .string (bs ((rd a1 x6729).Answer.Value)), .slice A7858 ((rd a1 x6729).Answer.Pairs).length c7859] (by as_aux_lemma => kernel_rfl) rfl ?_
            intro w7879 E' S
            replace E := E.trans E'
            refine Wl_nil (tn (Wp_seq (Wp_region_lit ?_)))
            refine W_bslice S #[] Try.underlying28 ty43 rfl rfl #[] (by as_aux_lemma => kernel_rfl) (by as_aux_lemma => kernel_rfl) rfl ?_
            intro b7880 w7881 E' S
            replace E := E.trans E'
            replace S := S.blk_row (r := r_api_Pair) (l := ([] : List api_Pair)) 0 rfl 0 (Nat.le_refl 0) rfl Cells.nil
            refine W_v (pt b7862 2) (x_fieldAddr (o := 0) (off := 2) Try.underlying40 rfl ty30 rfl rfl) rfl (W_v (pt b7862 5) (x_fieldAddr (o := 2) (off := 3) Try.underlying30 rfl ty28 rfl rfl) rfl (W_v (.slice A7858 ((rd a1 x6729).Answer.Pairs).length c7859) (x_load (S.blk 2 rfl) ty28 rfl rfl) rfl ?_))
            obtain ⟨p7883, H⟩ := chkS H
            obtain ⟨src7884, hs7885, hC7886⟩ := src_of_read (P := Try.prog) (ρ := r_api_Pair) (l := (rd a1 x6729).Answer.Pairs) (SlR.world hs7860 S) (by decide)
            refine W_append S 0 rfl rfl rfl Try.underlying28 (.inl Try.underlying28) ty43 rfl (by decide) (by decide) hs7885 hC7886 rfl (by omega) rfl ?_
            intro v7887 w7888 E' S
            replace E := E.trans E'
            obtain ⟨A7889, c7890, rfl, _⟩ := (S.row_read 0 rfl).form
            refine W_v (pt b7876 2) (x_fieldAddr (o := 0) (off := 2) Try.underlying40 rfl ty30 rfl rfl) rfl (W_v (pt b7876 5) (x_fieldAddr (o := 2) (off := 3) Try.underlying30 rfl ty28 rfl rfl) rfl ?_)
            refine W_store S 1 rfl ty28 rfl rfl [.slice A7889 (([] : List api_Pair) ++ (rd a1 x6729).Answer.Pairs).length c7890] rfl rfl rfl #[.int .u8 x7871, .int .i64 ((rd a1 x6729).Task), .int .i64 ((rd a1 x6729).Answer.Err), .bool ((rd a1 x6729).Answer.Found), .string (bs ((rd a1 x6729).Answer.Value)), .slice A7889 (([] : List api_Pair) ++ (rd a1 x6729).Answer.Pairs).length c7890] rfl rfl ?_
            intro w7891 E' S
            replace E := E.trans E'
            refine Wl_nil (tn (Wp_seq (Wp_region_lit (W_v (.agg #[.int .u8 x7871, .int .i64 ((rd a1 x6729).Task), .int .i64 ((rd a1 x6729).Answer.Err), .bool ((rd a1 x6729).Answer.Found), .string (bs ((rd a1 x6729).Answer.Value)), .slice A7889 (([] : List api_Pair) ++ (rd a1 x6729).Answer.Pairs).length c7890]) (x_loadA (S.blk 1 rfl) ty40 rfl (sub_of_extract rfl) rfl rfl) rfl (W_v (pt b4457 0) (x_move rfl) rfl ?_)))))
            obtain ⟨t7892, ht7893, H⟩ := bindS H
            replace S : St w7891 M7845 F [_, _, _, _, _, _] := S.pick [0, 5, 4, 3, 1, 2] (by decide)
            refine W_call fn16 (ferrymanlaw06_Step_do_AO_POO.con k M7845 A7889 c7890 (⟨x7871, (rd a1 x6729).Task, ⟨(rd a1 x6729).Answer.Err, (rd a1 x6729).Answer.Found, (rd a1 x6729).Answer.Value, (([] : List api_Pair) ++ (rd a1 x6729).Answer.Pairs)⟩⟩ : ferrymanlaw06_Step) A6731 c6732 A6735 c6736 (⟨x6730, x6734⟩ : event_Recorder) b4457 t7892  ht7893) (Γ1 := [_, _, _, _]) (Γ2 := [_, _]) S rfl rfl ?_
            rintro _ w7900 M7901 Γ' hM7902 E' S ⟨A7894, c7895, A7897, c7898, rfl, rfl⟩
            replace HM := Hp.le_trans HM hM7902
            replace hM7846 := Hp.le_trans hM7846 hM7902
            replace hr1 := SlR.mono hr1 hM7902
            replace hs6728 := SlR.mono hs6728 hM7902
            replace hb7853 := hM7902 _ _ hb7853
            replace hs7860 := SlR.mono hs7860 hM7902
            replace E := E.trans E'
            replace S : St w7900 M7901 F [_, _, _, _, _, _] := S
            refine W_v (.int .i64 t7892.1) (x_assign rfl) rfl (Wl_nil (tn ?_))
            as_aux_lemma =>
            refine Wp_seq (Wp_seq (Wp_region_lit (W_v (.int .i64 0) (x_assign rfl) rfl (Wl_nil (tn ?_)))))
            obtain ⟨o7969, o7969h, o7969H⟩ := bindS H
            refine Wp_blockJ (fun ρ w' => () = o7969 ∧ Agree ρ [(0, .int .i64 a0), (1, .slice A1 a1.length c1), (5, pt b4457 0), (7, .slice A6726 x6725.length c6727), (8, .int .i64 x6729), (9, pt b7862 0), (11, .int .i64 t7892.1)] ∧ Ext w w' ∧ St w' M7901 F [Blk b4457 (.cells #[.slice A7894 t7892.2.tasks.length c7895, .slice A7897 t7892.2.l.length c7898] 73 (0, 0)), Row r_event_task 70 (.slice A7894 t7892.2.tasks.length c7895) t7892.2.tasks, Row r_api_Event 32 (.slice A7897 t7892.2.l.length c7898) t7892.2.l, Blk b7862 (.cells #[.int .u8 x7871, .int .i64 ((rd a1 x6729).Task), .int .i64 ((rd a1 x6729).Answer.Err), .bool ((rd a1 x6729).Answer.Found), .string (bs ((rd a1 x6729).Answer.Value)), .slice A7858 ((rd a1 x6729).Answer.Pairs).length c7859] 40 (0, 0))]) ?_ ?_
            · skip
              refine Wp_loop (fun n ρ w' => ∃ (x7947 : Int) (x7948 : List api_Pair) (A7949 : Option Addr) (c7950 : Nat), ferrymanlaw06_EventPlays_l44 n x7947 x7948 = some o7969 ∧ Agree ρ [(0, .int .i64 a0), (1, .slice A1 a1.length c1), (5, pt b4457 0), (7, .slice A6726 x6725.length c6727), (8, .int .i64 x6729), (9, pt b7862 0), (10, pt b7876 0), (11, .int .i64 t7892.1), (12, .int .i64 x7947)] ∧ Ext w w' ∧ St w' M7901 F [Row r_api_Pair 43 (.slice A7949 x7948.length c7950) x7948, Blk b4457 (.cells #[.slice A7894 t7892.2.tasks.length c7895, .slice A7897 t7892.2.l.length c7898] 73 (0, 0)), Row r_event_task 70 (.slice A7894 t7892.2.tasks.length c7895) t7892.2.tasks, Row r_api_Event 32 (.slice A7897 t7892.2.l.length c7898) t7892.2.l, Blk b7876 (.cells #[.int .u8 x7871, .int .i64 ((rd a1 x6729).Task), .int .i64 ((rd a1 x6729).Answer.Err), .bool ((rd a1 x6729).Answer.Found), .string (bs ((rd a1 x6729).Answer.Value)), .slice A7949 x7948.length c7950] 40 (0, 0)), Blk b7862 (.cells #[.int .u8 x7871, .int .i64 ((rd a1 x6729).Task), .int .i64 ((rd a1 x6729).Answer.Err), .bool ((rd a1 x6729).Answer.Found), .string (bs ((rd a1 x6729).Answer.Value)), .slice A7858 ((rd a1 x6729).Answer.Pairs).length c7859] 40 (0, 0))]) k ?_ ?_
              · skip
                exact ⟨(0 : Int), (([] : List api_Pair) ++ (rd a1 x6729).Answer.Pairs), A7889, c7890, o7969h, ⟨rfl, rfl, rfl, rfl, rfl, rfl, rfl, rfl, rfl, trivial⟩, E, S.pick [0, 1, 2, 3, 4, 5] (by decide)⟩
              · intro n
                rintro ρ w7970 ⟨x7947, x7948, A7949, c7950, H, hρ, E, S⟩
                rw [agree_eta hρ]
                cases n with
                | zero => cases H
                | succ k =>
                  rw [ferrymanlaw06_EventPlays_l44.eq_2] at H
                  refine Wp_seq (Wp_seq (Wp_region_lit (W_v (.int .i64 x7947) (x_move rfl) rfl (W_v (pt b7876 2) (x_fieldAddr (o := 0) (off := 2) Try.underlying40 rfl ty30 rfl rfl) rfl (W_v (pt b7876 5) (x_fieldAddr (o := 2) (off := 3) Try.underlying30 rfl ty28 rfl rfl) rfl (W_v (.slice A7949 x7948.length c7950) (x_load (S.blk 4 rfl) ty28 rfl rfl) rfl (W_v (.int .i64 (x7948.length : Int)) (x_len_slice (n := x7948.length) Try.underlying28 rfl) rfl (W_v (.bool (decide (x7947 < (x7948.length : Int)))) (x_ibin rfl rfl rfl rfl) rfl (Wl_nil (tn ?_))))))))))
                  rcases iteS H with ⟨hb7971, H⟩ | ⟨hb7971, H⟩
                  · refine Wp_cond_true (congrArg Value.bool hb7971) ?_
                    refine Wp_skip (tn (Wp_seq ?_))
                    refine Wp_block ?_
                    refine Wp_region_lit (W_v (pt b7876 2) (x_fieldAddr (o := 0) (off := 2) Try.underlying40 rfl ty30 rfl rfl) rfl (W_v (pt b7876 5) (x_fieldAddr (o := 2) (off := 3) Try.underlying30 rfl ty28 rfl rfl) rfl (W_v (.slice A7949 x7948.length c7950) (x_load (S.blk 4 rfl) ty28 rfl rfl) rfl (W_v (.int .i64 x7947) (x_move rfl) rfl ?_))))
                    obtain ⟨⟨p7972, p7973⟩, H⟩ := chkS H
                    obtain ⟨b7974, o7975, cs7976, _, _, ee7981, hb7977, vs7978, hR7979, hc7980⟩ := SlW.at' (S.row_read 0 rfl) p7972 p7973
                    obtain rfl : vs7978 = _ := hR7979
                    refine W_v (.pointer (some ⟨b7974, o7975 + x7947.toNat * 2, none⟩)) (x_indexAddr Try.underlying28 ty43 (slA ee7981) rfl p7972 p7973) rfl (W_v (.pointer (some ⟨b7974, o7975 + x7947.toNat * 2, none⟩)) (x_fieldAddr (o := o7975 + x7947.toNat * 2) (off := 0) Try.underlying43 rfl ty9 rfl rfl) rfl ?_)
                    obtain ⟨x7984, he7985, H⟩ := bindS H
                    replace he7985 := Option.some.inj he7985
                    refine W_rowstore S 0 rfl rfl ee7981 (by first | exact p7972 | simpa using p7972) (by first | exact p7973 | simpa using p7973) 0 ty9 rfl rfl [.string (bs ([115, 112, 111, 105, 108, 116] : Str))] rfl rfl rfl rfl (⟨([115, 112, 111, 105, 108, 116] : Str), (rd x7948 x7947).Value⟩ : api_Pair) (by rintro _ rfl; rfl) he7985 ?_
                    intro w7983 E' S
                    replace E := E.trans E'
                    have hs7986 : Value.slice A7949 x7948.length c7950 = Value.slice A7949 x7984.length c7950 := by rw [← he7985, List.length_set]
                    try rw [hs7986] at S
                    try rw [hs7986]
                    have p7987 : x7947 < (x7984.length : Int) := by rw [← he7985, List.length_set]; exact p7973
                    refine Wl_nil (bn (tn (Wp_region_lit (W_v (.int .i64 x7947) (x_move rfl) rfl (W_v (.int .i64 (IntKind.i64.wrap (x7947 + (1 : Int)))) (x_ibin rfl rfl rfl rfl) rfl (W_v (.int .i64 (IntKind.i64.wrap (x7947 + (1 : Int)))) (x_assign rfl) rfl (Wl_nil (tn ?_))))))))
                    exact ⟨k, Nat.lt_succ_self k, ⟨(IntKind.i64.wrap (x7947 + (1 : Int))), x7984, A7949, c7950, H, ⟨rfl, rfl, rfl, rfl, rfl, rfl, rfl, rfl, rfl, trivial⟩, E, S.pick [0, 1, 2, 3, 4, 5] (by decide)⟩⟩
                  refine Wp_cond_false (congrArg Value.bool hb7971) ?_
                  refine Wp_exit ?_
                  refine tx (tx (bsm (?_)))
                  refine tn ?_
                  exact ⟨Option.some.inj H, ⟨rfl, rfl, rfl, rfl, rfl, rfl, rfl, trivial⟩, E, S.pick [1, 2, 3, 5] (by decide)⟩
            rintro ρ w7988 ⟨rfl, hρ, E, S⟩
            rw [agree_eta hρ]
            have H := o7969H
            refine tn ?_
            as_aux_lemma =>
            refine Wp_seq (Wp_region_lit (W_v (.int .i64 a0) (x_move rfl) rfl (W_v (.slice A6726 x6725.length c6727) (x_move rfl) rfl (W_v (pt b7862 0) (x_fieldAddr (o := 0) (off := 0) Try.underlying40 rfl ty5 rfl rfl) rfl (W_v (.int .u8 x7871) (x_load (S.blk 3 rfl) ty5 rfl rfl) rfl (W_v (pt b7862 1) (x_fieldAddr (o := 0) (off := 1) Try.underlying40 rfl ty3 rfl rfl) rfl (W_v (.int .i64 ((rd a1 x6729).Task)) (x_load (S.blk 3 rfl) ty3 rfl rfl) rfl (W_v (pt b7862 2) (x_fieldAddr (o := 0) (off := 2) Try.underlying40 rfl ty30 rfl rfl) rfl (W_v (.agg #[.int .i64 ((rd a1 x6729).Answer.Err), .bool ((rd a1 x6729).Answer.Found), .string (bs ((rd a1 x6729).Answer.Value)), .slice A7858 ((rd a1 x6729).Answer.Pairs).length c7859]) (x_loadA (S.blk 3 rfl) ty30 rfl (sub_of_extract rfl) rfl rfl) rfl ?_)))))))))
            obtain ⟨t7989, ht7990, H⟩ := bindS H
            refine W_call fn17 (ferrymanref06_Next.con k M7901 a0 A6726 c6727 x6725 x7871 ((rd a1 x6729).Task) A7858 c7859 ((rd a1 x6729).Answer) t7989 hs6728 hs7860 ht7990) (Γ1 := []) (Γ2 := [_, _, _, _]) S rfl rfl ?_
            rintro _ w7994 M7995 Γ' hM7996 E' S ⟨A7991, c7992, rfl, hs7993, rfl⟩
            replace HM := Hp.le_trans HM hM7996
            replace hM7846 := Hp.le_trans hM7846 hM7996
            replace hr1 := SlR.mono hr1 hM7996
            replace hs6728 := SlR.mono hs6728 hM7996
            replace hb7853 := hM7996 _ _ hb7853
            replace hs7860 := SlR.mono hs7860 hM7996
            replace E := E.trans E'
            refine W_v (.tuple #[.slice A7991 t7989.1.length c7992, .bool t7989.2]) (x_move rfl) rfl (W_v (.slice A7991 t7989.1.length c7992) (x_extract rfl rfl) rfl (W_v (.bool t7989.2) (x_extract rfl rfl) rfl (W_v (.slice A7991 t7989.1.length c7992) (x_assign rfl) rfl (W_v (.bool t7989.2) (x_assign rfl) rfl (Wl_nil (tn (Wp_seq (Wp_region_lit (W_v (.int .i64 0) (x_assign rfl) rfl (Wl_nil (tn (Wp_seq (Wp_seq (Wp_region_lit (W_v (pt b7862 1) (x_fieldAddr (o := 0) (off := 1) Try.underlying40 rfl ty3 rfl rfl) rfl ?_)))))))))))))))
            refine W_v (.int .i64 ((rd a1 x6729).Task)) (x_load (S.blk 3 rfl) ty3 rfl rfl) rfl (W_v (.bool (decide ((rd a1 x6729).Task < (0 : Int)))) (x_ibin rfl rfl rfl rfl) rfl (W_v (.bool (decide ((rd a1 x6729).Task < (0 : Int)))) (x_move rfl) rfl ?_))
            refine Wl_cutN 5 (fun ρ w' => Agree ρ [(0, .int .i64 a0), (1, .slice A1 a1.length c1), (5, pt b4457 0), (8, .int .i64 x6729), (9, pt b7862 0), (11, .int .i64 t7892.1), (13, .slice A7991 t7989.1.length c7992), (14, .bool t7989.2), (15, .int .i64 0), (119, .bool ((decide ((rd a1 x6729).Task < (0 : Int))) || (decide ((rd a1 x6729).Task ≥ a0))))] ∧ w7994 = w') ?_ ?_
            · rcases boolCases (decide ((rd a1 x6729).Task < (0 : Int))) with hb7997 | hb7997
              · skip
                refine W_yes (congrArg some hb7997) (W_v (pt b7862 1) (x_fieldAddr (o := 0) (off := 1) Try.underlying40 rfl ty3 rfl rfl) rfl (W_yes (congrArg some hb7997) (W_v (.int .i64 ((rd a1 x6729).Task)) (x_load (S.blk 3 rfl) ty3 rfl rfl) rfl (W_yes (congrArg some hb7997) (W_v (.int .i64 a0) (x_move rfl) rfl (W_yes (congrArg some hb7997) (W_v (.bool (decide ((rd a1 x6729).Task ≥ a0))) (x_ibin rfl rfl rfl rfl) rfl (W_v (.bool (decide ((rd a1 x6729).Task ≥ a0))) (x_pick (k := false) (congrArg Value.bool hb7997) rfl) rfl (Wl_nil ?_)))))))))
                exact ⟨⟨rfl, rfl, rfl, rfl, rfl, rfl, rfl, rfl, rfl, (by first | rfl | (rw [hb7997]; rfl) | (simp only [hb7997]; rfl)), trivial⟩, rfl⟩
              · skip
                refine W_no (skF hb7997) rfl (W_no (skF hb7997) rfl (W_no (skF hb7997) rfl (W_no (skF hb7997) rfl (W_v (.bool true) (x_pick (k := true) (congrArg Value.bool hb7997) rfl) rfl (Wl_nil ?_)))))
                exact ⟨⟨rfl, rfl, rfl, rfl, rfl, rfl, rfl, rfl, rfl, (by first | rfl | (rw [hb7997]; rfl) | (simp only [hb7997]; rfl)), trivial⟩, rfl⟩
            as_aux_lemma =>
            rintro ρ _ ⟨hρ, rfl⟩
            rw [agree_eta hρ]
            refine Wl_nil (tn ?_)
            obtain ⟨o8013, o8013h, o8013H⟩ := bindS H
            refine Wp_cut (fun ρ w' => ∃ (x8012 : Int), (x8012) = o8013 ∧ Agree ρ [(0, .int .i64 a0), (1, .slice A1 a1.length c1), (5, pt b4457 0), (8, .int .i64 x6729), (9, pt b7862 0), (11, .int .i64 t7892.1), (13, .slice A7991 t7989.1.length c7992), (15, .int .i64 x8012)] ∧ Ext w w' ∧ St w' M7995 F [Blk b4457 (.cells #[.slice A7894 t7892.2.tasks.length c7895, .slice A7897 t7892.2.l.length c7898] 73 (0, 0)), Row r_event_task 70 (.slice A7894 t7892.2.tasks.length c7895) t7892.2.tasks, Row r_api_Event 32 (.slice A7897 t7892.2.l.length c7898) t7892.2.l, Blk b7862 (.cells #[.int .u8 x7871, .int .i64 ((rd a1 x6729).Task), .int .i64 ((rd a1 x6729).Answer.Err), .bool ((rd a1 x6729).Answer.Found), .string (bs ((rd a1 x6729).Answer.Value)), .slice A7858 ((rd a1 x6729).Answer.Pairs).length c7859] 40 (0, 0))]) ?_ ?_
            · clear o8013H
              have H := o8013h
              rcases iteS H with ⟨hb8014, H⟩ | ⟨hb8014, H⟩
              · refine Wp_cond_true (congrArg Value.bool hb8014) ?_
                refine Wp_region_lit (W_v (.int .i64 1) (x_assign rfl) rfl (Wl_nil (tn ?_)))
                exact ⟨(1 : Int), Option.some.inj H, ⟨rfl, rfl, rfl, rfl, rfl, rfl, rfl, rfl, trivial⟩, E, S.pick [0, 1, 2, 3] (by decide)⟩
              refine Wp_cond_false (congrArg Value.bool hb8014) (Wp_seq (Wp_region_lit (W_v (.bool t7989.2) (x_move rfl) rfl (W_v (.bool (!t7989.2)) (x_not (b := t7989.2) rfl) rfl (Wl_nil (tn ?_))))))
              obtain ⟨o8018, o8018h, o8018H⟩ := bindS H
              refine Wp_cut (fun ρ w' => ∃ (x8017 : Int), (x8017) = o8018 ∧ Agree ρ [(0, .int .i64 a0), (1, .slice A1 a1.length c1), (5, pt b4457 0), (8, .int .i64 x6729), (9, pt b7862 0), (11, .int .i64 t7892.1), (13, .slice A7991 t7989.1.length c7992), (15, .int .i64 x8017)] ∧ Ext w w' ∧ St w' M7995 F [Blk b4457 (.cells #[.slice A7894 t7892.2.tasks.length c7895, .slice A7897 t7892.2.l.length c7898] 73 (0, 0)), Row r_event_task 70 (.slice A7894 t7892.2.tasks.length c7895) t7892.2.tasks, Row r_api_Event 32 (.slice A7897 t7892.2.l.length c7898) t7892.2.l, Blk b7862 (.cells #[.int .u8 x7871, .int .i64 ((rd a1 x6729).Task), .int .i64 ((rd a1 x6729).Answer.Err), .bool ((rd a1 x6729).Answer.Found), .string (bs ((rd a1 x6729).Answer.Value)), .slice A7858 ((rd a1 x6729).Answer.Pairs).length c7859] 40 (0, 0))]) ?_ ?_
              · clear o8018H
                have H := o8018h
                rcases iteS H with ⟨hb8019, H⟩ | ⟨hb8019, H⟩
                · refine Wp_cond_true (congrArg Value.bool hb8019) ?_
                  refine Wp_region_lit (W_v (.int .i64 7) (x_assign rfl) rfl (Wl_nil (tn ?_)))
                  exact ⟨(7 : Int), Option.some.inj H, ⟨rfl, rfl, rfl, rfl, rfl, rfl, rfl, rfl, trivial⟩, E, S.pick [0, 1, 2, 3] (by decide)⟩
                refine Wp_cond_false (congrArg Value.bool hb8019) (Wp_skip (tn ?_))
                exact ⟨(0 : Int), Option.some.inj H, ⟨rfl, rfl, rfl, rfl, rfl, rfl, rfl, rfl, trivial⟩, E, S.pick [0, 1, 2, 3] (by decide)⟩
              rintro ρ w8020 ⟨x8017, rfl, hρ, E, S⟩
              rw [agree_eta hρ]
              have H := o8018H
              refine tn ?_
              exact ⟨x8017, Option.some.inj H, ⟨rfl, rfl, rfl, rfl, rfl, rfl, rfl, rfl, trivial⟩, E, S.pick [0, 1, 2, 3] (by decide)⟩
            as_aux_lemma =>
            rintro ρ w8021 ⟨x8012, rfl, hρ, E, S⟩
            rw [agree_eta hρ]
            have H := o8013H
            refine tn (Wp_seq (Wp_region_lit (W_v (.slice A7991 t7989.1.length c7992) (x_move rfl) rfl (W_v (.slice A7991 t7989.1.length c7992) (x_assign rfl) rfl (Wl_nil (tn (Wp_seq (Wp_seq (Wp_region_lit (W_v (.int .i64 t7892.1) (x_move rfl) rfl (W_v (.int .i64 x8012) (x_move rfl) rfl (W_v (.bool (t7892.1 != x8012)) (x_ibin rfl rfl rfl rfl) rfl (W_v (.bool (t7892.1 != x8012)) (x_move rfl) rfl ?_)))))))))))))
            obtain ⟨o8046, o8046h, o8046H⟩ := bindS H
            refine Wl_cutN 6 (fun ρ w' => ∃ (x8045 : Bool) (Mj : Hp), (x8045) = o8046 ∧ Agree ρ [(0, .int .i64 a0), (1, .slice A1 a1.length c1), (5, pt b4457 0), (7, .slice A7991 t7989.1.length c7992), (8, .int .i64 x6729), (9, pt b7862 0), (132, .bool x8045)] ∧ M7995.le Mj ∧ Ext w w' ∧ St w' Mj F [Blk b4457 (.cells #[.slice A7894 t7892.2.tasks.length c7895, .slice A7897 t7892.2.l.length c7898] 73 (0, 0)), Row r_event_task 70 (.slice A7894 t7892.2.tasks.length c7895) t7892.2.tasks, Row r_api_Event 32 (.slice A7897 t7892.2.l.length c7898) t7892.2.l, Blk b7862 (.cells #[.int .u8 x7871, .int .i64 ((rd a1 x6729).Task), .int .i64 ((rd a1 x6729).Answer.Err), .bool ((rd a1 x6729).Answer.Found), .string (bs ((rd a1 x6729).Answer.Value)), .slice A7858 ((rd a1 x6729).Answer.Pairs).length c7859] 40 (0, 0))]) ?_ ?_
            · as_aux_lemma =>
                have H := o8046h
                have LE8047 := Hp.le_refl M7995
                rcases iteS H with ⟨hb8044, H⟩ | ⟨hb8044, H⟩
                · skip
                  refine W_no (skF hb8044) rfl (W_no (skF hb8044) rfl (W_no (skF hb8044) rfl (W_no (skF hb8044) rfl (W_no (skF hb8044) rfl (W_v (.bool true) (x_pick (k := true) (congrArg Value.bool hb8044) rfl) rfl (Wl_nil ?_))))))
                  exact ⟨true, M7995, Option.some.inj H, ⟨rfl, rfl, rfl, rfl, rfl, rfl, rfl, trivial⟩, (Hp.le_refl M7995), E, S.pick [0, 1, 2, 3] (by decide)⟩
                · skip
                  refine W_yes (congrArg some hb8044) (W_v (pt b4457 0) (x_move rfl) rfl (W_yes (congrArg some hb8044) ?_))
                  obtain ⟨t8048, ht8049, H⟩ := bindS H
                  refine W_call fn19 (event_Recorder_Events_POO.con k M7995 A7894 c7895 A7897 c7898 t7892.2 b4457 t8048  ht8049) (Γ1 := [_, _, _]) (Γ2 := [_]) S rfl rfl ?_
                  rintro _ w8053 M8054 Γ' hM8055 E' S ⟨A8050, c8051, rfl, rfl⟩
                  replace HM := Hp.le_trans HM hM8055
                  replace hM7846 := Hp.le_trans hM7846 hM8055
                  replace LE8047 := Hp.le_trans LE8047 hM8055
                  replace hr1 := SlR.mono hr1 hM8055
                  replace hs6728 := SlR.mono hs6728 hM8055
                  replace hb7853 := hM8055 _ _ hb7853
                  replace hs7860 := SlR.mono hs7860 hM8055
                  replace hs7993 := SlR.mono hs7993 hM8055
                  replace E := E.trans E'
                  replace S : St w8053 M8054 F [_, _, _, _, _] := S
                  refine W_yes (congrArg some hb8044) (W_v (.slice A7991 t7989.1.length c7992) (x_move rfl) rfl (W_yes (congrArg some hb8044) ?_))
                  obtain ⟨t8056, ht8057, H⟩ := bindS H
                  refine W_callN 1 fn18 (fun h9 hs9 hd9 => ferrymanref06_Same.con k _ A8050 c8051 t8048 A7991 c7992 t7989.1 t8056 (SlW.wk (r := r_api_Event) (Sats.nst hs9 hd9 0 rfl)) (SlR.mono hs7993 (Hp.le_union_left _ _)) ht8057) S rfl rfl (by rintro _ _ _ ⟨_, rfl⟩; exact flat_nil) ?_
                  rintro _ w8058 _ Γ' E' S ⟨rfl, rfl⟩
                  replace E := E.trans E'
                  refine W_yes (congrArg some hb8044) (W_v (.bool (!t8056)) (x_not (b := t8056) rfl) rfl (W_v (.bool (!t8056)) (x_pick (k := false) (congrArg Value.bool hb8044) rfl) rfl (Wl_nil ?_)))
                  exact ⟨(!t8056), M8054, Option.some.inj H, ⟨rfl, rfl, rfl, rfl, rfl, rfl, rfl, trivial⟩, LE8047, E, S.pick [1, 2, 3, 4] (by decide)⟩
            as_aux_lemma =>
            rintro ρ w8059 ⟨x8045, M8060, rfl, hρ, hM8061, E, S⟩
            rw [agree_eta hρ]
            replace HM := Hp.le_trans HM hM8061
            replace hM7846 := Hp.le_trans hM7846 hM8061
            replace hr1 := SlR.mono hr1 hM8061
            replace hs6728 := SlR.mono hs6728 hM8061
            replace hb7853 := hM8061 _ _ hb7853
            replace hs7860 := SlR.mono hs7860 hM8061
            replace hs7993 := SlR.mono hs7993 hM8061
            have H := o8046H
            refine Wl_nil (tn ?_)
            rcases iteS H with ⟨hb8062, H⟩ | ⟨hb8062, H⟩
            · refine Wp_cond_true (congrArg Value.bool hb8062) ?_
              refine Wp_seq (Wp_region_lit (W_v (.bool false) (x_assign rfl) rfl (Wl_nil (tn ?_))))
              refine Wp_ret ?_
              refine tr (br (tr (tr (br (tr (tr (?_)))))))
              obtain rfl := Option.some.inj H
              have H := o7843H
              replace H := elimL H
              obtain rfl := Option.some.inj H
              exact ⟨_, _, _, fun w1 e1 => run_resR (vs := [.bool false]) (FA.cons (rfl) (FA.nil)), HM, E, S.pick [] (by decide), ⟨rfl, rfl⟩⟩
            refine Wp_cond_false (congrArg Value.bool hb8062) (Wp_skip (tn (Wp_seq (Wp_region_lit (W_v (pt b4457 0) (x_move rfl) rfl (W_v (pt b7862 1) (x_fieldAddr (o := 0) (off := 1) Try.underlying40 rfl ty3 rfl rfl) rfl (W_v (.int .i64 ((rd a1 x6729).Task)) (x_load (S.blk 3 rfl) ty3 rfl rfl) rfl ?_)))))))
            obtain ⟨t8063, ht8064, H⟩ := bindS H
            refine W_call fn20 (event_Recorder_Under_POO.con k M8060 A7894 c7895 A7897 c7898 t7892.2 ((rd a1 x6729).Task) b4457 t8063  ht8064) (Γ1 := [_, _, _]) (Γ2 := [_]) S rfl rfl ?_
            rintro _ w8065 M8066 Γ' hM8067 E' S ⟨rfl, rfl⟩
            replace HM := Hp.le_trans HM hM8067
            replace hM7846 := Hp.le_trans hM7846 hM8067
            replace hM8061 := Hp.le_trans hM8061 hM8067
            replace hr1 := SlR.mono hr1 hM8067
            replace hs6728 := SlR.mono hs6728 hM8067
            replace hb7853 := hM8067 _ _ hb7853
            replace hs7860 := SlR.mono hs7860 hM8067
            replace hs7993 := SlR.mono hs7993 hM8067
            replace E := E.trans E'
            replace S : St w8065 M8066 F [_, _, _, _] := S
            refine W_v (.tuple #[.int .i64 t8063.1, .bool t8063.2.1, .bool t8063.2.2]) (x_move rfl) rfl (W_v (.int .i64 t8063.1) (x_extract rfl rfl) rfl (W_v (.bool t8063.2.1) (x_extract rfl rfl) rfl (W_v (.bool t8063.2.2) (x_extract rfl rfl) rfl (W_v (.int .i64 t8063.1) (x_assign rfl) rfl (W_v (.bool t8063.2.1) (x_assign rfl) rfl (W_v (.bool t8063.2.2) (x_assign rfl) rfl (Wl_nil (tn ?_))))))))
            as_aux_lemma =>
            refine Wp_seq (Wp_region_lit (W_v (.slice A7991 t7989.1.length c7992) (x_move rfl) rfl (W_v (pt b7862 1) (x_fieldAddr (o := 0) (off := 1) Try.underlying40 rfl ty3 rfl rfl) rfl (W_v (.int .i64 ((rd a1 x6729).Task)) (x_load (S.blk 3 rfl) ty3 rfl rfl) rfl ?_))))
            obtain ⟨t8068, ht8069, H⟩ := bindS H
            refine W_callF fn21 (ferrymanref06_Under.con k M8066 A7991 c7992 t7989.1 ((rd a1 x6729).Task) t8068 hs7993 ht8069) S rfl rfl (by rintro _ _ _ ⟨_, rfl⟩; exact flat_nil) ?_
            rintro _ w8070 _ Γ' E' S ⟨rfl, rfl⟩
            replace E := E.trans E'
            refine W_v (.tuple #[.int .i64 t8068.1, .bool t8068.2.1, .bool t8068.2.2]) (x_move rfl) rfl (W_v (.int .i64 t8068.1) (x_extract rfl rfl) rfl (W_v (.bool t8068.2.1) (x_extract rfl rfl) rfl (W_v (.bool t8068.2.2) (x_extract rfl rfl) rfl (W_v (.int .i64 t8068.1) (x_assign rfl) rfl (W_v (.bool t8068.2.1) (x_assign rfl) rfl (W_v (.bool t8068.2.2) (x_assign rfl) rfl (Wl_nil (tn (Wp_seq (Wp_seq (Wp_region_lit (W_v (.int .i64 t8063.1) (x_move rfl) rfl (W_v (.int .i64 t8068.1) (x_move rfl) rfl (W_v (.bool (t8063.1 != t8068.1)) (x_ibin rfl rfl rfl rfl) rfl (W_v (.bool (t8063.1 != t8068.1)) (x_move rfl) rfl ?_)))))))))))))))
            refine Wl_cutN 4 (fun ρ w' => Agree ρ [(0, .int .i64 a0), (1, .slice A1 a1.length c1), (5, pt b4457 0), (7, .slice A7991 t7989.1.length c7992), (8, .int .i64 x6729), (18, .bool t8063.2.2), (21, .bool t8068.2.2), (156, .bool ((t8063.1 != t8068.1) || (!(t8063.2.1 == t8068.2.1))))] ∧ w8070 = w') ?_ ?_
            · rcases boolCases (t8063.1 != t8068.1) with hb8071 | hb8071
              · skip
                refine W_yes (congrArg some hb8071) (W_v (.bool t8063.2.1) (x_move rfl) rfl (W_yes (congrArg some hb8071) (W_v (.bool t8068.2.1) (x_move rfl) rfl (W_yes (congrArg some hb8071) (W_v (.bool (!(t8063.2.1 == t8068.2.1))) (x_bne Try.underlying4 rfl rfl) rfl (W_v (.bool (!(t8063.2.1 == t8068.2.1))) (x_pick (k := false) (congrArg Value.bool hb8071) rfl) rfl (Wl_nil ?_)))))))
                exact ⟨⟨rfl, rfl, rfl, rfl, rfl, rfl, rfl, (by first | rfl | (rw [hb8071]; rfl) | (simp only [hb8071]; rfl)), trivial⟩, rfl⟩
              · skip
                refine W_no (skF hb8071) rfl (W_no (skF hb8071) rfl (W_no (skF hb8071) rfl (W_v (.bool true) (x_pick (k := true) (congrArg Value.bool hb8071) rfl) rfl (Wl_nil ?_))))
                exact ⟨⟨rfl, rfl, rfl, rfl, rfl, rfl, rfl, (by first | rfl | (rw [hb8071]; rfl) | (simp only [hb8071]; rfl)), trivial⟩, rfl⟩
            as_aux_lemma =>
            rintro ρ _ ⟨hρ, rfl⟩
            rw [agree_eta hρ]
            refine W_v (.bool ((t8063.1 != t8068.1) || (!(t8063.2.1 == t8068.2.1)))) (x_move rfl) rfl ?_
            refine Wl_cutN 4 (fun ρ w' => Agree ρ [(0, .int .i64 a0), (1, .slice A1 a1.length c1), (5, pt b4457 0), (7, .slice A7991 t7989.1.length c7992), (8, .int .i64 x6729), (161, .bool (((t8063.1 != t8068.1) || (!(t8063.2.1 == t8068.2.1))) || (!(t8063.2.2 == t8068.2.2))))] ∧ w8070 = w') ?_ ?_
            · rcases boolCases ((t8063.1 != t8068.1) || (!(t8063.2.1 == t8068.2.1))) with hb8072 | hb8072
              · skip
                refine W_yes (congrArg some hb8072) (W_v (.bool t8063.2.2) (x_move rfl) rfl (W_yes (congrArg some hb8072) (W_v (.bool t8068.2.2) (x_move rfl) rfl (W_yes (congrArg some hb8072) (W_v (.bool (!(t8063.2.2 == t8068.2.2))) (x_bne Try.underlying4 rfl rfl) rfl (W_v (.bool (!(t8063.2.2 == t8068.2.2))) (x_pick (k := false) (congrArg Value.bool hb8072) rfl) rfl (Wl_nil ?_)))))))
                exact ⟨⟨rfl, rfl, rfl, rfl, rfl, (by first | rfl | (rw [hb8072]; rfl) | (simp only [hb8072]; rfl)), trivial⟩, rfl⟩
              · skip
                refine W_no (skF hb8072) rfl (W_no (skF hb8072) rfl (W_no (skF hb8072) rfl (W_v (.bool true) (x_pick (k := true) (congrArg Value.bool hb8072) rfl) rfl (Wl_nil ?_))))
                exact ⟨⟨rfl, rfl, rfl, rfl, rfl, (by first | rfl | (rw [hb8072]; rfl) | (simp only [hb8072]; rfl)), trivial⟩, rfl⟩
            as_aux_lemma =>
            rintro ρ _ ⟨hρ, rfl⟩
            rw [agree_eta hρ]
            refine Wl_nil (tn ?_)
            rcases iteS H with ⟨hb8073, H⟩ | ⟨hb8073, H⟩
            · refine Wp_cond_true (congrArg Value.bool hb8073) ?_
              refine Wp_seq (Wp_region_lit (W_v (.bool false) (x_assign rfl) rfl (Wl_nil (tn ?_))))
              refine Wp_ret ?_
              refine tr (br (tr (tr (br (tr (tr (?_)))))))
              obtain rfl := Option.some.inj H
              have H := o7843H
              replace H := elimL H
              obtain rfl := Option.some.inj H
              exact ⟨_, _, _, fun w1 e1 => run_resR (vs := [.bool false]) (FA.cons (rfl) (FA.nil)), HM, E, S.pick [] (by decide), ⟨rfl, rfl⟩⟩
            refine Wp_cond_false (congrArg Value.bool hb8073) (Wp_skip (tn (Wp_seq (Wp_region_lit (W_v (pt b4457 0) (x_move rfl) rfl ?_)))))
            obtain ⟨t8074, ht8075, H⟩ := bindS H
            refine W_call fn19 (event_Recorder_Events_POO.con k M8066 A7894 c7895 A7897 c7898 t7892.2 b4457 t8074  ht8075) (Γ1 := [_, _, _]) (Γ2 := [_]) S rfl rfl ?_
            rintro _ w8079 M8080 Γ' hM8081 E' S ⟨A8076, c8077, rfl, rfl⟩
            replace HM := Hp.le_trans HM hM8081
            replace hM7846 := Hp.le_trans hM7846 hM8081
            replace hM8061 := Hp.le_trans hM8061 hM8081
            replace hr1 := SlR.mono hr1 hM8081
            replace hs6728 := SlR.mono hs6728 hM8081
            replace hb7853 := hM8081 _ _ hb7853
            replace hs7860 := SlR.mono hs7860 hM8081
            replace hs7993 := SlR.mono hs7993 hM8081
            replace E := E.trans E'
            replace S : St w8079 M8080 F [_, _, _, _, _] := S
            refine W_v (.slice A8076 t8074.length c8077) (x_assign rfl) rfl (Wl_nil (tn (Wp_seq (Wp_region_lit (W_v (.int .i64 0) (x_assign rfl) rfl (Wl_nil (tn ?_)))))))
            replace S := S.nst_nss 0 rfl get_api_Event
            replace S : St w8079 M8080 F [_, _, _, _, _] := S
            obtain ⟨o8733, o8733h, o8733H⟩ := bindS H
            refine Wp_blockJ (fun ρ w' => () = o8733 ∧ Agree ρ [(0, .int .i64 a0), (1, .slice A1 a1.length c1), (5, pt b4457 0), (7, .slice A7991 t7989.1.length c7992), (8, .int .i64 x6729)] ∧ Ext w w' ∧ St w' M8080 F [Blk b4457 (.cells #[.slice A7894 t7892.2.tasks.length c7895, .slice A7897 t7892.2.l.length c7898] 73 (0, 0)), Row r_event_task 70 (.slice A7894 t7892.2.tasks.length c7895) t7892.2.tasks, Row r_api_Event 32 (.slice A7897 t7892.2.l.length c7898) t7892.2.l]) ?_ ?_
            · skip
              refine Wp_loop (fun n ρ w' => ∃ (x8516 : Int), ferrymanlaw06_EventPlays_l47 t8074 n x8516 = some o8733 ∧ Agree ρ [(0, .int .i64 a0), (1, .slice A1 a1.length c1), (5, pt b4457 0), (7, .slice A7991 t7989.1.length c7992), (8, .int .i64 x6729), (22, .slice A8076 t8074.length c8077), (23, .int .i64 x8516)] ∧ Ext w w' ∧ St w' M8080 F [Nss rw_api_Event get_api_Event 32 (.slice A8076 t8074.length c8077) t8074, Blk b4457 (.cells #[.slice A7894 t7892.2.tasks.length c7895, .slice A7897 t7892.2.l.length c7898] 73 (0, 0)), Row r_event_task 70 (.slice A7894 t7892.2.tasks.length c7895) t7892.2.tasks, Row r_api_Event 32 (.slice A7897 t7892.2.l.length c7898) t7892.2.l]) k ?_ ?_
              · skip
                exact ⟨(0 : Int), o8733h, ⟨rfl, rfl, rfl, rfl, rfl, rfl, rfl, trivial⟩, E, S.pick [0, 1, 2, 3] (by decide)⟩
              · intro n
                rintro ρ w8734 ⟨x8516, H, hρ, E, S⟩
                rw [agree_eta hρ]
                cases n with
                | zero => cases H
                | succ k =>
                  rw [ferrymanlaw06_EventPlays_l47.eq_2] at H
                  refine Wp_seq (Wp_seq (Wp_region_lit (W_v (.int .i64 x8516) (x_move rfl) rfl (W_v (.slice A8076 t8074.length c8077) (x_move rfl) rfl (W_v (.int .i64 (t8074.length : Int)) (x_len_slice (n := t8074.length) Try.underlying22 rfl) rfl (W_v (.bool (decide (x8516 < (t8074.length : Int)))) (x_ibin rfl rfl rfl rfl) rfl (Wl_nil (tn ?_))))))))
                  rcases iteS H with ⟨hb8735, H⟩ | ⟨hb8735, H⟩
                  · refine Wp_cond_true (congrArg Value.bool hb8735) ?_
                    refine Wp_skip (tn (Wp_seq ?_))
                    refine Wp_block ?_
                    refine Wp_seq (Wp_region_lit (W_v (.slice A8076 t8074.length c8077) (x_move rfl) rfl (W_v (.int .i64 x8516) (x_move rfl) rfl ?_)))
                    obtain ⟨⟨p8736, p8737⟩, H⟩ := chkS H
                    obtain ⟨l8746, sh8747, So8748⟩ := S.nss_open 0 rfl
                    have p8749 : x8516 < (l8746.length : Int) := by rw [sh8747.1]; exact p8737
                    obtain ⟨b8738, o8739, cs8740, _, _, ee8745, hb8741, vs8742, hR8743, hc8744⟩ := SlW.at' (So8748.nst_read 0 rfl) p8736 p8749
                    obtain ⟨v8750, hs8751, hq8752, _⟩ := led_api_Event.led hR8743
                    obtain ⟨A8753, c8754, rfl, _⟩ := hs8751.form
                    have hn8755 := sh8747.at p8736 p8737
                    rw [hn8755] at hq8752
                    refine W_v (.pointer (some ⟨b8738, o8739 + x8516.toNat * 7, none⟩)) (x_indexAddr Try.underlying22 ty32 (slA ee8745) rfl p8736 p8737) rfl (W_v (.pointer (some ⟨b8738, o8739 + x8516.toNat * 7 + 1, none⟩)) (x_fieldAddr (o := o8739 + x8516.toNat * 7) (off := 1) Try.underlying32 rfl ty3 rfl rfl) rfl ?_)
                    refine W_nssstore S 0 rfl rfl ee8745 p8736 p8737 1 ty3 rfl rfl [.int .i64 (-7)] rfl rfl rfl rfl (fun x => (⟨x.What, (-7 : Int), x.Call, ⟨x.Answer.Err, x.Answer.Found, x.Answer.Value, x.Answer.Pairs⟩⟩ : api_Event)) (by rintro _ x _ ⟨_, h, rfl⟩; exact ⟨_, h, rfl⟩) (fun _ => rfl) ?_
                    intro w8756 E' S
                    replace E := E.trans E'
                    replace S : St w8756 M8080 F [_, _, _, _] := S
                    refine Wl_nil (tn (Wp_seq (Wp_region_lit (W_v (.int .i64 0) (x_assign rfl) rfl (Wl_nil (tn ?_))))))
                    obtain ⟨o8901, o8901h, o8901H⟩ := bindS H
                    refine Wp_blockJ (fun ρ w' => () = o8901 ∧ Agree ρ [(0, .int .i64 a0), (1, .slice A1 a1.length c1), (5, pt b4457 0), (7, .slice A7991 t7989.1.length c7992), (8, .int .i64 x6729), (22, .slice A8076 t8074.length c8077), (23, .int .i64 x8516)] ∧ Ext w w' ∧ St w' M8080 F [Nss rw_api_Event get_api_Event 32 (.slice A8076 t8074.length c8077) t8074, Blk b4457 (.cells #[.slice A7894 t7892.2.tasks.length c7895, .slice A7897 t7892.2.l.length c7898] 73 (0, 0)), Row r_event_task 70 (.slice A7894 t7892.2.tasks.length c7895) t7892.2.tasks, Row r_api_Event 32 (.slice A7897 t7892.2.l.length c7898) t7892.2.l]) ?_ ?_
                    · skip
                      refine Wp_loop (fun n ρ w' => ∃ (x8853 : Int), ferrymanlaw06_EventPlays_l49 t8074 x8516 n x8853 = some o8901 ∧ Agree ρ [(0, .int .i64 a0), (1, .slice A1 a1.length c1), (5, pt b4457 0), (7, .slice A7991 t7989.1.length c7992), (8, .int .i64 x6729), (22, .slice A8076 t8074.length c8077), (23, .int .i64 x8516), (24, .int .i64 x8853)] ∧ Ext w w' ∧ St w' M8080 F [Nss rw_api_Event get_api_Event 32 (.slice A8076 t8074.length c8077) t8074, Blk b4457 (.cells #[.slice A7894 t7892.2.tasks.length c7895, .slice A7897 t7892.2.l.length c7898] 73 (0, 0)), Row r_event_task 70 (.slice A7894 t7892.2.tasks.length c7895) t7892.2.tasks, Row r_api_Event 32 (.slice A7897 t7892.2.l.length c7898) t7892.2.l]) k ?_ ?_
                      · skip
                        exact ⟨(0 : Int), o8901h, ⟨rfl, rfl, rfl, rfl, rfl, rfl, rfl, rfl, trivial⟩, E, S.pick [0, 1, 2, 3] (by decide)⟩
                      · intro n
                        rintro ρ w8902 ⟨x8853, H, hρ, E, S⟩
                        rw [agree_eta hρ]
                        cases n with
                        | zero => cases H
                        | succ k =>
                          rw [ferrymanlaw06_EventPlays_l49.eq_2] at H
                          refine Wp_seq (Wp_seq (Wp_region_lit (W_v (.int .i64 x8853) (x_move rfl) rfl (W_v (.slice A8076 t8074.length c8077) (x_move rfl) rfl (W_v (.int .i64 x8516) (x_move rfl) rfl ?_)))))
                          obtain ⟨⟨p8903, p8904⟩, H⟩ := chkS H
                          obtain ⟨l8913, sh8914, So8915⟩ := S.nss_open 0 rfl
                          have p8916 : x8516 < (l8913.length : Int) := by rw [sh8914.1]; exact p8904
                          obtain ⟨b8905, o8906, cs8907, _, _, ee8912, hb8908, vs8909, hR8910, hc8911⟩ := SlW.at' (So8915.nst_read 0 rfl) p8903 p8916
                          obtain ⟨v8917, hs8918, hq8919, _⟩ := led_api_Event.led hR8910
                          obtain ⟨A8920, c8921, rfl, _⟩ := hs8918.form
                          have hn8922 := sh8914.at p8903 p8904
                          rw [hn8922] at hq8919
                          refine W_v (.pointer (some ⟨b8905, o8906 + x8516.toNat * 7, none⟩)) (x_indexAddr Try.underlying22 ty32 (slA ee8912) rfl p8903 p8904) rfl (W_v (.pointer (some ⟨b8905, o8906 + x8516.toNat * 7 + 3, none⟩)) (x_fieldAddr (o := o8906 + x8516.toNat * 7) (off := 3) Try.underlying32 rfl ty30 rfl rfl) rfl (W_v (.pointer (some ⟨b8905, o8906 + x8516.toNat * 7 + 3 + 3, none⟩)) (x_fieldAddr (o := o8906 + x8516.toNat * 7 + 3) (off := 3) Try.underlying30 rfl ty28 rfl rfl) rfl (W_v (.slice A8920 ((rd t8074 x8516).Answer.Pairs).length c8921) (x_load (Hp.of_get hb8908) ty28 rfl (hc8911 6 _ hq8919)) rfl (W_v (.int .i64 (((rd t8074 x8516).Answer.Pairs).length : Int)) (x_len_slice (n := ((rd t8074 x8516).Answer.Pairs).length) Try.underlying28 rfl) rfl (W_v (.bool (decide (x8853 < (((rd t8074 x8516).Answer.Pairs).length : Int)))) (x_ibin rfl rfl rfl rfl) rfl (Wl_nil (tn ?_)))))))
                          rcases iteS H with ⟨hb8923, H⟩ | ⟨hb8923, H⟩
                          · refine Wp_cond_true (congrArg Value.bool hb8923) ?_
                            refine Wp_skip (tn (Wp_seq ?_))
                            refine Wp_block ?_
                            refine Wp_region_lit (W_v (.slice A8076 t8074.length c8077) (x_move rfl) rfl (W_v (.int .i64 x8516) (x_move rfl) rfl ?_))
                            obtain ⟨⟨p8924, p8925⟩, H⟩ := chkS H
                            obtain ⟨l8934, sh8935, So8936⟩ := S.nss_open 0 rfl
                            have p8937 : x8516 < (l8934.length : Int) := by rw [sh8935.1]; exact p8925
                            obtain ⟨b8926, o8927, cs8928, _, _, ee8933, hb8929, vs8930, hR8931, hc8932⟩ := SlW.at' (So8936.nst_read 0 rfl) p8924 p8937
                            obtain ⟨v8938, hs8939, hq8940, _⟩ := led_api_Event.led hR8931
                            obtain ⟨A8941, c8942, rfl, _⟩ := hs8939.form
                            have hn8943 := sh8935.at p8924 p8925
                            rw [hn8943] at hq8940
                            refine W_v (.pointer (some ⟨b8926, o8927 + x8516.toNat * 7, none⟩)) (x_indexAddr Try.underlying22 ty32 (slA ee8933) rfl p8924 p8925) rfl (W_v (.pointer (some ⟨b8926, o8927 + x8516.toNat * 7 + 3, none⟩)) (x_fieldAddr (o := o8927 + x8516.toNat * 7) (off := 3) Try.underlying32 rfl ty30 rfl rfl) rfl (W_v (.pointer (some ⟨b8926, o8927 + x8516.toNat * 7 + 3 + 3, none⟩)) (x_fieldAddr (o := o8927 + x8516.toNat * 7 + 3) (off := 3) Try.underlying30 rfl ty28 rfl rfl) rfl (W_v (.slice A8941 ((rd t8074 x8516).Answer.Pairs).length c8942) (x_load (Hp.of_get hb8929) ty28 rfl (hc8932 6 _ hq8940)) rfl (W_v (.int .i64 x8853) (x_move rfl) rfl ?_))))
                            obtain ⟨⟨p8944, p8945⟩, H⟩ := chkS H
                            obtain ⟨b8946, o8947, _, _, _, ee8948, _⟩ := SlW.at' (i := x8853) hs8939.r p8944 (by rw [hn8943]; exact p8945)
                            refine W_v (.pointer (some ⟨b8946, o8947 + x8853.toNat * 2, none⟩)) (x_indexAddr Try.underlying28 ty43 (slA ee8948) rfl p8944 p8945) rfl (W_v (.pointer (some ⟨b8946, o8947 + x8853.toNat * 2, none⟩)) (x_fieldAddr (o := o8947 + x8853.toNat * 2) (off := 0) Try.underlying43 rfl ty9 rfl rfl) rfl ?_)
                            refine W_nssin So8936 0 rfl sh8935 rfl ee8933 p8924 p8937 led_api_Event txt_api_Pair hb8929 (hc8932 6 _ hq8940) (by decide) ee8948 p8944 p8945 0 rfl ty9 rfl ([115, 112, 111, 105, 108, 116] : Str) rfl ?_
                            intro w8949 E' S
                            replace E := E.trans E'
                            replace S : St w8949 M8080 F [_, _, _, _] := S
                            refine Wl_nil (bn (tn (Wp_region_lit (W_v (.int .i64 x8853) (x_move rfl) rfl (W_v (.int .i64 (IntKind.i64.wrap (x8853 + (1 : Int)))) (x_ibin rfl rfl rfl rfl) rfl (W_v (.int .i64 (IntKind.i64.wrap (x8853 + (1 : Int)))) (x_assign rfl) rfl (Wl_nil (tn ?_))))))))
                            exact ⟨k, Nat.lt_succ_self k, ⟨(IntKind.i64.wrap (x8853 + (1 : Int))), H, ⟨rfl, rfl, rfl, rfl, rfl, rfl, rfl, rfl, trivial⟩, E, S.pick [0, 1, 2, 3] (by decide)⟩⟩
                          refine Wp_cond_false (congrArg Value.bool hb8923) ?_
                          refine Wp_exit ?_
                          refine tx (tx (bsm (?_)))
                          refine tn ?_
                          exact ⟨Option.some.inj H, ⟨rfl, rfl, rfl, rfl, rfl, rfl, rfl, trivial⟩, E, S.pick [0, 1, 2, 3] (by decide)⟩
                    rintro ρ w8950 ⟨rfl, hρ, E, S⟩
                    rw [agree_eta hρ]
                    have H := o8901H
                    refine bn (tn (Wp_region_lit (W_v (.int .i64 x8516) (x_move rfl) rfl (W_v (.int .i64 (IntKind.i64.wrap (x8516 + (1 : Int)))) (x_ibin rfl rfl rfl rfl) rfl (W_v (.int .i64 (IntKind.i64.wrap (x8516 + (1 : Int)))) (x_assign rfl) rfl (Wl_nil (tn ?_)))))))
                    exact ⟨k, Nat.lt_succ_self k, ⟨(IntKind.i64.wrap (x8516 + (1 : Int))), H, ⟨rfl, rfl, rfl, rfl, rfl, rfl, rfl, trivial⟩, E, S.pick [0, 1, 2, 3] (by decide)⟩⟩
                  refine Wp_cond_false (congrArg Value.bool hb8735) ?_
                  refine Wp_exit ?_
                  refine tx (tx (bsm (?_)))
                  refine tn ?_
                  exact ⟨Option.some.inj H, ⟨rfl, rfl, rfl, rfl, rfl, trivial⟩, E, S.pick [1, 2, 3] (by decide)⟩
            rintro ρ w8951 ⟨rfl, hρ, E, S⟩
            rw [agree_eta hρ]
            have H := o8733H
            refine bn (tn (Wp_region_lit (W_v (.int .i64 x6729) (x_move rfl) rfl (W_v (.int .i64 (IntKind.i64.wrap (x6729 + (1 : Int)))) (x_ibin rfl rfl rfl rfl) rfl (W_v (.int .i64 (IntKind.i64.wrap (x6729 + (1 : Int)))) (x_assign rfl) rfl (Wl_nil (tn ?_)))))))
            exact ⟨k, Nat.lt_succ_self k, ⟨t7989.1, (IntKind.i64.wrap (x6729 + (1 : Int))), t7892.2.tasks, t7892.2.l, A7991, c7992, A7894, c7895, A7897, c7898, M8080, H, ⟨rfl, rfl, rfl, rfl, rfl, trivial⟩, hM7846, E, S.pick [2, 1, 0] (by decide), hs7993⟩⟩
          refine Wp_cond_false (congrArg Value.bool hb7847) ?_
          refine Wp_exit ?_
          refine tx (tx (bsm (?_)))
          refine tn ?_
          exact ⟨M7845, Option.some.inj H, trivial, hM7846, E, S.pick [] (by decide)⟩
    rintro ρ w8952 ⟨M8953, rfl, hρ, hM8954, E, S⟩
    rw [agree_eta hρ]
    replace HM := Hp.le_trans HM hM8954
    replace hr1 := SlR.mono hr1 hM8954
    have H := o7843H
    replace H := elimR H
    refine tn ?_
    as_aux_lemma =>
    refine Wp_seq (Wp_region_lit ?_)
    obtain ⟨t8955, ht8956, H⟩ := bindS H
    refine W_callF fn10 (ferrymanlaw06_works.con k M8953  t8955  ht8956) S rfl rfl (by rintro _ _ _ ⟨_, rfl⟩; exact flat_nil) ?_
    rintro _ w8957 _ Γ' E' S ⟨rfl, rfl⟩
    replace E := E.trans E'
    refine W_v (.bool t8955) (x_assign rfl) rfl (Wl_nil (tn ?_))
    refine Wp_ret ?_
    obtain rfl := Option.some.inj H
    exact ⟨_, _, _, fun w1 e1 => run_resR (vs := [.bool t8955]) (FA.cons (rfl) (FA.nil)), HM, E, S.pick [] (by decide), ⟨rfl, rfl⟩⟩
end Go.Proofs.Ytninegjnkkcepaa
