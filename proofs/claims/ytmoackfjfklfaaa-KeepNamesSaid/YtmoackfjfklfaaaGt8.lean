import Derived.Test.YtmoackfjfklfaaaTyt8
namespace Go.Proofs.Ytmoackfjfklfaaa
open Go
set_option linter.unusedVariables false
set_option linter.unusedSimpArgs false
structure api_Version where
  Writer : Int
  TS : Int
  Tomb : Bool
  Value : Str
instance : Inhabited api_Version := ⟨⟨0, 0, false, []⟩⟩
def r_api_Version : Rep api_Version where
  sz := 4
  R := fun _ x cs => cs = [.int .i64 x.Writer, .int .i64 x.TS, .bool x.Tomb, .string (bs x.Value)]
  len := fun h => by subst h; rfl
  one := by
    intro M x cs h
    subst h
    exact fun v hv => List.all_eq_true.1 (show (List.all [.int .i64 x.Writer, .int .i64 x.TS, .bool x.Tomb, .string (bs x.Value)] (·.oneCell')) = true from rfl) v hv
  mono := fun _ h => h
/-! ### ferryman/keep.till$1: function 27 -/
def keep_till_1_l0 {σ ε : Type} (a0 : (List api_Version)) (a1 : Int) (bd : Int × Bool → σ → Option (σ ⊕ ε)) : Nat → Int → σ ⊕ ε → Option ((σ ⊕ ε) ⊕ (σ ⊕ ε))
  | 0, _, _ => none
  | k + 1, x53, x54 => (if (decide (x53 < (a0.length : Int))) = true then (if 0 ≤ x53 ∧ x53 < (a0.length : Int) then (Option.bind (toL x54) (fun s99 => Option.bind (bd (x53, (decide ((rd a0 x53).TS ≤ a1))) s99) (fun t101 => (if ((!(isNorm t101)) || (decide ((rd a0 x53).TS ≤ a1))) = true then some (.inl t101) else keep_till_1_l0 a0 a1 bd k (IntKind.i64.wrap (x53 + (1 : Int))) t101)))) else none) else some (.inr (x54)))
set_option maxHeartbeats 2000000 in
theorem keep_till_1_l0.mono {σ ε : Type} {a0 : (List api_Version)} {a1 : Int} {bd bd' : Int × Bool → σ → Option (σ ⊕ ε)} (hbd : ∀ x s, OLe (bd x s) (bd' x s)) : ∀ {k : Nat} {x0 x1}, OLe (keep_till_1_l0 a0 a1 bd k x0 x1) (keep_till_1_l0 a0 a1 bd' (k + 1) x0 x1) := by
  intro k
  induction k with
  | zero => intros; exact OLe.none
  | succ k ih =>
    intros
    rw [keep_till_1_l0.eq_2, keep_till_1_l0.eq_2]
    repeat' (first | exact OLe.none | exact OLe.some | exact OLe.toL | exact hbd _ _ | exact ih | refine OLe.bind ?_ (fun _ => ?_) | refine OLe.ite ?_ ?_ | refine OLe.elim (fun _ => ?_) (fun _ => ?_) | split)
def keep_till_1 {σ ε : Type} (k : Nat) (a0 : (List api_Version)) (a1 : Int) (bd : Int × Bool → σ → Option (σ ⊕ ε)) (s0 : σ) : Option (σ ⊕ ε) :=
  (Option.bind (keep_till_1_l0 a0 a1 bd k (0 : Int) (.inl s0)) (fun o80o => Sum.elim (fun r' => some r') (fun x79 => some x79) o80o))
set_option maxHeartbeats 2000000 in
theorem keep_till_1.mono {σ ε : Type} {k : Nat} {a0 : (List api_Version)} {a1 : Int} {bd bd' : Int × Bool → σ → Option (σ ⊕ ε)} (hbd : ∀ x s, OLe (bd x s) (bd' x s)) {s0 : σ} : OLe (keep_till_1 k a0 a1 bd s0) (keep_till_1 (k + 1) a0 a1 bd' s0) := by
  unfold keep_till_1
  repeat' (first | exact OLe.none | exact OLe.some | exact keep_till_1_l0.mono hbd | exact OLe.toL | exact hbd _ _ | refine OLe.bind ?_ (fun _ => ?_) | refine OLe.ite ?_ ?_ | refine OLe.elim (fun _ => ?_) (fun _ => ?_) | split)
set_option maxHeartbeats 4000000 in
set_option maxRecDepth 100000 in
theorem keep_till_1.con {σ ε : Type} (k : Nat) (M : Hp) (A0 : Option Addr) (c0 : Nat) (a0 : (List api_Version)) (a1 : Int) (b0 : Nat) (b1 : Nat) (bd : Int × Bool → σ → Option (σ ⊕ ε)) (s0 : σ) (r : σ ⊕ ε) (hr0 : SlR r_api_Version M (.slice A0 a0.length c0) a0) (h : keep_till_1 k a0 a1 bd s0 = some r) : Iter Try.prog 27 [.pointer (some ⟨b0, 0, none⟩), .pointer (some ⟨b1, 0, none⟩)] M (fun (M : Hp) (x : Int × Bool) (vs : List Value) => vs = [.int .i64 x.1, .bool x.2]) bd s0 r [Blk b0 (.cells #[.slice A0 a0.length c0] 22 (0, 0)), Blk b1 (.cells #[.int .i64 a1] 3 (0, 0))] (fun M' Γ' => Γ' = [Blk b0 (.cells #[.slice A0 a0.length c0] 22 (0, 0)), Blk b1 (.cells #[.int .i64 a1] 3 (0, 0))]) := by
  intro lp B hY
  refine con_of_wp Try.func27 rfl Try.ntmps27 Try.results27 rfl ?_
  intro w F rn S hrn
  have E := Ext.refl w
  have HM := Hp.le_refl M
  have H := h
  unfold keep_till_1 at H
  refine Wp_seq ?_
  refine Wp_region_lit ?_
  refine W_v (.slice A0 a0.length c0) (x_load (S.blk 1 rfl) ty22 rfl rfl) rfl ?_
  refine W_v (.int .i64 (a0.length : Int)) (x_len_slice (n := a0.length) Try.underlying22 rfl) rfl ?_
  refine W_v (.int .i64 0) (x_move rfl) rfl ?_
  refine Wl_nil ?_
  refine tn ?_
  obtain ⟨o80, o80h, o80H⟩ := bindS H
  clear H
  refine Wp_blockJ (fun ρ w' => ∃ (x79 : σ ⊕ ε) (Mj : Hp), .inr (x79) = o80 ∧ Agree ρ [] ∧ M.le Mj ∧ Ext w w' ∧ St w' Mj F [Blk b0 (.cells #[.slice A0 a0.length c0] 22 (0, 0)), Blk b1 (.cells #[.int .i64 a1] 3 (0, 0)), B x79]) ?_ ?_
  · skip
    refine Wp_loop (fun n ρ w' => ∃ (x53 : Int) (x54 : σ ⊕ ε) (Mj : Hp), keep_till_1_l0 a0 a1 bd n x53 x54 = some o80 ∧ Agree ρ [(0, .func (.yield lp) #[] #[]), (2, .pointer (some ⟨b1, 0, none⟩)), (6, .slice A0 a0.length c0), (7, .int .i64 (a0.length : Int)), (8, .int .i64 x53)] ∧ M.le Mj ∧ Ext w w' ∧ St w' Mj F [Blk b0 (.cells #[.slice A0 a0.length c0] 22 (0, 0)), Blk b1 (.cells #[.int .i64 a1] 3 (0, 0)), B x54]) k ?_ ?_
    · skip
      exact ⟨(0 : Int), (.inl s0), M, o80h, ⟨rfl, rfl, rfl, rfl, rfl, trivial⟩, (Hp.le_refl M), E, S.pick [1, 2, 0] (by decide)⟩
    · intro n
      rintro ρ w81 ⟨x53, x54, M82, H, hρ, hM83, E, S⟩
      rw [agree_eta hρ]
      clear hρ
      replace HM := Hp.le_trans HM hM83
      replace hr0 := SlR.mono hr0 hM83
      cases n with
      | zero => cases H
      | succ k =>
        rw [keep_till_1_l0.eq_2] at H
        refine Wp_seq ?_
        refine Wp_region_lit ?_
        refine W_v (.bool (decide (x53 < (a0.length : Int)))) (x_ibin rfl rfl rfl rfl) rfl ?_
        refine Wl_nil ?_
        refine tn ?_
        refine Wp_seq ?_
        rcases iteS H with ⟨hb84, H⟩ | ⟨hb84, H⟩
        · refine Wp_cond_true (congrArg Value.bool hb84) ?_
          refine Wp_skip ?_
          refine tn ?_
          refine Wp_seq ?_
          refine Wp_block ?_
          refine Wp_seq ?_
          refine Wp_region_lit ?_
          refine W_v (.int .i64 x53) (x_move rfl) rfl ?_
          obtain ⟨⟨p85, p86⟩, H⟩ := chkS H
          obtain ⟨b87, o88, cs89, _, _, ee94, hb90, vs91, hR92, hc93⟩ := SlW.at' hr0 p85 p86
          obtain rfl : vs91 = _ := hR92
          refine W_v (.pointer (some ⟨b87, o88 + x53.toNat * 4, none⟩)) (x_indexAddr Try.underlying22 ty27 (slA ee94) rfl p85 p86) rfl ?_
          refine W_v (.agg #[.int .i64 ((rd a0 x53).Writer), .int .i64 ((rd a0 x53).TS), .bool ((rd a0 x53).Tomb), .string (bs ((rd a0 x53).Value))]) (x_loadA (S.frz hb90) ty27 rfl (sub_el hc93 0 rfl) rfl rfl) rfl ?_
          refine W_alloc S #[.int .i64 0, .int .i64 0, .bool false, .string (bs ([] : Str))] ty27 rfl rfl ?_
          intro b95 w96 E' S
          replace E := E.trans E'
          clear E'
          refine W_v (.int .i64 x53) (x_assign rfl) rfl ?_
          refine W_store S 0 rfl ty27 rfl rfl [.int .i64 ((rd a0 x53).Writer), .int .i64 ((rd a0 x53).TS), .bool ((rd a0 x53).Tomb), .string (bs ((rd a0 x53).Value))] rfl rfl rfl #[.int .i64 ((rd a0 x53).Writer), .int .i64 ((rd a0 x53).TS), .bool ((rd a0 x53).Tomb), .string (bs ((rd a0 x53).Value))] rfl rfl ?_
          intro w98 E' S
          replace E := E.trans E'
          clear E'
          refine Wl_nil ?_
          refine tn ?_
          refine Wp_seq ?_
          refine Wp_region_lit ?_
          refine W_v (.func (.yield lp) #[] #[]) (x_move rfl) rfl ?_
          refine W_v (.int .i64 x53) (x_move rfl) rfl ?_
          refine W_v (.pointer (some ⟨b95, 1, none⟩)) (x_fieldAddr (o := 0) (off := 1) Try.underlying27 rfl ty3 rfl rfl) rfl ?_
          refine W_v (.int .i64 ((rd a0 x53).TS)) (x_load (S.blk 0 rfl) ty3 rfl rfl) rfl ?_
          refine W_v (.int .i64 a1) (x_load (S.blk 2 rfl) ty3 rfl rfl) rfl ?_
          refine W_v (.bool (decide ((rd a0 x53).TS ≤ a1))) (x_ibin rfl rfl rfl rfl) rfl ?_
          obtain ⟨s99, hs100, H⟩ := bindS H
          obtain ⟨t101, ht102, H⟩ := bindS H
          rw [toL_eq hs100] at S
          replace S : St w98 M82 F [B (.inl s99), Blk b95 (.cells #[.int .i64 ((rd a0 x53).Writer), .int .i64 ((rd a0 x53).TS), .bool ((rd a0 x53).Tomb), .string (bs ((rd a0 x53).Value))] 27 (0, 0)), Blk b0 (.cells #[.slice A0 a0.length c0] 22 (0, 0)), Blk b1 (.cells #[.int .i64 a1] 3 (0, 0))] := S.pick [3, 0, 1, 2] (by decide)
          refine W_yield rfl (hY _ (x53, (decide ((rd a0 x53).TS ≤ a1))) _ s99 t101 HM (rfl) ht102) S rfl rfl ?_
          rintro _ w103 M104 _ hM105 E' S ⟨rfl, rfl⟩
          replace HM := Hp.le_trans HM hM105
          replace hM83 := Hp.le_trans hM83 hM105
          replace hr0 := SlR.mono hr0 hM105
          replace hb90 := hM105 _ _ hb90
          replace E := E.trans E'
          clear E'
          refine W_v (.bool (!(isNorm t101))) (x_not rfl) rfl ?_
          refine W_v (.bool (!(isNorm t101))) (x_move rfl) rfl ?_
          refine Wl_cutN 5 (fun ρ w' => Agree ρ [(0, .func (.yield lp) #[] #[]), (2, .pointer (some ⟨b1, 0, none⟩)), (6, .slice A0 a0.length c0), (7, .int .i64 (a0.length : Int)), (8, .int .i64 x53), (26, .bool ((!(isNorm t101)) || (decide ((rd a0 x53).TS ≤ a1))))] ∧ w103 = w') ?_ ?_
          · rcases boolCases (!(isNorm t101)) with hb106 | hb106
            · skip
              refine W_yes (congrArg some hb106) ?_
              refine W_v (.pointer (some ⟨b95, 1, none⟩)) (x_fieldAddr (o := 0) (off := 1) Try.underlying27 rfl ty3 rfl rfl) rfl ?_
              refine W_yes (congrArg some hb106) ?_
              refine W_v (.int .i64 ((rd a0 x53).TS)) (x_load (S.blk 1 rfl) ty3 rfl rfl) rfl ?_
              refine W_yes (congrArg some hb106) ?_
              refine W_v (.int .i64 a1) (x_load (S.blk 3 rfl) ty3 rfl rfl) rfl ?_
              refine W_yes (congrArg some hb106) ?_
              refine W_v (.bool (decide ((rd a0 x53).TS ≤ a1))) (x_ibin rfl rfl rfl rfl) rfl ?_
              refine W_v (.bool (decide ((rd a0 x53).TS ≤ a1))) (x_pick (k := false) (congrArg Value.bool hb106) rfl) rfl ?_
              refine Wl_nil ?_
              exact ⟨⟨rfl, rfl, rfl, rfl, rfl, (by first | rfl | (rw [hb106]; rfl) | (simp only [hb106]; rfl)), trivial⟩, rfl⟩
            · skip
              refine W_no (skF hb106) rfl ?_
              refine W_no (skF hb106) rfl ?_
              refine W_no (skF hb106) rfl ?_
              refine W_no (skF hb106) rfl ?_
              refine W_v (.bool true) (x_pick (k := true) (congrArg Value.bool hb106) rfl) rfl ?_
              refine Wl_nil ?_
              exact ⟨⟨rfl, rfl, rfl, rfl, rfl, (by first | rfl | (rw [hb106]; rfl) | (simp only [hb106]; rfl)), trivial⟩, rfl⟩
          · rintro ρ _ ⟨hρ, rfl⟩
            rw [agree_eta hρ]
            clear hρ
            skip
            refine Wl_nil ?_
            refine tn ?_
            rcases iteS H with ⟨hb107, H⟩ | ⟨hb107, H⟩
            · refine Wp_cond_true (congrArg Value.bool hb107) ?_
              refine Wp_ret ?_
              refine br (tr (tr (br (tr (?_)))))
              obtain rfl := Option.some.inj H
              have H := o80H
              replace H := elimL H
              obtain rfl := Option.some.inj H
              exact ⟨_, _, _, fun w1 e1 => run_resR (vs := []) FA.nil, HM, E, S.pick [0, 2, 3] (by decide), ⟨_, rfl, rfl⟩⟩
            · refine Wp_cond_false (congrArg Value.bool hb107) ?_
              refine Wp_skip ?_
              refine bn ?_
              refine tn ?_
              refine Wp_region_lit ?_
              refine W_v (.int .i64 (IntKind.i64.wrap (x53 + (1 : Int)))) (x_ibin rfl rfl rfl rfl) rfl ?_
              refine W_v (.int .i64 (IntKind.i64.wrap (x53 + (1 : Int)))) (x_move rfl) rfl ?_
              refine Wl_nil ?_
              refine tn ?_
              exact ⟨k, Nat.lt_succ_self k, ⟨(IntKind.i64.wrap (x53 + (1 : Int))), t101, M104, H, ⟨rfl, rfl, rfl, rfl, rfl, trivial⟩, hM83, E, S.pick [2, 3, 0] (by decide)⟩⟩
        · refine Wp_cond_false (congrArg Value.bool hb84) ?_
          refine Wp_exit ?_
          refine tx (tx (bsm (?_)))
          refine tn ?_
          exact ⟨x54, M82, Option.some.inj H, trivial, hM83, E, S.pick [0, 1, 2] (by decide)⟩
  · clear o80h
    rintro ρ w108 ⟨x79, M109, rfl, hρ, hM110, E, S⟩
    rw [agree_eta hρ]
    clear hρ
    replace HM := Hp.le_trans HM hM110
    replace hr0 := SlR.mono hr0 hM110
    have H := o80H
    clear o80H
    replace H := elimR H
    obtain rfl := Option.some.inj H
    exact ⟨_, _, _, fun w1 e1 => run_resR (vs := []) FA.nil, HM, E, S.pick [2, 0, 1] (by decide), ⟨_, rfl, rfl⟩⟩
/-! ### ferryman/keep.till: function 22 -/
def keep_till (k : Nat) (a0 : (List api_Version)) (a1 : Int) : Option (Unit) :=
  some ()
set_option maxHeartbeats 2000000 in
theorem keep_till.mono {k : Nat} {a0 : (List api_Version)} {a1 : Int} : OLe (keep_till k a0 a1) (keep_till (k + 1) a0 a1) := by
  unfold keep_till
  repeat' (first | exact OLe.none | exact OLe.some | refine OLe.bind ?_ (fun _ => ?_) | refine OLe.ite ?_ ?_ | refine OLe.elim (fun _ => ?_) (fun _ => ?_) | split)
set_option maxHeartbeats 4000000 in
set_option maxRecDepth 100000 in
theorem keep_till.con (k : Nat) (M : Hp) (A0 : Option Addr) (c0 : Nat) (a0 : (List api_Version)) (a1 : Int) (r : Unit) (hr0 : SlR r_api_Version M (.slice A0 a0.length c0) a0) (h : keep_till k a0 a1 = some r) : Con Try.prog 22 #[.slice A0 a0.length c0, .int .i64 a1] M [] (fun v M' Γ' => ∃ (b1 : Nat) (b4 : Nat), v = .func (.func 27) #[] #[.pointer (some ⟨b1, 0, none⟩), .pointer (some ⟨b4, 0, none⟩)] ∧ Γ' = [Blk b1 (.cells #[.slice A0 a0.length c0] 22 (0, 0)), Blk b4 (.cells #[.int .i64 a1] 3 (0, 0))]) := by
  refine con_of_wp Try.func22 rfl Try.ntmps22 Try.results22 rfl ?_
  intro w F rn S hrn
  have E := Ext.refl w
  have HM := Hp.le_refl M
  have H := h
  unfold keep_till at H
  refine Wp_seq ?_
  refine Wp_region_lit ?_
  refine W_box S #[.slice A0 a0.length c0] rfl rfl rfl ?_
  intro b1 w2 E' S
  replace E := E.trans E'
  clear E'
  refine W_box S #[.int .i64 a1] rfl rfl rfl ?_
  intro b4 w5 E' S
  replace E := E.trans E'
  clear E'
  refine W_v (.nilFunc) (x_assign rfl) rfl ?_
  refine Wl_nil ?_
  refine tn ?_
  refine Wp_seq ?_
  refine Wp_region_lit ?_
  refine W_v (.func (.func 27) #[] #[.pointer (some ⟨b1, 0, none⟩), .pointer (some ⟨b4, 0, none⟩)]) (x_makeFunc rfl) rfl ?_
  refine W_v (.func (.func 27) #[] #[.pointer (some ⟨b1, 0, none⟩), .pointer (some ⟨b4, 0, none⟩)]) (x_assign rfl) rfl ?_
  refine Wl_nil ?_
  refine tn ?_
  refine Wp_ret ?_
  obtain rfl := Option.some.inj H
  exact ⟨_, _, _, fun w1 e1 => run_resR (vs := [.func (.func 27) #[] #[.pointer (some ⟨b1, 0, none⟩), .pointer (some ⟨b4, 0, none⟩)]]) (FA.cons rfl FA.nil), HM, E, S.pick [1, 0] (by decide), ⟨b1, b4, rfl, rfl⟩⟩
/-! ### slices.Clone[[]ferryman/api.Version,ferryman/api.Version]: function 23 -/
def slices_Clone_api_Version_api_Version (k : Nat) (a0 : List api_Version) : Option (List api_Version) :=
  if ([] : List api_Version).length + a0.length ≤ 3518437208883 then some (([] : List api_Version) ++ a0) else none
set_option maxHeartbeats 2000000 in
theorem slices_Clone_api_Version_api_Version.mono {k : Nat} {a0 : List api_Version} : OLe (slices_Clone_api_Version_api_Version k a0) (slices_Clone_api_Version_api_Version (k + 1) a0) := by
  unfold slices_Clone_api_Version_api_Version
  repeat' (first | exact OLe.none | exact OLe.some | refine OLe.bind ?_ (fun _ => ?_) | refine OLe.ite ?_ ?_ | refine OLe.elim (fun _ => ?_) (fun _ => ?_) | split)
set_option maxHeartbeats 4000000 in
set_option maxRecDepth 100000 in
theorem slices_Clone_api_Version_api_Version.con (k : Nat) (M : Hp) (A0 : Option Addr) (c0 : Nat) (a0 : (List api_Version)) (r : (List api_Version)) (hr0 : SlR r_api_Version M (.slice A0 a0.length c0) a0) (h : slices_Clone_api_Version_api_Version k a0 = some r) : Con Try.prog 23 #[.slice A0 a0.length c0] M [] (fun v M' Γ' => ∃ (A0 : Option Addr) (c0 : Nat), v = .slice A0 r.length c0 ∧ Γ' = [Row r_api_Version 27 (.slice A0 r.length c0) r]) := by
  have H := h
  unfold slices_Clone_api_Version_api_Version at H
  cases A0 with
  | none =>
    obtain ⟨_, H⟩ := chkS H
    obtain rfl : a0 = [] := SlW.none_nil hr0
    refine con_of_wp Try.func23 rfl Try.ntmps23 Try.results23 rfl ?_
    intro w F rn S hrn
    have E := Ext.refl w
    have HM := Hp.le_refl M
    refine Wp_seq ?_
    refine Wp_region_lit ?_
    refine W_v (.slice none 0 0) (x_assign rfl) rfl ?_
    refine Wl_nil ?_
    refine tn ?_
    refine Wp_seq ?_
    refine Wp_seq ?_
    refine Wp_region_lit ?_
    refine W_v (.slice none ([] : List api_Version).length c0) (x_move rfl) rfl ?_
    refine W_v (.bool true) (x_eq_of rfl rfl (run_equal_slice_nil _ _ _ _ _ _ Try.underlying22)) rfl ?_
    refine Wl_nil ?_
    refine tn ?_
    refine Wp_cond_true rfl ?_
    refine Wp_seq ?_
    refine Wp_region_lit ?_
    refine W_v (.slice none 0 0) (x_assign rfl) rfl ?_
    refine Wl_nil ?_
    refine tn ?_
    refine Wp_ret ?_
    refine tr (?_)
    obtain rfl := Option.some.inj H
    replace S := S.row_nil r_api_Version 27
    exact ⟨_, _, _, fun w1 e1 => run_resR (vs := [.slice none 0 0]) (FA.cons (rfl) (FA.nil)), HM, E, S.pick [0] (by decide), ⟨none, 0, rfl, rfl⟩⟩
  | some ad =>
    refine con_of_wp Try.func23 rfl Try.ntmps23 Try.results23 rfl ?_
    intro w F rn S hrn
    have E := Ext.refl w
    have HM := Hp.le_refl M
    refine Wp_seq ?_
    refine Wp_region_lit ?_
    refine W_v (.slice none 0 0) (x_assign rfl) rfl ?_
    refine Wl_nil ?_
    refine tn ?_
    refine Wp_seq ?_
    refine Wp_seq ?_
    refine Wp_region_lit ?_
    refine W_v (.slice (some ad) a0.length c0) (x_move rfl) rfl ?_
    refine W_v (.bool false) (x_eq_of rfl rfl (run_equal_slice_nil _ _ _ _ _ _ Try.underlying22)) rfl ?_
    refine Wl_nil ?_
    refine tn ?_
    refine Wp_cond_false rfl ?_
    refine Wp_skip ?_
    refine tn ?_
    refine Wp_seq ?_
    refine Wp_region_lit ?_
    refine W_bslice S #[] Try.underlying22 ty27 rfl rfl #[] (by kernel_rfl) (by kernel_rfl) rfl ?_
    intro b2 w3 E' S
    replace E := E.trans E'
    clear E'
    replace S := S.blk_row (r := r_api_Version) (l := ([] : List api_Version)) 0 rfl 0 (Nat.le_refl 0) rfl Cells.nil
    refine W_v (.slice (some ad) a0.length c0) (x_move rfl) rfl ?_
    obtain ⟨p5, H⟩ := chkS H
    obtain ⟨src6, hs7, hC8⟩ := src_of_read (P := Try.prog) (ρ := r_api_Version) (l := a0) (SlR.world hr0 S) (by decide)
    refine W_append S 0 rfl rfl rfl Try.underlying22 (.inl Try.underlying22) ty27 rfl (by decide) (by decide) hs7 hC8 rfl (by omega) rfl ?_
    intro v9 w10 E' S
    replace E := E.trans E'
    clear E'
    obtain ⟨A11, c12, rfl, _⟩ := (S.row_read 0 rfl).form
    refine W_v (.slice A11 (([] : List api_Version) ++ a0).length c12) (x_assign rfl) rfl ?_
    refine Wl_nil ?_
    refine tn ?_
    refine Wp_ret ?_
    obtain rfl := Option.some.inj H
    exact ⟨_, _, _, fun w1 e1 => run_resR (vs := [.slice A11 (([] : List api_Version) ++ a0).length c12]) (FA.cons (rfl) (FA.nil)), HM, E, S.pick [0] (by decide), ⟨A11, c12, rfl, rfl⟩⟩
/-! ### ferryman/keep.Kept: function 11 -/
def keep_Kept_b0 (a0 : (List api_Version)) (k : Nat) : (Int × Bool) → Int → Option ((Int) ⊕ (Unit))
  | (y150, y151), x103 => (Option.bind (α := Int) (if (!y151) = true then some (x103) else (if 0 ≤ y150 ∧ y150 < (a0.length : Int) then (Option.bind (α := Int) (if (!((rd a0 y150).Tomb)) = true then some ((IntKind.i64.wrap (y150 + (1 : Int)))) else some (y150)) (fun x189 => some (x189))) else none)) (fun x173 => some (.inl x173)))
set_option maxHeartbeats 2000000 in
theorem keep_Kept_b0.mono {a0 : (List api_Version)} {k : Nat} : ∀ x s, OLe (keep_Kept_b0 a0 k x s) (keep_Kept_b0 a0 (k + 1) x s) := by
  intro x s
  unfold keep_Kept_b0
  repeat' (first | exact OLe.none | exact OLe.some | refine OLe.bind ?_ (fun _ => ?_) | refine OLe.ite ?_ ?_ | refine OLe.elim (fun _ => ?_) (fun _ => ?_) | split)
def keep_Kept (k : Nat) (a0 : (List api_Version)) (a1 : Int) : Option ((List api_Version)) :=
  (Option.bind (keep_till k a0 a1) (fun t8 => (Option.bind (keep_till_1 k a0 a1 (keep_Kept_b0 a0 k) (a0.length : Int)) (fun o147o => Sum.elim (fun x103 => (if 0 ≤ x103 ∧ x103 ≤ x103 ∧ x103 ≤ (a0.length : Int) then (Option.bind (slices_Clone_api_Version_api_Version k (List.take x103.toNat a0)) (fun t203 => some t203)) else none)) (fun _ => none) o147o))))
set_option maxHeartbeats 2000000 in
theorem keep_Kept.mono {k : Nat} {a0 : (List api_Version)} {a1 : Int} : OLe (keep_Kept k a0 a1) (keep_Kept (k + 1) a0 a1) := by
  unfold keep_Kept
  repeat' (first | exact OLe.none | exact OLe.some | exact keep_Kept_b0.mono | exact keep_till.mono | exact keep_till_1.mono (fun _ _ => by first | exact keep_Kept_b0.mono _ _) | exact slices_Clone_api_Version_api_Version.mono | refine OLe.bind ?_ (fun _ => ?_) | refine OLe.ite ?_ ?_ | refine OLe.elim (fun _ => ?_) (fun _ => ?_) | split)
set_option maxHeartbeats 4000000 in
set_option maxRecDepth 100000 in
theorem keep_Kept.con (k : Nat) (M : Hp) (A0 : Option Addr) (c0 : Nat) (a0 : (List api_Version)) (a1 : Int) (r : (List api_Version)) (hr0 : SlR r_api_Version M (.slice A0 a0.length c0) a0) (h : keep_Kept k a0 a1 = some r) : Con Try.prog 11 #[.slice A0 a0.length c0, .int .i64 a1] M [] (fun v M' Γ' => ∃ (A0 : Option Addr) (c0 : Nat), v = .slice A0 r.length c0 ∧ Γ' = [Row r_api_Version 27 (.slice A0 r.length c0) r]) := by
  refine con_of_wp Try.func11 rfl Try.ntmps11 Try.results11 rfl ?_
  intro w F rn S hrn
  have E := Ext.refl w
  have HM := Hp.le_refl M
  have H := h
  unfold keep_Kept at H
  refine Wp_seq ?_
  refine Wp_region_lit ?_
  refine W_box S #[.slice A0 a0.length c0] rfl rfl rfl ?_
  intro b1 w2 E' S
  replace E := E.trans E'
  clear E'
  refine W_v (.slice none 0 0) (x_assign rfl) rfl ?_
  refine Wl_nil ?_
  refine tn ?_
  refine Wp_seq ?_
  refine Wp_region_lit ?_
  refine W_v (.slice A0 a0.length c0) (x_load (S.blk 0 rfl) ty22 rfl rfl) rfl ?_
  refine W_v (.int .i64 (a0.length : Int)) (x_len_slice (n := a0.length) Try.underlying22 rfl) rfl ?_
  refine W_alloc S #[.int .i64 0] ty3 rfl rfl ?_
  intro b4 w5 E' S
  replace E := E.trans E'
  clear E'
  refine W_store S 0 rfl ty3 rfl rfl [.int .i64 (a0.length : Int)] rfl rfl rfl #[.int .i64 (a0.length : Int)] rfl rfl ?_
  intro w7 E' S
  replace E := E.trans E'
  clear E'
  refine Wl_nil ?_
  refine tn ?_
  refine Wp_seq ?_
  refine Wp_seq ?_
  refine Wp_region_lit ?_
  refine W_v (.slice A0 a0.length c0) (x_load (S.blk 1 rfl) ty22 rfl rfl) rfl ?_
  refine W_v (.int .i64 a1) (x_move rfl) rfl ?_
  obtain ⟨t8, ht9, H⟩ := bindS H
  refine W_callF fn22 (keep_till.con k M A0 c0 a0 a1 t8 hr0 ht9) S rfl rfl (by rintro _ _ _ ⟨_, _, rfl, rfl⟩; exact (flat_cons flat_blk (flat_cons flat_blk flat_nil))) ?_
  rintro _ w14 _ Γ' E' S ⟨b10, b12, rfl, rfl⟩
  replace E := E.trans E'
  clear E'
  replace S : St w14 M F [Blk b10 (.cells #[.slice A0 a0.length c0] 22 (0, 0)), Blk b12 (.cells #[.int .i64 a1] 3 (0, 0)), Blk b4 (.cells #[.int .i64 (a0.length : Int)] 3 (0, 0)), Blk b1 (.cells #[.slice A0 a0.length c0] 22 (0, 0))] := S
  refine Wl_nil ?_
  refine tn ?_
  refine Wp_block ?_
  obtain ⟨o147, o147h, o147H⟩ := bindS H
  clear H
  refine Wp_rangeFunc (σ := Int) (ε := Unit) (Γi := [Blk b10 (.cells #[.slice A0 a0.length c0] 22 (0, 0)), Blk b12 (.cells #[.int .i64 a1] 3 (0, 0))]) (Γr := []) (Sum.elim (fun x103 => AE (ι := Unit) (fun (i : Unit) => [Blk b4 (.cells #[.int .i64 x103] 3 (0, 0)), Blk b1 (.cells #[.slice A0 a0.length c0] 22 (0, 0))]) (fun _ _ => True) (fun _ _ _ _ _ => trivial)) (fun _ => Star [])) (fun _ => Code.ret) fn27 rfl (St.close_ex (φ := (fun _ _ => True)) (hφ := (fun _ _ _ _ _ => trivial)) () trivial (S.pick [2, 3, 0, 1] (by decide))) (by rintro _ _ _ rfl; rfl) (by decide) (keep_till_1.con k M A0 c0 a0 a1 b10 b12 (keep_Kept_b0 a0 k) (a0.length : Int) o147 hr0 o147h) ?_ ?_
  · intro nn lp M148 F yy vs x103 tt w hM149 henc hbd S
    obtain ⟨y150, y151⟩ := yy
    obtain rfl := henc
    replace HM := Hp.le_trans HM hM149
    replace hr0 := SlR.mono hr0 hM149
    replace S : St w M148 F (AE (ι := Unit) (fun (i : Unit) => [Blk b4 (.cells #[.int .i64 x103] 3 (0, 0)), Blk b1 (.cells #[.slice A0 a0.length c0] 22 (0, 0))]) (fun _ _ => True) (fun _ _ _ _ _ => trivial) :: []) := S
    obtain ⟨_, _, S⟩ := S.open_ex
    replace S : St w M148 F [Blk b4 (.cells #[.int .i64 x103] 3 (0, 0)), Blk b1 (.cells #[.slice A0 a0.length c0] 22 (0, 0))] := S
    have E := Ext.refl w
    have LE152 := Hp.le_refl M148
    have H := hbd
    rw [keep_Kept_b0.eq_1] at H
    refine Wp_seq ?_
    refine Wp_region_lit ?_
    refine W_v (.int .i64 y150) (x_assign rfl) rfl ?_
    refine Wl_nil ?_
    refine tn ?_
    refine Wp_region_lit ?_
    refine W_v (.bool y151) (x_assign rfl) rfl ?_
    refine Wl_nil ?_
    refine on_n ⟨_, _, LE152, E, S, ?_⟩
    intro w F E3 S
    have E := Ext.refl w
    have LE153 := Hp.le_refl M148
    obtain ⟨o174, o174h, o174H⟩ := bindS H
    refine Wp_cut (fun ρ w' => ∃ (x173 : Int), (x173) = o174 ∧ Agree ρ [(2, .pointer (some ⟨b1, 0, none⟩)), (4, .slice none 0 0), (5, .pointer (some ⟨b4, 0, none⟩))] ∧ Ext w w' ∧ St w' M148 F [Blk b4 (.cells #[.int .i64 x173] 3 (0, 0)), Blk b1 (.cells #[.slice A0 a0.length c0] 22 (0, 0))]) ?_ ?_
    · clear o174H
      have H := o174h
      clear o174h
      refine Wp_block ?_
      refine Wp_seq ?_
      refine Wp_seq ?_
      refine Wp_region_lit ?_
      refine W_v (.bool y151) (x_move rfl) rfl ?_
      refine W_v (.bool (!y151)) (x_not rfl) rfl ?_
      refine Wl_nil ?_
      refine tn ?_
      rcases iteS H with ⟨hb175, H⟩ | ⟨hb175, H⟩
      · refine Wp_cond_true (congrArg Value.bool hb175) ?_
        refine Wp_exit ?_
        refine tx (bsm (?_))
        refine tn ?_
        exact ⟨x103, Option.some.inj H, ⟨rfl, rfl, rfl, trivial⟩, E, S.pick [0, 1] (by decide)⟩
      · refine Wp_cond_false (congrArg Value.bool hb175) ?_
        refine Wp_skip ?_
        refine tn ?_
        refine Wp_seq ?_
        refine Wp_region_lit ?_
        refine W_v (.int .i64 y150) (x_move rfl) rfl ?_
        refine W_store S 0 rfl ty3 rfl rfl [.int .i64 y150] rfl rfl rfl #[.int .i64 y150] rfl rfl ?_
        intro w176 E' S
        replace E := E.trans E'
        clear E'
        refine Wl_nil ?_
        refine tn ?_
        refine Wp_seq ?_
        refine Wp_region_lit ?_
        refine W_v (.slice A0 a0.length c0) (x_load (S.blk 1 rfl) ty22 rfl rfl) rfl ?_
        refine W_v (.int .i64 y150) (x_move rfl) rfl ?_
        obtain ⟨⟨p177, p178⟩, H⟩ := chkS H
        obtain ⟨b179, o180, cs181, _, _, ee186, hb182, vs183, hR184, hc185⟩ := SlW.at' hr0 p177 p178
        obtain rfl : vs183 = _ := hR184
        refine W_v (.pointer (some ⟨b179, o180 + y150.toNat * 4, none⟩)) (x_indexAddr Try.underlying22 ty27 (slA ee186) rfl p177 p178) rfl ?_
        refine W_v (.pointer (some ⟨b179, o180 + y150.toNat * 4 + 2, none⟩)) (x_fieldAddr (o := o180 + y150.toNat * 4) (off := 2) Try.underlying27 rfl ty4 rfl rfl) rfl ?_
        refine W_v (.bool ((rd a0 y150).Tomb)) (x_load (S.frz hb182) ty4 rfl (hc185 2 _ rfl)) rfl ?_
        refine W_v (.bool (!((rd a0 y150).Tomb))) (x_not rfl) rfl ?_
        refine Wl_nil ?_
        refine tn ?_
        obtain ⟨o190, o190h, o190H⟩ := bindS H
        refine Wp_cut (fun ρ w' => ∃ (x189 : Int), (x189) = o190 ∧ Agree ρ [(2, .pointer (some ⟨b1, 0, none⟩)), (4, .slice none 0 0), (5, .pointer (some ⟨b4, 0, none⟩))] ∧ Ext w w' ∧ St w' M148 F [Blk b4 (.cells #[.int .i64 x189] 3 (0, 0)), Blk b1 (.cells #[.slice A0 a0.length c0] 22 (0, 0))]) ?_ ?_
        · clear o190H
          have H := o190h
          clear o190h
          rcases iteS H with ⟨hb191, H⟩ | ⟨hb191, H⟩
          · refine Wp_cond_true (congrArg Value.bool hb191) ?_
            refine Wp_region_lit ?_
            refine W_v (.int .i64 y150) (x_move rfl) rfl ?_
            refine W_v (.int .i64 (IntKind.i64.wrap (y150 + (1 : Int)))) (x_ibin rfl rfl rfl rfl) rfl ?_
            refine W_store S 0 rfl ty3 rfl rfl [.int .i64 (IntKind.i64.wrap (y150 + (1 : Int)))] rfl rfl rfl #[.int .i64 (IntKind.i64.wrap (y150 + (1 : Int)))] rfl rfl ?_
            intro w192 E' S
            replace E := E.trans E'
            clear E'
            refine Wl_nil ?_
            refine tn ?_
            exact ⟨(IntKind.i64.wrap (y150 + (1 : Int))), Option.some.inj H, ⟨rfl, rfl, rfl, trivial⟩, E, S.pick [0, 1] (by decide)⟩
          · refine Wp_cond_false (congrArg Value.bool hb191) ?_
            refine Wp_skip ?_
            refine tn ?_
            exact ⟨y150, Option.some.inj H, ⟨rfl, rfl, rfl, trivial⟩, E, S.pick [0, 1] (by decide)⟩
        · clear o190h
          rintro ρ w193 ⟨x189, rfl, hρ, E, S⟩
          rw [agree_eta hρ]
          clear hρ
          have H := o190H
          clear o190H
          refine bn ?_
          refine tn ?_
          exact ⟨x189, Option.some.inj H, ⟨rfl, rfl, rfl, trivial⟩, E, S.pick [0, 1] (by decide)⟩
    · clear o174h
      rintro ρ w194 ⟨x173, rfl, hρ, E, S⟩
      rw [agree_eta hρ]
      clear hρ
      have H := o174H
      clear o174H
      obtain rfl := Option.some.inj H
      exact endB_mk trivial LE153 E (St.close_ex (φ := (fun _ _ => True)) (hφ := (fun _ _ _ _ _ => trivial)) () trivial (S.pick [0, 1] (by decide)))
  · intro w195 M196 Γ' hM197 E' hΨ S
    obtain rfl : Γ' = _ := hΨ
    replace E := E.trans E'
    clear E'
    replace HM := Hp.le_trans HM hM197
    replace hr0 := SlR.mono hr0 hM197
    have H := o147H
    clear o147H
    rcases o147 with x103 | _
    · replace H := elimL H
      refine afterR_l ?_
      replace S : St w195 M196 F (AE (ι := Unit) (fun (i : Unit) => [Blk b4 (.cells #[.int .i64 x103] 3 (0, 0)), Blk b1 (.cells #[.slice A0 a0.length c0] 22 (0, 0))]) (fun _ _ => True) (fun _ _ _ _ _ => trivial) :: [Blk b10 (.cells #[.slice A0 a0.length c0] 22 (0, 0)), Blk b12 (.cells #[.int .i64 a1] 3 (0, 0))]) := S
      obtain ⟨_, _, S⟩ := S.open_ex
      replace S : St w195 M196 F [Blk b4 (.cells #[.int .i64 x103] 3 (0, 0)), Blk b1 (.cells #[.slice A0 a0.length c0] 22 (0, 0)), Blk b10 (.cells #[.slice A0 a0.length c0] 22 (0, 0)), Blk b12 (.cells #[.int .i64 a1] 3 (0, 0))] := S
      refine bn ?_
      refine tn ?_
      refine Wp_seq ?_
      refine Wp_region_lit ?_
      refine W_v (.slice A0 a0.length c0) (x_load (S.blk 1 rfl) ty22 rfl rfl) rfl ?_
      refine W_v (.int .i64 x103) (x_load (S.blk 0 rfl) ty3 rfl rfl) rfl ?_
      refine W_v (.int .i64 x103) (x_load (S.blk 0 rfl) ty3 rfl rfl) rfl ?_
      obtain ⟨⟨p198, p199, p200⟩, H⟩ := chkS H
      obtain ⟨hs201, hx202⟩ := sl_hm hr0 p198 p199 p200
      refine W_v (.slice A0 (List.take x103.toNat a0).length x103.toNat) (hx202 Try.underlying22 ty27 rfl rfl rfl) rfl ?_
      obtain ⟨t203, ht204, H⟩ := bindS H
      refine W_callF fn23 (slices_Clone_api_Version_api_Version.con k M196 A0 x103.toNat (List.take x103.toNat a0) t203 hs201 ht204) S rfl rfl (by rintro _ _ _ ⟨_, _, _, rfl⟩; exact (flat_cons (flat_row (fun _ _ _ _ h => h)) flat_nil)) ?_
      rintro _ w208 _ Γ' E' S ⟨A205, c206, rfl, rfl⟩
      replace E := E.trans E'
      clear E'
      refine W_v (.slice A205 t203.length c206) (x_assign rfl) rfl ?_
      refine Wl_nil ?_
      refine tn ?_
      refine Wp_ret ?_
      obtain rfl := Option.some.inj H
      exact ⟨_, _, _, fun w1 e1 => run_resR (vs := [.slice A205 t203.length c206]) (FA.cons (rfl) (FA.nil)), HM, E, S.pick [0] (by decide), ⟨A205, c206, rfl, rfl⟩⟩
    · cases H
/-! ### ferryman/keep.Seen: function 12 -/
def keep_Seen_b0 (a0 : (List api_Version)) (k : Nat) : (Int × Bool) → Unit → Option ((Unit) ⊕ (Int × Int × Bool × Str))
  | (y171, y172), _ => (Option.bind (α := Bool) (if y172 = true then (if 0 ≤ y171 ∧ y171 < (a0.length : Int) then some ((!((rd a0 y171).Tomb))) else none) else some (false)) (fun x196 => (if x196 = true then (if 0 ≤ y171 ∧ y171 < (a0.length : Int) then some (.inr ((rd a0 y171).Writer, (rd a0 y171).TS, (rd a0 y171).Tomb, (rd a0 y171).Value)) else none) else some (.inl ()))))
set_option maxHeartbeats 2000000 in
theorem keep_Seen_b0.mono {a0 : (List api_Version)} {k : Nat} : ∀ x s, OLe (keep_Seen_b0 a0 k x s) (keep_Seen_b0 a0 (k + 1) x s) := by
  intro x s
  unfold keep_Seen_b0
  repeat' (first | exact OLe.none | exact OLe.some | refine OLe.bind ?_ (fun _ => ?_) | refine OLe.ite ?_ ?_ | refine OLe.elim (fun _ => ?_) (fun _ => ?_) | split)
def keep_Seen (k : Nat) (a0 : (List api_Version)) (a1 : Int) : Option (api_Version × Bool) :=
  (Option.bind (keep_till k a0 a1) (fun t10 => (Option.bind (keep_till_1 k a0 a1 (keep_Seen_b0 a0 k) ()) (fun o168o => Sum.elim (fun _ => some ((⟨(0 : Int), (0 : Int), false, ([] : Str)⟩ : api_Version), false)) (fun ⟨x164, x165, x166, x167⟩ => some ((⟨x164, x165, x166, x167⟩ : api_Version), true)) o168o))))
set_option maxHeartbeats 2000000 in
theorem keep_Seen.mono {k : Nat} {a0 : (List api_Version)} {a1 : Int} : OLe (keep_Seen k a0 a1) (keep_Seen (k + 1) a0 a1) := by
  unfold keep_Seen
  repeat' (first | exact OLe.none | exact OLe.some | exact keep_Seen_b0.mono | exact keep_till.mono | exact keep_till_1.mono (fun _ _ => by first | exact keep_Seen_b0.mono _ _) | refine OLe.bind ?_ (fun _ => ?_) | refine OLe.ite ?_ ?_ | refine OLe.elim (fun _ => ?_) (fun _ => ?_) | split)
set_option maxHeartbeats 4000000 in
set_option maxRecDepth 100000 in
theorem keep_Seen.con (k : Nat) (M : Hp) (A0 : Option Addr) (c0 : Nat) (a0 : (List api_Version)) (a1 : Int) (r : api_Version × Bool) (hr0 : SlR r_api_Version M (.slice A0 a0.length c0) a0) (h : keep_Seen k a0 a1 = some r) : Con Try.prog 12 #[.slice A0 a0.length c0, .int .i64 a1] M [] (fun v M' Γ' => v = .tuple #[.agg #[.int .i64 r.1.Writer, .int .i64 r.1.TS, .bool r.1.Tomb, .string (bs r.1.Value)], .bool r.2] ∧ Γ' = []) := by
  refine con_of_wp Try.func12 rfl Try.ntmps12 Try.results12 rfl ?_
  intro w F rn S hrn
  have E := Ext.refl w
  have HM := Hp.le_refl M
  have H := h
  unfold keep_Seen at H
  refine Wp_seq ?_
  refine Wp_region_lit ?_
  refine W_box S #[.slice A0 a0.length c0] rfl rfl rfl ?_
  intro b1 w2 E' S
  replace E := E.trans E'
  clear E'
  refine W_alloc S #[.int .i64 0, .int .i64 0, .bool false, .string (bs ([] : Str))] ty27 rfl rfl ?_
  intro b4 w5 E' S
  replace E := E.trans E'
  clear E'
  refine W_alloc S #[.bool false] ty4 rfl rfl ?_
  intro b7 w8 E' S
  replace E := E.trans E'
  clear E'
  refine Wl_nil ?_
  refine tn ?_
  refine Wp_seq ?_
  refine Wp_seq ?_
  refine Wp_region_lit ?_
  refine W_v (.slice A0 a0.length c0) (x_load (S.blk 2 rfl) ty22 rfl rfl) rfl ?_
  refine W_v (.int .i64 a1) (x_move rfl) rfl ?_
  obtain ⟨t10, ht11, H⟩ := bindS H
  refine W_callF fn22 (keep_till.con k M A0 c0 a0 a1 t10 hr0 ht11) S rfl rfl (by rintro _ _ _ ⟨_, _, rfl, rfl⟩; exact (flat_cons flat_blk (flat_cons flat_blk flat_nil))) ?_
  rintro _ w16 _ Γ' E' S ⟨b12, b14, rfl, rfl⟩
  replace E := E.trans E'
  clear E'
  replace S : St w16 M F [Blk b12 (.cells #[.slice A0 a0.length c0] 22 (0, 0)), Blk b14 (.cells #[.int .i64 a1] 3 (0, 0)), Blk b7 (.cells #[.bool false] 4 (0, 0)), Blk b4 (.cells #[.int .i64 0, .int .i64 0, .bool false, .string (bs ([] : Str))] 27 (0, 0)), Blk b1 (.cells #[.slice A0 a0.length c0] 22 (0, 0))] := S
  refine Wl_nil ?_
  refine tn ?_
  refine Wp_block ?_
  obtain ⟨o168, o168h, o168H⟩ := bindS H
  clear H
  refine Wp_rangeFunc (σ := Unit) (ε := Int × Int × Bool × Str) (Γi := [Blk b12 (.cells #[.slice A0 a0.length c0] 22 (0, 0)), Blk b14 (.cells #[.int .i64 a1] 3 (0, 0))]) (Γr := []) (Sum.elim (fun _ => AE (ι := Unit) (fun (i : Unit) => [Blk b7 (.cells #[.bool false] 4 (0, 0)), Blk b4 (.cells #[.int .i64 0, .int .i64 0, .bool false, .string (bs ([] : Str))] 27 (0, 0)), Blk b1 (.cells #[.slice A0 a0.length c0] 22 (0, 0))]) (fun _ _ => True) (fun _ _ _ _ _ => trivial)) (fun ⟨x164, x165, x166, x167⟩ => AE (ι := Unit) (fun (i : Unit) => [Blk b7 (.cells #[.bool true] 4 (0, 0)), Blk b4 (.cells #[.int .i64 x164, .int .i64 x165, .bool x166, .string (bs x167)] 27 (0, 0))]) (fun _ _ => True) (fun _ _ _ _ _ => trivial))) (fun _ => Code.ret) fn27 rfl (St.close_ex (φ := (fun _ _ => True)) (hφ := (fun _ _ _ _ _ => trivial)) () trivial (S.pick [2, 3, 4, 0, 1] (by decide))) (by rintro _ _ _ rfl; rfl) (by decide) (keep_till_1.con k M A0 c0 a0 a1 b12 b14 (keep_Seen_b0 a0 k) () o168 hr0 o168h) ?_ ?_
  · intro nn lp M169 F yy vs ss tt w hM170 henc hbd S
    obtain ⟨y171, y172⟩ := yy
    obtain rfl := henc
    replace HM := Hp.le_trans HM hM170
    replace hr0 := SlR.mono hr0 hM170
    replace S : St w M169 F (AE (ι := Unit) (fun (i : Unit) => [Blk b7 (.cells #[.bool false] 4 (0, 0)), Blk b4 (.cells #[.int .i64 0, .int .i64 0, .bool false, .string (bs ([] : Str))] 27 (0, 0)), Blk b1 (.cells #[.slice A0 a0.length c0] 22 (0, 0))]) (fun _ _ => True) (fun _ _ _ _ _ => trivial) :: []) := S
    obtain ⟨_, _, S⟩ := S.open_ex
    replace S : St w M169 F [Blk b7 (.cells #[.bool false] 4 (0, 0)), Blk b4 (.cells #[.int .i64 0, .int .i64 0, .bool false, .string (bs ([] : Str))] 27 (0, 0)), Blk b1 (.cells #[.slice A0 a0.length c0] 22 (0, 0))] := S
    have E := Ext.refl w
    have LE173 := Hp.le_refl M169
    have H := hbd
    rw [keep_Seen_b0.eq_1] at H
    refine Wp_seq ?_
    refine Wp_region_lit ?_
    refine W_v (.int .i64 y171) (x_assign rfl) rfl ?_
    refine Wl_nil ?_
    refine tn ?_
    refine Wp_region_lit ?_
    refine W_v (.bool y172) (x_assign rfl) rfl ?_
    refine Wl_nil ?_
    refine on_n ⟨_, _, LE173, E, S, ?_⟩
    intro w F E3 S
    have E := Ext.refl w
    have LE174 := Hp.le_refl M169
    refine Wp_block ?_
    refine Wp_seq ?_
    refine Wp_region_lit ?_
    refine W_v (.bool y172) (x_move rfl) rfl ?_
    refine W_v (.bool y172) (x_move rfl) rfl ?_
    obtain ⟨o197, o197h, o197H⟩ := bindS H
    clear H
    refine Wl_cutN 7 (fun ρ w' => ∃ (x196 : Bool), (x196) = o197 ∧ Agree ρ [(2, .pointer (some ⟨b1, 0, none⟩)), (4, .pointer (some ⟨b4, 0, none⟩)), (5, .pointer (some ⟨b7, 0, none⟩)), (6, .int .i64 y171), (21, .bool x196)] ∧ Ext w w' ∧ St w' M169 F [Blk b7 (.cells #[.bool false] 4 (0, 0)), Blk b4 (.cells #[.int .i64 0, .int .i64 0, .bool false, .string (bs ([] : Str))] 27 (0, 0)), Blk b1 (.cells #[.slice A0 a0.length c0] 22 (0, 0))]) ?_ ?_
    · have H := o197h
      rcases iteS H with ⟨hb195, H⟩ | ⟨hb195, H⟩
      · skip
        refine W_yes (congrArg some hb195) ?_
        refine W_v (.slice A0 a0.length c0) (x_load (S.blk 2 rfl) ty22 rfl rfl) rfl ?_
        refine W_yes (congrArg some hb195) ?_
        refine W_v (.int .i64 y171) (x_move rfl) rfl ?_
        refine W_yes (congrArg some hb195) ?_
        obtain ⟨⟨p198, p199⟩, H⟩ := chkS H
        obtain ⟨b200, o201, cs202, _, _, ee207, hb203, vs204, hR205, hc206⟩ := SlW.at' hr0 p198 p199
        obtain rfl : vs204 = _ := hR205
        refine W_v (.pointer (some ⟨b200, o201 + y171.toNat * 4, none⟩)) (x_indexAddr Try.underlying22 ty27 (slA ee207) rfl p198 p199) rfl ?_
        refine W_yes (congrArg some hb195) ?_
        refine W_v (.pointer (some ⟨b200, o201 + y171.toNat * 4 + 2, none⟩)) (x_fieldAddr (o := o201 + y171.toNat * 4) (off := 2) Try.underlying27 rfl ty4 rfl rfl) rfl ?_
        refine W_yes (congrArg some hb195) ?_
        refine W_v (.bool ((rd a0 y171).Tomb)) (x_load (S.frz hb203) ty4 rfl (hc206 2 _ rfl)) rfl ?_
        refine W_yes (congrArg some hb195) ?_
        refine W_v (.bool (!((rd a0 y171).Tomb))) (x_not rfl) rfl ?_
        refine W_v (.bool (!((rd a0 y171).Tomb))) (x_pick (k := true) (congrArg Value.bool hb195) rfl) rfl ?_
        refine Wl_nil ?_
        exact ⟨(!((rd a0 y171).Tomb)), Option.some.inj H, ⟨rfl, rfl, rfl, rfl, rfl, trivial⟩, E, S.pick [0, 1, 2] (by decide)⟩
      · skip
        refine W_no (skT hb195) rfl ?_
        refine W_no (skT hb195) rfl ?_
        refine W_no (skT hb195) rfl ?_
        refine W_no (skT hb195) rfl ?_
        refine W_no (skT hb195) rfl ?_
        refine W_no (skT hb195) rfl ?_
        refine W_v (.bool false) (x_pick (k := false) (congrArg Value.bool hb195) rfl) rfl ?_
        refine Wl_nil ?_
        exact ⟨false, Option.some.inj H, ⟨rfl, rfl, rfl, rfl, rfl, trivial⟩, E, S.pick [0, 1, 2] (by decide)⟩
    · clear o197h
      rintro ρ w208 ⟨x196, rfl, hρ, E, S⟩
      rw [agree_eta hρ]
      clear hρ
      have H := o197H
      clear o197H
      refine Wl_nil ?_
      refine tn ?_
      rcases iteS H with ⟨hb209, H⟩ | ⟨hb209, H⟩
      · refine Wp_cond_true (congrArg Value.bool hb209) ?_
        refine Wp_seq ?_
        refine Wp_region_lit ?_
        refine W_v (.slice A0 a0.length c0) (x_load (S.blk 2 rfl) ty22 rfl rfl) rfl ?_
        refine W_v (.int .i64 y171) (x_move rfl) rfl ?_
        obtain ⟨⟨p210, p211⟩, H⟩ := chkS H
        obtain ⟨b212, o213, cs214, _, _, ee219, hb215, vs216, hR217, hc218⟩ := SlW.at' hr0 p210 p211
        obtain rfl : vs216 = _ := hR217
        refine W_v (.pointer (some ⟨b212, o213 + y171.toNat * 4, none⟩)) (x_indexAddr Try.underlying22 ty27 (slA ee219) rfl p210 p211) rfl ?_
        refine W_v (.agg #[.int .i64 ((rd a0 y171).Writer), .int .i64 ((rd a0 y171).TS), .bool ((rd a0 y171).Tomb), .string (bs ((rd a0 y171).Value))]) (x_loadA (S.frz hb215) ty27 rfl (sub_el hc218 0 rfl) rfl rfl) rfl ?_
        refine W_store S 1 rfl ty27 rfl rfl [.int .i64 ((rd a0 y171).Writer), .int .i64 ((rd a0 y171).TS), .bool ((rd a0 y171).Tomb), .string (bs ((rd a0 y171).Value))] rfl rfl rfl #[.int .i64 ((rd a0 y171).Writer), .int .i64 ((rd a0 y171).TS), .bool ((rd a0 y171).Tomb), .string (bs ((rd a0 y171).Value))] rfl rfl ?_
        intro w220 E' S
        replace E := E.trans E'
        clear E'
        refine W_store S 0 rfl ty4 rfl rfl [.bool true] rfl rfl rfl #[.bool true] rfl rfl ?_
        intro w221 E' S
        replace E := E.trans E'
        clear E'
        refine Wl_nil ?_
        refine tn ?_
        refine Wp_ret ?_
        refine br (?_)
        obtain rfl := Option.some.inj H
        exact endB_mk rfl LE174 E (St.close_ex (φ := (fun _ _ => True)) (hφ := (fun _ _ _ _ _ => trivial)) () trivial (S.pick [0, 1] (by decide)))
      · refine Wp_cond_false (congrArg Value.bool hb209) ?_
        refine Wp_skip ?_
        refine bn ?_
        obtain rfl := Option.some.inj H
        exact endB_mk trivial LE174 E (St.close_ex (φ := (fun _ _ => True)) (hφ := (fun _ _ _ _ _ => trivial)) () trivial (S.pick [0, 1, 2] (by decide)))
  · intro w222 M223 Γ' hM224 E' hΨ S
    obtain rfl : Γ' = _ := hΨ
    replace E := E.trans E'
    clear E'
    replace HM := Hp.le_trans HM hM224
    replace hr0 := SlR.mono hr0 hM224
    have H := o168H
    clear o168H
    rcases o168 with _ | ⟨x164, x165, x166, x167⟩
    · replace H := elimL H
      refine afterR_l ?_
      replace S : St w222 M223 F (AE (ι := Unit) (fun (i : Unit) => [Blk b7 (.cells #[.bool false] 4 (0, 0)), Blk b4 (.cells #[.int .i64 0, .int .i64 0, .bool false, .string (bs ([] : Str))] 27 (0, 0)), Blk b1 (.cells #[.slice A0 a0.length c0] 22 (0, 0))]) (fun _ _ => True) (fun _ _ _ _ _ => trivial) :: [Blk b12 (.cells #[.slice A0 a0.length c0] 22 (0, 0)), Blk b14 (.cells #[.int .i64 a1] 3 (0, 0))]) := S
      obtain ⟨_, _, S⟩ := S.open_ex
      replace S : St w222 M223 F [Blk b7 (.cells #[.bool false] 4 (0, 0)), Blk b4 (.cells #[.int .i64 0, .int .i64 0, .bool false, .string (bs ([] : Str))] 27 (0, 0)), Blk b1 (.cells #[.slice A0 a0.length c0] 22 (0, 0)), Blk b12 (.cells #[.slice A0 a0.length c0] 22 (0, 0)), Blk b14 (.cells #[.int .i64 a1] 3 (0, 0))] := S
      refine bn ?_
      refine tn ?_
      refine Wp_seq ?_
      refine Wp_region_lit ?_
      refine W_v (.agg #[.int .i64 0, .int .i64 0, .bool false, .string (bs ([] : Str))]) (x_build #[.int .i64 0, .int .i64 0, .bool false, .string (bs ([] : Str))] Try.underlying27 ty27 (by simp [IsTy.sizeOf ty3, IsTy.sizeOf ty4, IsTy.sizeOf ty9]; rfl) rfl rfl) rfl ?_
      refine W_store S 1 rfl ty27 rfl rfl [.int .i64 0, .int .i64 0, .bool false, .string (bs ([] : Str))] rfl rfl rfl #[.int .i64 0, .int .i64 0, .bool false, .string (bs ([] : Str))] rfl rfl ?_
      intro w225 E' S
      replace E := E.trans E'
      clear E'
      refine W_store S 0 rfl ty4 rfl rfl [.bool false] rfl rfl rfl #[.bool false] rfl rfl ?_
      intro w226 E' S
      replace E := E.trans E'
      clear E'
      refine Wl_nil ?_
      refine tn ?_
      refine Wp_ret ?_
      obtain rfl := Option.some.inj H
      exact ⟨_, _, _, fun w1 e1 => run_resR (vs := [.agg #[.int .i64 0, .int .i64 0, .bool false, .string (bs ([] : Str))], .bool false]) (FA.cons (⟨_, rfl, run_loadVar_agg ty27 ((S.of_eq e1).blk 1 rfl) (sub_of_extract rfl) rfl (by decide)⟩) (FA.cons (⟨_, rfl, run_loadVar_one ty4 ((S.of_eq e1).blk 0 rfl) rfl⟩) (FA.nil))), HM, E, S.pick [] (by decide), ⟨rfl, rfl⟩⟩
    · replace H := elimR H
      refine afterR_r ?_
      replace S : St w222 M223 F (AE (ι := Unit) (fun (i : Unit) => [Blk b7 (.cells #[.bool true] 4 (0, 0)), Blk b4 (.cells #[.int .i64 x164, .int .i64 x165, .bool x166, .string (bs x167)] 27 (0, 0))]) (fun _ _ => True) (fun _ _ _ _ _ => trivial) :: [Blk b12 (.cells #[.slice A0 a0.length c0] 22 (0, 0)), Blk b14 (.cells #[.int .i64 a1] 3 (0, 0))]) := S
      obtain ⟨_, _, S⟩ := S.open_ex
      replace S : St w222 M223 F [Blk b7 (.cells #[.bool true] 4 (0, 0)), Blk b4 (.cells #[.int .i64 x164, .int .i64 x165, .bool x166, .string (bs x167)] 27 (0, 0)), Blk b12 (.cells #[.slice A0 a0.length c0] 22 (0, 0)), Blk b14 (.cells #[.int .i64 a1] 3 (0, 0))] := S
      refine Wp_ret ?_
      refine br (tr (?_))
      obtain rfl := Option.some.inj H
      exact ⟨_, _, _, fun w1 e1 => run_resR (vs := [.agg #[.int .i64 x164, .int .i64 x165, .bool x166, .string (bs x167)], .bool true]) (FA.cons (⟨_, rfl, run_loadVar_agg ty27 ((S.of_eq e1).blk 1 rfl) (sub_of_extract rfl) rfl (by decide)⟩) (FA.cons (⟨_, rfl, run_loadVar_one ty4 ((S.of_eq e1).blk 0 rfl) rfl⟩) (FA.nil))), HM, E, S.pick [] (by decide), ⟨rfl, rfl⟩⟩
/-! ### ferryman/keep.Clash: function 13 -/
def keep_Clash (k : Nat) (a0 : (List api_Version)) (a1 : Int) : Option (Bool) :=
  (Option.bind (α := Bool) (if (decide ((a0.length : Int) > (0 : Int))) = true then (if 0 ≤ (0 : Int) ∧ (0 : Int) < (a0.length : Int) then some ((decide ((rd a0 (0 : Int)).TS > a1))) else none) else some (false)) (fun x22 => some x22))
set_option maxHeartbeats 2000000 in
theorem keep_Clash.mono {k : Nat} {a0 : (List api_Version)} {a1 : Int} : OLe (keep_Clash k a0 a1) (keep_Clash (k + 1) a0 a1) := by
  unfold keep_Clash
  repeat' (first | exact OLe.none | exact OLe.some | refine OLe.bind ?_ (fun _ => ?_) | refine OLe.ite ?_ ?_ | refine OLe.elim (fun _ => ?_) (fun _ => ?_) | split)
set_option maxHeartbeats 4000000 in
set_option maxRecDepth 100000 in
theorem keep_Clash.con (k : Nat) (M : Hp) (A0 : Option Addr) (c0 : Nat) (a0 : (List api_Version)) (a1 : Int) (r : Bool) (hr0 : SlR r_api_Version M (.slice A0 a0.length c0) a0) (h : keep_Clash k a0 a1 = some r) : Con Try.prog 13 #[.slice A0 a0.length c0, .int .i64 a1] M [] (fun v M' Γ' => v = .bool r ∧ Γ' = []) := by
  refine con_of_wp Try.func13 rfl Try.ntmps13 Try.results13 rfl ?_
  intro w F rn S hrn
  have E := Ext.refl w
  have HM := Hp.le_refl M
  have H := h
  unfold keep_Clash at H
  refine Wp_seq ?_
  refine Wp_region_lit ?_
  refine W_v (.bool false) (x_assign rfl) rfl ?_
  refine Wl_nil ?_
  refine tn ?_
  refine Wp_seq ?_
  refine Wp_region_lit ?_
  refine W_v (.slice A0 a0.length c0) (x_move rfl) rfl ?_
  refine W_v (.int .i64 (a0.length : Int)) (x_len_slice (n := a0.length) Try.underlying22 rfl) rfl ?_
  refine W_v (.bool (decide ((a0.length : Int) > (0 : Int)))) (x_ibin rfl rfl rfl rfl) rfl ?_
  refine W_v (.bool (decide ((a0.length : Int) > (0 : Int)))) (x_move rfl) rfl ?_
  obtain ⟨o23, o23h, o23H⟩ := bindS H
  clear H
  refine Wl_cutN 7 (fun ρ w' => ∃ (x22 : Bool), (x22) = o23 ∧ Agree ρ [(15, .bool x22)] ∧ Ext w w' ∧ St w' M F []) ?_ ?_
  · have H := o23h
    rcases iteS H with ⟨hb21, H⟩ | ⟨hb21, H⟩
    · skip
      refine W_yes (congrArg some hb21) ?_
      refine W_v (.slice A0 a0.length c0) (x_move rfl) rfl ?_
      refine W_yes (congrArg some hb21) ?_
      obtain ⟨⟨p24, p25⟩, H⟩ := chkS H
      obtain ⟨b26, o27, cs28, _, _, ee33, hb29, vs30, hR31, hc32⟩ := SlW.at' hr0 p24 p25
      obtain rfl : vs30 = _ := hR31
      refine W_v (.pointer (some ⟨b26, o27 + (0 : Int).toNat * 4, none⟩)) (x_indexAddr Try.underlying22 ty27 (slA ee33) rfl p24 p25) rfl ?_
      refine W_yes (congrArg some hb21) ?_
      refine W_v (.pointer (some ⟨b26, o27 + (0 : Int).toNat * 4 + 1, none⟩)) (x_fieldAddr (o := o27 + (0 : Int).toNat * 4) (off := 1) Try.underlying27 rfl ty3 rfl rfl) rfl ?_
      refine W_yes (congrArg some hb21) ?_
      refine W_v (.int .i64 ((rd a0 (0 : Int)).TS)) (x_load (S.frz hb29) ty3 rfl (hc32 1 _ rfl)) rfl ?_
      refine W_yes (congrArg some hb21) ?_
      refine W_v (.int .i64 a1) (x_move rfl) rfl ?_
      refine W_yes (congrArg some hb21) ?_
      refine W_v (.bool (decide ((rd a0 (0 : Int)).TS > a1))) (x_ibin rfl rfl rfl rfl) rfl ?_
      refine W_v (.bool (decide ((rd a0 (0 : Int)).TS > a1))) (x_pick (k := true) (congrArg Value.bool hb21) rfl) rfl ?_
      refine Wl_nil ?_
      exact ⟨(decide ((rd a0 (0 : Int)).TS > a1)), Option.some.inj H, ⟨rfl, trivial⟩, E, S.pick [] (by decide)⟩
    · skip
      refine W_no (skT hb21) rfl ?_
      refine W_no (skT hb21) rfl ?_
      refine W_no (skT hb21) rfl ?_
      refine W_no (skT hb21) rfl ?_
      refine W_no (skT hb21) rfl ?_
      refine W_no (skT hb21) rfl ?_
      refine W_v (.bool false) (x_pick (k := false) (congrArg Value.bool hb21) rfl) rfl ?_
      refine Wl_nil ?_
      exact ⟨false, Option.some.inj H, ⟨rfl, trivial⟩, E, S.pick [] (by decide)⟩
  · clear o23h
    rintro ρ w34 ⟨x22, rfl, hρ, E, S⟩
    rw [agree_eta hρ]
    clear hρ
    have H := o23H
    clear o23H
    refine W_v (.bool x22) (x_assign rfl) rfl ?_
    refine Wl_nil ?_
    refine tn ?_
    refine Wp_ret ?_
    obtain rfl := Option.some.inj H
    exact ⟨_, _, _, fun w1 e1 => run_resR (vs := [.bool x22]) (FA.cons (rfl) (FA.nil)), HM, E, S.pick [] (by decide), ⟨rfl, rfl⟩⟩
/-! ### ferryman/ferrymanref11.Same: function 15 -/
def ferrymanref11_Same_l0 (a0 : (List api_Version)) (a1 : (List api_Version)) : Nat → Int → Option ((Bool) ⊕ (Unit))
  | 0, _ => none
  | k + 1, x92 => (if (decide (x92 < (a0.length : Int))) = true then (if 0 ≤ x92 ∧ x92 < (a0.length : Int) then (if 0 ≤ x92 ∧ x92 < (a1.length : Int) then (if (!(((rd a0 x92).Writer == (rd a1 x92).Writer) && (((rd a0 x92).TS == (rd a1 x92).TS) && (((rd a0 x92).Tomb == (rd a1 x92).Tomb) && ((rd a0 x92).Value == (rd a1 x92).Value))))) = true then some (.inl false) else ferrymanref11_Same_l0 a0 a1 k (IntKind.i64.wrap (x92 + (1 : Int)))) else none) else none) else some (.inr ()))
set_option maxHeartbeats 2000000 in
theorem ferrymanref11_Same_l0.mono {a0 : (List api_Version)} {a1 : (List api_Version)} : ∀ {k : Nat} {x0}, OLe (ferrymanref11_Same_l0 a0 a1 k x0) (ferrymanref11_Same_l0 a0 a1 (k + 1) x0) := by
  intro k
  induction k with
  | zero => intros; exact OLe.none
  | succ k ih =>
    intros
    rw [ferrymanref11_Same_l0.eq_2, ferrymanref11_Same_l0.eq_2]
    repeat' (first | exact OLe.none | exact OLe.some | exact ih | refine OLe.bind ?_ (fun _ => ?_) | refine OLe.ite ?_ ?_ | refine OLe.elim (fun _ => ?_) (fun _ => ?_) | split)
def ferrymanref11_Same (k : Nat) (a0 : (List api_Version)) (a1 : (List api_Version)) : Option (Bool) :=
  (if ((a0.length : Int) != (a1.length : Int)) = true then some false else (Option.bind (ferrymanref11_Same_l0 a0 a1 k (0 : Int)) (fun o137o => Sum.elim (fun r' => some r') (fun _ => some true) o137o)))
set_option maxHeartbeats 2000000 in
theorem ferrymanref11_Same.mono {k : Nat} {a0 : (List api_Version)} {a1 : (List api_Version)} : OLe (ferrymanref11_Same k a0 a1) (ferrymanref11_Same (k + 1) a0 a1) := by
  unfold ferrymanref11_Same
  repeat' (first | exact OLe.none | exact OLe.some | exact ferrymanref11_Same_l0.mono | refine OLe.bind ?_ (fun _ => ?_) | refine OLe.ite ?_ ?_ | refine OLe.elim (fun _ => ?_) (fun _ => ?_) | split)
set_option maxHeartbeats 4000000 in
set_option maxRecDepth 100000 in
theorem ferrymanref11_Same.con (k : Nat) (M : Hp) (A0 : Option Addr) (c0 : Nat) (a0 : (List api_Version)) (A1 : Option Addr) (c1 : Nat) (a1 : (List api_Version)) (r : Bool) (hr0 : SlR r_api_Version M (.slice A0 a0.length c0) a0) (hr1 : SlR r_api_Version M (.slice A1 a1.length c1) a1) (h : ferrymanref11_Same k a0 a1 = some r) : Con Try.prog 15 #[.slice A0 a0.length c0, .slice A1 a1.length c1] M [] (fun v M' Γ' => v = .bool r ∧ Γ' = []) := by
  refine con_of_wp Try.func15 rfl Try.ntmps15 Try.results15 rfl ?_
  intro w F rn S hrn
  have E := Ext.refl w
  have HM := Hp.le_refl M
  have H := h
  unfold ferrymanref11_Same at H
  refine Wp_seq ?_
  refine Wp_region_lit ?_
  refine W_v (.bool false) (x_assign rfl) rfl ?_
  refine Wl_nil ?_
  refine tn ?_
  refine Wp_seq ?_
  refine Wp_seq ?_
  refine Wp_region_lit ?_
  refine W_v (.slice A0 a0.length c0) (x_move rfl) rfl ?_
  refine W_v (.int .i64 (a0.length : Int)) (x_len_slice (n := a0.length) Try.underlying22 rfl) rfl ?_
  refine W_v (.slice A1 a1.length c1) (x_move rfl) rfl ?_
  refine W_v (.int .i64 (a1.length : Int)) (x_len_slice (n := a1.length) Try.underlying22 rfl) rfl ?_
  refine W_v (.bool ((a0.length : Int) != (a1.length : Int))) (x_ibin rfl rfl rfl rfl) rfl ?_
  refine Wl_nil ?_
  refine tn ?_
  rcases iteS H with ⟨hb1, H⟩ | ⟨hb1, H⟩
  · refine Wp_cond_true (congrArg Value.bool hb1) ?_
    refine Wp_seq ?_
    refine Wp_region_lit ?_
    refine W_v (.bool false) (x_assign rfl) rfl ?_
    refine Wl_nil ?_
    refine tn ?_
    refine Wp_ret ?_
    refine tr (?_)
    obtain rfl := Option.some.inj H
    exact ⟨_, _, _, fun w1 e1 => run_resR (vs := [.bool false]) (FA.cons (rfl) (FA.nil)), HM, E, S.pick [] (by decide), ⟨rfl, rfl⟩⟩
  · refine Wp_cond_false (congrArg Value.bool hb1) ?_
    refine Wp_skip ?_
    refine tn ?_
    refine Wp_seq ?_
    refine Wp_seq ?_
    refine Wp_region_lit ?_
    refine W_v (.int .i64 0) (x_assign rfl) rfl ?_
    refine Wl_nil ?_
    refine tn ?_
    obtain ⟨o137, o137h, o137H⟩ := bindS H
    clear H
    refine Wp_blockJ (fun ρ w' => .inr () = o137 ∧ Agree ρ [] ∧ Ext w w' ∧ St w' M F []) ?_ ?_
    · skip
      refine Wp_loop (fun n ρ w' => ∃ (x92 : Int), ferrymanref11_Same_l0 a0 a1 n x92 = some o137 ∧ Agree ρ [(0, .slice A0 a0.length c0), (1, .slice A1 a1.length c1), (5, .int .i64 x92)] ∧ Ext w w' ∧ St w' M F []) k ?_ ?_
      · skip
        exact ⟨(0 : Int), o137h, ⟨rfl, rfl, rfl, trivial⟩, E, S.pick [] (by decide)⟩
      · intro n
        rintro ρ w138 ⟨x92, H, hρ, E, S⟩
        rw [agree_eta hρ]
        clear hρ
        cases n with
        | zero => cases H
        | succ k =>
          rw [ferrymanref11_Same_l0.eq_2] at H
          refine Wp_seq ?_
          refine Wp_seq ?_
          refine Wp_region_lit ?_
          refine W_v (.int .i64 x92) (x_move rfl) rfl ?_
          refine W_v (.slice A0 a0.length c0) (x_move rfl) rfl ?_
          refine W_v (.int .i64 (a0.length : Int)) (x_len_slice (n := a0.length) Try.underlying22 rfl) rfl ?_
          refine W_v (.bool (decide (x92 < (a0.length : Int)))) (x_ibin rfl rfl rfl rfl) rfl ?_
          refine Wl_nil ?_
          refine tn ?_
          rcases iteS H with ⟨hb139, H⟩ | ⟨hb139, H⟩
          · refine Wp_cond_true (congrArg Value.bool hb139) ?_
            refine Wp_skip ?_
            refine tn ?_
            refine Wp_seq ?_
            refine Wp_block ?_
            refine Wp_seq ?_
            refine Wp_region_any (S := fun w' => ∃ Mx, M.le Mx ∧ St w' Mx F []) mixed ?_
            intro w160 hw161 E'
            replace S := S.heap hw161
            replace E := E.trans E'
            clear E'
            refine Wa_take (i := 0) rfl (by kernel_rfl) rfl rfl (.slice A0 a0.length c0) rfl (fun w' h' => x_move rfl) (⟨M, Hp.le_refl M, S.pick [] (by decide)⟩) ?_
            refine Wa_take (i := 1) rfl (by kernel_rfl) rfl rfl (.int .i64 x92) rfl (fun w' h' => x_move rfl) (⟨M, Hp.le_refl M, S.pick [] (by decide)⟩) ?_
            obtain ⟨⟨p162, p163⟩, H⟩ := chkS H
            obtain ⟨b164, o165, cs166, _, _, ee171, hb167, vs168, hR169, hc170⟩ := SlW.at' hr0 p162 p163
            obtain rfl : vs168 = _ := hR169
            refine Wa_take (i := 2) rfl (by kernel_rfl) rfl rfl (.pointer (some ⟨b164, o165 + x92.toNat * 4, none⟩)) rfl (fun w' h' => x_indexAddr Try.underlying22 ty27 (slA ee171) rfl p162 p163) (⟨M, Hp.le_refl M, S.pick [] (by decide)⟩) ?_
            refine Wa_take (i := 3) rfl (by kernel_rfl) rfl rfl (.agg #[.int .i64 ((rd a0 x92).Writer), .int .i64 ((rd a0 x92).TS), .bool ((rd a0 x92).Tomb), .string (bs ((rd a0 x92).Value))]) rfl (fun w' h' => x_loadA (cls_frz h' hb167) ty27 rfl (sub_el hc170 0 rfl) rfl rfl) (⟨M, Hp.le_refl M, S.pick [] (by decide)⟩) ?_
            refine Wa_take (i := 4) rfl (by kernel_rfl) rfl rfl (.slice A1 a1.length c1) rfl (fun w' h' => x_move rfl) (⟨M, Hp.le_refl M, S.pick [] (by decide)⟩) ?_
            refine Wa_take (i := 5) rfl (by kernel_rfl) rfl rfl (.int .i64 x92) rfl (fun w' h' => x_move rfl) (⟨M, Hp.le_refl M, S.pick [] (by decide)⟩) ?_
            obtain ⟨⟨p172, p173⟩, H⟩ := chkS H
            obtain ⟨b174, o175, cs176, _, _, ee181, hb177, vs178, hR179, hc180⟩ := SlW.at' hr1 p172 p173
            obtain rfl : vs178 = _ := hR179
            refine Wa_take (i := 6) rfl (by kernel_rfl) rfl rfl (.pointer (some ⟨b174, o175 + x92.toNat * 4, none⟩)) rfl (fun w' h' => x_indexAddr Try.underlying22 ty27 (slA ee181) rfl p172 p173) (⟨M, Hp.le_refl M, S.pick [] (by decide)⟩) ?_
            refine Wa_take (i := 7) rfl (by kernel_rfl) rfl rfl (.agg #[.int .i64 ((rd a1 x92).Writer), .int .i64 ((rd a1 x92).TS), .bool ((rd a1 x92).Tomb), .string (bs ((rd a1 x92).Value))]) rfl (fun w' h' => x_loadA (cls_frz h' hb177) ty27 rfl (sub_el hc180 0 rfl) rfl rfl) (⟨M, Hp.le_refl M, S.pick [] (by decide)⟩) ?_
            refine Wa_take (i := 8) rfl (by kernel_rfl) rfl rfl (.bool (!(((rd a0 x92).Writer == (rd a1 x92).Writer) && (((rd a0 x92).TS == (rd a1 x92).TS) && (((rd a0 x92).Tomb == (rd a1 x92).Tomb) && ((rd a0 x92).Value == (rd a1 x92).Value)))))) rfl (fun w' h' => x_ne_of (en27 _ _ _ _) rfl (eq27 _ ((rd a0 x92).Writer) ((rd a0 x92).TS) ((rd a0 x92).Tomb) ((rd a0 x92).Value) ((rd a1 x92).Writer) ((rd a1 x92).TS) ((rd a1 x92).Tomb) ((rd a1 x92).Value))) (⟨M, Hp.le_refl M, S.pick [] (by decide)⟩) ?_
            refine Wa_done (by kernel_rfl) ?_
            refine tn ?_
            rcases iteS H with ⟨hb182, H⟩ | ⟨hb182, H⟩
            · refine Wp_cond_true (congrArg Value.bool hb182) ?_
              refine Wp_seq ?_
              refine Wp_region_lit ?_
              refine W_v (.bool false) (x_assign rfl) rfl ?_
              refine Wl_nil ?_
              refine tn ?_
              refine Wp_ret ?_
              refine br (tr (tr (br (tr (tr (?_))))))
              obtain rfl := Option.some.inj H
              have H := o137H
              replace H := elimL H
              obtain rfl := Option.some.inj H
              exact ⟨_, _, _, fun w1 e1 => run_resR (vs := [.bool false]) (FA.cons (rfl) (FA.nil)), HM, E, S.pick [] (by decide), ⟨rfl, rfl⟩⟩
            · refine Wp_cond_false (congrArg Value.bool hb182) ?_
              refine Wp_skip ?_
              refine bn ?_
              refine tn ?_
              refine Wp_region_lit ?_
              refine W_v (.int .i64 x92) (x_move rfl) rfl ?_
              refine W_v (.int .i64 (IntKind.i64.wrap (x92 + (1 : Int)))) (x_ibin rfl rfl rfl rfl) rfl ?_
              refine W_v (.int .i64 (IntKind.i64.wrap (x92 + (1 : Int)))) (x_assign rfl) rfl ?_
              refine Wl_nil ?_
              refine tn ?_
              exact ⟨k, Nat.lt_succ_self k, ⟨(IntKind.i64.wrap (x92 + (1 : Int))), H, ⟨rfl, rfl, rfl, trivial⟩, E, S.pick [] (by decide)⟩⟩
          · refine Wp_cond_false (congrArg Value.bool hb139) ?_
            refine Wp_exit ?_
            refine tx (tx (bsm (?_)))
            refine tn ?_
            exact ⟨Option.some.inj H, trivial, E, S.pick [] (by decide)⟩
    · clear o137h
      rintro ρ w183 ⟨rfl, hρ, E, S⟩
      rw [agree_eta hρ]
      clear hρ
      have H := o137H
      clear o137H
      replace H := elimR H
      refine tn ?_
      refine Wp_seq ?_
      refine Wp_region_lit ?_
      refine W_v (.bool true) (x_assign rfl) rfl ?_
      refine Wl_nil ?_
      refine tn ?_
      refine Wp_ret ?_
      obtain rfl := Option.some.inj H
      exact ⟨_, _, _, fun w1 e1 => run_resR (vs := [.bool true]) (FA.cons (rfl) (FA.nil)), HM, E, S.pick [] (by decide), ⟨rfl, rfl⟩⟩
/-! ### ferryman/ferrymanlaw11.some: function 16 -/
def ferrymanlaw11_some (k : Nat)  : Option ((List api_Version)) :=
  some ([(⟨(4 : Int), (9 : Int), false, ([98] : Str)⟩ : api_Version), (⟨(3 : Int), (6 : Int), true, ([] : Str)⟩ : api_Version), (⟨(2 : Int), (4 : Int), false, ([97] : Str)⟩ : api_Version), (⟨(1 : Int), (2 : Int), false, ([99] : Str)⟩ : api_Version)] : List api_Version)
set_option maxHeartbeats 2000000 in
theorem ferrymanlaw11_some.mono {k : Nat}  : OLe (ferrymanlaw11_some k ) (ferrymanlaw11_some (k + 1) ) := by
  unfold ferrymanlaw11_some
  repeat' (first | exact OLe.none | exact OLe.some | refine OLe.bind ?_ (fun _ => ?_) | refine OLe.ite ?_ ?_ | refine OLe.elim (fun _ => ?_) (fun _ => ?_) | split)
set_option maxHeartbeats 4000000 in
set_option maxRecDepth 100000 in
theorem ferrymanlaw11_some.con (k : Nat) (M : Hp)  (r : (List api_Version))  (h : ferrymanlaw11_some k  = some r) : Con Try.prog 16 #[] M [] (fun v M' Γ' => ∃ (A0 : Option Addr) (c0 : Nat), v = .slice A0 r.length c0 ∧ Γ' = [Row r_api_Version 27 (.slice A0 r.length c0) r]) := by
  refine con_of_wp Try.func16 rfl Try.ntmps16 Try.results16 rfl ?_
  intro w F rn S hrn
  have E := Ext.refl w
  have HM := Hp.le_refl M
  have H := h
  unfold ferrymanlaw11_some at H
  refine Wp_seq ?_
  refine Wp_region_lit ?_
  refine W_v (.slice none 0 0) (x_assign rfl) rfl ?_
  refine Wl_nil ?_
  refine tn ?_
  refine Wp_seq ?_
  refine Wp_region_lit ?_
  refine W_v (.agg #[.int .i64 4, .int .i64 9, .bool false, .string (bs ([98] : Str))]) (x_build #[.int .i64 4, .int .i64 9, .bool false, .string (bs ([98] : Str))] Try.underlying27 ty27 (by simp [IsTy.sizeOf ty3, IsTy.sizeOf ty4, IsTy.sizeOf ty9]; rfl) rfl rfl) rfl ?_
  refine W_v (.agg #[.int .i64 3, .int .i64 6, .bool true, .string (bs ([] : Str))]) (x_build #[.int .i64 3, .int .i64 6, .bool true, .string (bs ([] : Str))] Try.underlying27 ty27 (by simp [IsTy.sizeOf ty3, IsTy.sizeOf ty4, IsTy.sizeOf ty9]; rfl) rfl rfl) rfl ?_
  refine W_v (.agg #[.int .i64 2, .int .i64 4, .bool false, .string (bs ([97] : Str))]) (x_build #[.int .i64 2, .int .i64 4, .bool false, .string (bs ([97] : Str))] Try.underlying27 ty27 (by simp [IsTy.sizeOf ty3, IsTy.sizeOf ty4, IsTy.sizeOf ty9]; rfl) rfl rfl) rfl ?_
  refine W_v (.agg #[.int .i64 1, .int .i64 2, .bool false, .string (bs ([99] : Str))]) (x_build #[.int .i64 1, .int .i64 2, .bool false, .string (bs ([99] : Str))] Try.underlying27 ty27 (by simp [IsTy.sizeOf ty3, IsTy.sizeOf ty4, IsTy.sizeOf ty9]; rfl) rfl rfl) rfl ?_
  refine W_bslice S #[.int .i64 4, .int .i64 9, .bool false, .string (bs ([98] : Str)), .int .i64 3, .int .i64 6, .bool true, .string (bs ([] : Str)), .int .i64 2, .int .i64 4, .bool false, .string (bs ([97] : Str)), .int .i64 1, .int .i64 2, .bool false, .string (bs ([99] : Str))] Try.underlying22 ty27 rfl rfl #[.int .i64 0, .int .i64 0, .bool false, .string (bs ([] : Str)), .int .i64 0, .int .i64 0, .bool false, .string (bs ([] : Str)), .int .i64 0, .int .i64 0, .bool false, .string (bs ([] : Str)), .int .i64 0, .int .i64 0, .bool false, .string (bs ([] : Str))] (by kernel_rfl) (by kernel_rfl) rfl ?_
  intro b1 w2 E' S
  replace E := E.trans E'
  clear E'
  replace S := S.blk_row (r := r_api_Version) (l := ([(⟨(4 : Int), (9 : Int), false, ([98] : Str)⟩ : api_Version), (⟨(3 : Int), (6 : Int), true, ([] : Str)⟩ : api_Version), (⟨(2 : Int), (4 : Int), false, ([97] : Str)⟩ : api_Version), (⟨(1 : Int), (2 : Int), false, ([99] : Str)⟩ : api_Version)] : List api_Version)) 0 rfl 4 (Nat.le_refl 4) rfl (Cells.cons (vs := [.int .i64 4, .int .i64 9, .bool false, .string (bs ([98] : Str))]) (rfl) (Cells.cons (vs := [.int .i64 3, .int .i64 6, .bool true, .string (bs ([] : Str))]) (rfl) (Cells.cons (vs := [.int .i64 2, .int .i64 4, .bool false, .string (bs ([97] : Str))]) (rfl) (Cells.cons (vs := [.int .i64 1, .int .i64 2, .bool false, .string (bs ([99] : Str))]) (rfl) Cells.nil))))
  refine W_v (.slice (some ⟨b1, 0, none⟩) ([(⟨(4 : Int), (9 : Int), false, ([98] : Str)⟩ : api_Version), (⟨(3 : Int), (6 : Int), true, ([] : Str)⟩ : api_Version), (⟨(2 : Int), (4 : Int), false, ([97] : Str)⟩ : api_Version), (⟨(1 : Int), (2 : Int), false, ([99] : Str)⟩ : api_Version)] : List api_Version).length 4) (x_assign rfl) rfl ?_
  refine Wl_nil ?_
  refine tn ?_
  refine Wp_ret ?_
  obtain rfl := Option.some.inj H
  exact ⟨_, _, _, fun w1 e1 => run_resR (vs := [.slice (some ⟨b1, 0, none⟩) ([(⟨(4 : Int), (9 : Int), false, ([98] : Str)⟩ : api_Version), (⟨(3 : Int), (6 : Int), true, ([] : Str)⟩ : api_Version), (⟨(2 : Int), (4 : Int), false, ([97] : Str)⟩ : api_Version), (⟨(1 : Int), (2 : Int), false, ([99] : Str)⟩ : api_Version)] : List api_Version).length 4]) (FA.cons (rfl) (FA.nil)), HM, E, S.pick [0] (by decide), ⟨(some ⟨b1, 0, none⟩), 4, rfl, rfl⟩⟩
/-! ### ferryman/ferrymanlaw11.awake: function 10 -/
def ferrymanlaw11_awake (k : Nat)  : Option (Bool) :=
  (Option.bind (ferrymanlaw11_some k ) (fun t1 => (Option.bind (keep_Seen k t1 (8 : Int)) (fun t10 => (Option.bind (keep_Seen k t1 (5 : Int)) (fun t17 => (Option.bind (keep_Seen k t1 (1 : Int)) (fun t24 => (if 0 ≤ (1 : Int) ∧ (1 : Int) ≤ (t1.length : Int) then (Option.bind (keep_Kept k t1 (7 : Int)) (fun t246 => (Option.bind (ferrymanref11_Same k t246 (List.take (1 : Int).toNat t1)) (fun t255 => (Option.bind (α := Bool) (if t255 = true then (if 0 ≤ (3 : Int) ∧ (3 : Int) ≤ (t1.length : Int) then (Option.bind (keep_Kept k t1 (5 : Int)) (fun t436 => (Option.bind (ferrymanref11_Same k t436 (List.take (3 : Int).toNat t1)) (fun t445 => some (t445))))) else none) else some (false)) (fun x276 => (Option.bind (α := Bool) (if x276 = true then (Option.bind (keep_Kept k t1 (1 : Int)) (fun t418 => (Option.bind (ferrymanref11_Same k t418 t1) (fun t427 => some (t427))))) else some (false)) (fun x294 => (Option.bind (α := Bool) (if x294 = true then (if 0 ≤ (1 : Int) ∧ (1 : Int) ≤ (t1.length : Int) then (Option.bind (keep_Kept k t1 (9 : Int)) (fun t405 => (Option.bind (ferrymanref11_Same k t405 (List.take (1 : Int).toNat t1)) (fun t414 => some (t414))))) else none) else some (false)) (fun x317 => (Option.bind (α := Bool) (if ((x317 && (!t10.2)) && t17.2) = true then (if 0 ≤ (2 : Int) ∧ (2 : Int) < (t1.length : Int) then some (((t17.1.Writer == (rd t1 (2 : Int)).Writer) && ((t17.1.TS == (rd t1 (2 : Int)).TS) && ((t17.1.Tomb == (rd t1 (2 : Int)).Tomb) && (t17.1.Value == (rd t1 (2 : Int)).Value))))) else none) else some (false)) (fun x335 => (Option.bind (α := Bool) (if (x335 && (!t24.2)) = true then (Option.bind (keep_Clash k t1 (8 : Int)) (fun t386 => some (t386))) else some (false)) (fun x343 => (Option.bind (α := Bool) (if x343 = true then (Option.bind (keep_Clash k t1 (9 : Int)) (fun t383 => some ((!t383)))) else some (false)) (fun x350 => (Option.bind (α := Bool) (if x350 = true then (if 0 ≤ (1 : Int) ∧ (1 : Int) ≤ (2 : Int) ∧ (2 : Int) ≤ (t1.length : Int) then (Option.bind (keep_Kept k (List.take ((2 : Int) - (1 : Int)).toNat (List.drop (1 : Int).toNat t1)) (6 : Int)) (fun t377 => some (((t377.length : Int) == (0 : Int))))) else none) else some (false)) (fun x367 => some x367)))))))))))))))))) else none)))))))))
set_option maxHeartbeats 2000000 in
theorem ferrymanlaw11_awake.mono {k : Nat}  : OLe (ferrymanlaw11_awake k ) (ferrymanlaw11_awake (k + 1) ) := by
  unfold ferrymanlaw11_awake
  repeat' (first | exact OLe.none | exact OLe.some | exact ferrymanlaw11_some.mono | exact ferrymanref11_Same.mono | exact keep_Clash.mono | exact keep_Kept.mono | exact keep_Seen.mono | refine OLe.bind ?_ (fun _ => ?_) | refine OLe.ite ?_ ?_ | refine OLe.elim (fun _ => ?_) (fun _ => ?_) | split)
set_option maxHeartbeats 4000000 in
set_option maxRecDepth 100000 in
theorem ferrymanlaw11_awake.con (k : Nat) (M : Hp)  (r : Bool)  (h : ferrymanlaw11_awake k  = some r) : Con Try.prog 10 #[] M [] (fun v M' Γ' => v = .bool r ∧ Γ' = []) := by
  refine con_of_wp Try.func10 rfl Try.ntmps10 Try.results10 rfl ?_
  intro w F rn S hrn
  have E := Ext.refl w
  have HM := Hp.le_refl M
  have H := h
  unfold ferrymanlaw11_awake at H
  refine Wp_seq ?_
  refine Wp_region_lit ?_
  refine W_v (.bool false) (x_assign rfl) rfl ?_
  refine Wl_nil ?_
  refine tn ?_
  refine Wp_seq ?_
  refine Wp_region_lit ?_
  obtain ⟨t1, ht2, H⟩ := bindS H
  refine W_callF fn16 (ferrymanlaw11_some.con k M  t1  ht2) S rfl rfl (by rintro _ _ _ ⟨_, _, _, rfl⟩; exact (flat_cons (flat_row (fun _ _ _ _ h => h)) flat_nil)) ?_
  rintro _ w6 _ Γ' E' S ⟨A3, c4, rfl, rfl⟩
  replace E := E.trans E'
  clear E'
  refine W_v (.slice A3 t1.length c4) (x_assign rfl) rfl ?_
  refine Wl_nil ?_
  refine tn ?_
  refine Wp_seq ?_
  refine Wp_region_lit ?_
  refine W_v (.slice A3 t1.length c4) (x_move rfl) rfl ?_
  obtain ⟨M7, hM8, hf9, S⟩ := S.row_freeze 0 rfl
  replace HM := Hp.le_trans HM hM8
  obtain ⟨t10, ht11, H⟩ := bindS H
  refine W_callF fn12 (keep_Seen.con k M7 A3 c4 t1 (8 : Int) t10 hf9 ht11) S rfl rfl (by rintro _ _ _ ⟨_, rfl⟩; exact flat_nil) ?_
  rintro _ w12 _ Γ' E' S ⟨rfl, rfl⟩
  replace E := E.trans E'
  clear E'
  refine W_v (.tuple #[.agg #[.int .i64 t10.1.Writer, .int .i64 t10.1.TS, .bool t10.1.Tomb, .string (bs t10.1.Value)], .bool t10.2]) (x_move rfl) rfl ?_
  refine W_v (.agg #[.int .i64 t10.1.Writer, .int .i64 t10.1.TS, .bool t10.1.Tomb, .string (bs t10.1.Value)]) (x_extract rfl rfl) rfl ?_
  refine W_v (.bool t10.2) (x_extract rfl rfl) rfl ?_
  refine W_alloc S #[.int .i64 0, .int .i64 0, .bool false, .string (bs ([] : Str))] ty27 rfl rfl ?_
  intro b13 w14 E' S
  replace E := E.trans E'
  clear E'
  refine W_store S 0 rfl ty27 rfl rfl [.int .i64 t10.1.Writer, .int .i64 t10.1.TS, .bool t10.1.Tomb, .string (bs t10.1.Value)] rfl rfl rfl #[.int .i64 t10.1.Writer, .int .i64 t10.1.TS, .bool t10.1.Tomb, .string (bs t10.1.Value)] rfl rfl ?_
  intro w16 E' S
  replace E := E.trans E'
  clear E'
  refine W_v (.bool t10.2) (x_assign rfl) rfl ?_
  refine Wl_nil ?_
  refine tn ?_
  refine Wp_seq ?_
  refine Wp_region_lit ?_
  refine W_v (.slice A3 t1.length c4) (x_move rfl) rfl ?_
  obtain ⟨t17, ht18, H⟩ := bindS H
  refine W_callF fn12 (keep_Seen.con k M7 A3 c4 t1 (5 : Int) t17 hf9 ht18) S rfl rfl (by rintro _ _ _ ⟨_, rfl⟩; exact flat_nil) ?_
  rintro _ w19 _ Γ' E' S ⟨rfl, rfl⟩
  replace E := E.trans E'
  clear E'
  refine W_v (.tuple #[.agg #[.int .i64 t17.1.Writer, .int .i64 t17.1.TS, .bool t17.1.Tomb, .string (bs t17.1.Value)], .bool t17.2]) (x_move rfl) rfl ?_
  refine W_v (.agg #[.int .i64 t17.1.Writer, .int .i64 t17.1.TS, .bool t17.1.Tomb, .string (bs t17.1.Value)]) (x_extract rfl rfl) rfl ?_
  refine W_v (.bool t17.2) (x_extract rfl rfl) rfl ?_
  refine W_alloc S #[.int .i64 0, .int .i64 0, .bool false, .string (bs ([] : Str))] ty27 rfl rfl ?_
  intro b20 w21 E' S
  replace E := E.trans E'
  clear E'
  refine W_store S 0 rfl ty27 rfl rfl [.int .i64 t17.1.Writer, .int .i64 t17.1.TS, .bool t17.1.Tomb, .string (bs t17.1.Value)] rfl rfl rfl #[.int .i64 t17.1.Writer, .int .i64 t17.1.TS, .bool t17.1.Tomb, .string (bs t17.1.Value)] rfl rfl ?_
  intro w23 E' S
  replace E := E.trans E'
  clear E'
  refine W_v (.bool t17.2) (x_assign rfl) rfl ?_
  refine Wl_nil ?_
  refine tn ?_
  refine Wp_seq ?_
  refine Wp_region_lit ?_
  refine W_v (.slice A3 t1.length c4) (x_move rfl) rfl ?_
  obtain ⟨t24, ht25, H⟩ := bindS H
  refine W_callF fn12 (keep_Seen.con k M7 A3 c4 t1 (1 : Int) t24 hf9 ht25) S rfl rfl (by rintro _ _ _ ⟨_, rfl⟩; exact flat_nil) ?_
  rintro _ w26 _ Γ' E' S ⟨rfl, rfl⟩
  replace E := E.trans E'
  clear E'
  refine W_v (.tuple #[.agg #[.int .i64 t24.1.Writer, .int .i64 t24.1.TS, .bool t24.1.Tomb, .string (bs t24.1.Value)], .bool t24.2]) (x_move rfl) rfl ?_
  refine W_v (.agg #[.int .i64 t24.1.Writer, .int .i64 t24.1.TS, .bool t24.1.Tomb, .string (bs t24.1.Value)]) (x_extract rfl rfl) rfl ?_
  refine W_v (.bool t24.2) (x_extract rfl rfl) rfl ?_
  refine W_alloc S #[.int .i64 0, .int .i64 0, .bool false, .string (bs ([] : Str))] ty27 rfl rfl ?_
  intro b27 w28 E' S
  replace E := E.trans E'
  clear E'
  refine W_store S 0 rfl ty27 rfl rfl [.int .i64 t24.1.Writer, .int .i64 t24.1.TS, .bool t24.1.Tomb, .string (bs t24.1.Value)] rfl rfl rfl #[.int .i64 t24.1.Writer, .int .i64 t24.1.TS, .bool t24.1.Tomb, .string (bs t24.1.Value)] rfl rfl ?_
  intro w30 E' S
  replace E := E.trans E'
  clear E'
  refine W_v (.bool t24.2) (x_assign rfl) rfl ?_
  refine Wl_nil ?_
  refine tn ?_
  refine Wp_seq ?_
  have LE238 := Hp.le_refl M7
  refine Wp_region_any (S := fun w' => ∃ Mx, M7.le Mx ∧ St w' Mx F [Blk b27 (.cells #[.int .i64 t24.1.Writer, .int .i64 t24.1.TS, .bool t24.1.Tomb, .string (bs t24.1.Value)] 27 (0, 0)), Blk b20 (.cells #[.int .i64 t17.1.Writer, .int .i64 t17.1.TS, .bool t17.1.Tomb, .string (bs t17.1.Value)] 27 (0, 0)), Blk b13 (.cells #[.int .i64 t10.1.Writer, .int .i64 t10.1.TS, .bool t10.1.Tomb, .string (bs t10.1.Value)] 27 (0, 0))]) mixed ?_
  intro w239 hw240 E'
  replace S := S.heap hw240
  replace E := E.trans E'
  clear E'
  have hf9z := hf9
  refine Wa_take (i := 0) rfl (by kernel_rfl) rfl rfl (.slice A3 t1.length c4) rfl (fun w' h' => x_move rfl) (⟨M7, Hp.le_refl M7, S.pick [0, 1, 2] (by decide)⟩) ?_
  refine Wa_take (i := 2) rfl (by kernel_rfl) rfl rfl (.slice A3 t1.length c4) rfl (fun w' h' => x_move rfl) (⟨M7, Hp.le_refl M7, S.pick [0, 1, 2] (by decide)⟩) ?_
  obtain ⟨⟨p241, p242⟩, H⟩ := chkS H
  obtain ⟨hs244, hx245⟩ := sl_hi hf9z p241 p242
  have hs244z := hs244
  refine Wa_take (i := 3) rfl (by kernel_rfl) rfl rfl (.slice A3 (List.take (1 : Int).toNat t1).length c4) rfl (fun w' h' => hx245 Try.underlying22 ty27 rfl rfl) (⟨M7, Hp.le_refl M7, S.pick [0, 1, 2] (by decide)⟩) ?_
  refine Wa_solo (i := 1) rfl (by kernel_rfl) ?_
  obtain ⟨t246, ht247, H⟩ := bindS H
  refine W_callF fn11 (keep_Kept.con k M7 A3 c4 t1 (7 : Int) t246 hf9 ht247) S rfl rfl (by rintro _ _ _ ⟨_, _, _, rfl⟩; exact (flat_cons (flat_row (fun _ _ _ _ h => h)) flat_nil)) ?_
  rintro _ w251 _ Γ' E' S ⟨A248, c249, rfl, rfl⟩
  replace E := E.trans E'
  clear E'
  refine Wl_nil (on_n ⟨⟨M7, Hp.le_refl M7, S.pick [1, 2, 3] (by decide)⟩, ?_⟩)
  refine Wa_solo (i := 4) rfl (by kernel_rfl) ?_
  obtain ⟨M252, hM253, hf254, S⟩ := S.row_freeze 0 rfl
  replace HM := Hp.le_trans HM hM253
  replace LE238 := Hp.le_trans LE238 hM253
  replace hf9 := SlR.mono hf9 hM253
  replace hs244 := SlR.mono hs244 hM253
  obtain ⟨t255, ht256, H⟩ := bindS H
  refine W_callF fn15 (ferrymanref11_Same.con k M252 A248 c249 t246 A3 c4 (List.take (1 : Int).toNat t1) t255 hf254 hs244 ht256) S rfl rfl (by rintro _ _ _ ⟨_, rfl⟩; exact flat_nil) ?_
  rintro _ w257 _ Γ' E' S ⟨rfl, rfl⟩
  replace E := E.trans E'
  clear E'
  refine Wl_nil (on_n ⟨⟨M252, LE238, S.pick [0, 1, 2] (by decide)⟩, ?_⟩)
  refine Wa_take (i := 5) rfl (by kernel_rfl) rfl rfl (.bool t255) rfl (fun w' h' => x_move rfl) (⟨M252, LE238, S.pick [0, 1, 2] (by decide)⟩) ?_
  obtain ⟨o277, o277h, o277H⟩ := bindS H
  clear H
  refine Wa_join (fun ρ w' => ∃ (x276 : Bool) (Mj : Hp), (x276) = o277 ∧ Agree ρ [(0, .bool false), (1, .slice A3 t1.length c4), (3, .bool t10.2), (4, .pointer (some ⟨b20, 0, none⟩)), (5, .bool t17.2), (7, .bool t24.2), (35, .bool x276)] ∧ M252.le Mj ∧ Ext w w' ∧ St w' Mj F [Blk b27 (.cells #[.int .i64 t24.1.Writer, .int .i64 t24.1.TS, .bool t24.1.Tomb, .string (bs t24.1.Value)] 27 (0, 0)), Blk b20 (.cells #[.int .i64 t17.1.Writer, .int .i64 t17.1.TS, .bool t17.1.Tomb, .string (bs t17.1.Value)] 27 (0, 0)), Blk b13 (.cells #[.int .i64 t10.1.Writer, .int .i64 t10.1.TS, .bool t10.1.Tomb, .string (bs t10.1.Value)] 27 (0, 0))]) 48 (Ls 60 [0, 2, 3, 1, 4, 5, 6, 8, 9, 7, 10, 11]) ?_ ?_
  · clear o277h
    rintro ρ w278 ⟨x276, M279, rfl, hρ, hM280, E, S⟩
    rw [agree_eta hρ]
    clear hρ
    replace HM := Hp.le_trans HM hM280
    replace LE238 := Hp.le_trans LE238 hM280
    replace hf9 := SlR.mono hf9 hM280
    replace hs244 := SlR.mono hs244 hM280
    replace hf254 := SlR.mono hf254 hM280
    have H := o277H
    clear o277H
    refine Wa_take (i := 12) rfl (by kernel_rfl) rfl rfl (.bool x276) rfl (fun w' h' => x_move rfl) (⟨M279, LE238, S.pick [0, 1, 2] (by decide)⟩) ?_
    obtain ⟨o295, o295h, o295H⟩ := bindS H
    clear H
    refine Wa_join (fun ρ w' => ∃ (x294 : Bool) (Mj : Hp), (x294) = o295 ∧ Agree ρ [(0, .bool false), (1, .slice A3 t1.length c4), (3, .bool t10.2), (4, .pointer (some ⟨b20, 0, none⟩)), (5, .bool t17.2), (7, .bool t24.2), (41, .bool x294)] ∧ M279.le Mj ∧ Ext w w' ∧ St w' Mj F [Blk b27 (.cells #[.int .i64 t24.1.Writer, .int .i64 t24.1.TS, .bool t24.1.Tomb, .string (bs t24.1.Value)] 27 (0, 0)), Blk b20 (.cells #[.int .i64 t17.1.Writer, .int .i64 t17.1.TS, .bool t17.1.Tomb, .string (bs t17.1.Value)] 27 (0, 0)), Blk b13 (.cells #[.int .i64 t10.1.Writer, .int .i64 t10.1.TS, .bool t10.1.Tomb, .string (bs t10.1.Value)] 27 (0, 0))]) 42 (Ls 60 [0, 2, 3, 1, 4, 5, 6, 8, 9, 7, 10, 11, 12, 13, 15, 14, 16, 17]) ?_ ?_
    · clear o295h
      rintro ρ w296 ⟨x294, M297, rfl, hρ, hM298, E, S⟩
      rw [agree_eta hρ]
      clear hρ
      replace HM := Hp.le_trans HM hM298
      replace LE238 := Hp.le_trans LE238 hM298
      replace hM280 := Hp.le_trans hM280 hM298
      replace hf9 := SlR.mono hf9 hM298
      replace hs244 := SlR.mono hs244 hM298
      replace hf254 := SlR.mono hf254 hM298
      have H := o295H
      clear o295H
      refine Wa_take (i := 18) rfl (by kernel_rfl) rfl rfl (.bool x294) rfl (fun w' h' => x_move rfl) (⟨M297, LE238, S.pick [0, 1, 2] (by decide)⟩) ?_
      obtain ⟨o318, o318h, o318H⟩ := bindS H
      clear H
      refine Wa_join (fun ρ w' => ∃ (x317 : Bool) (Mj : Hp), (x317) = o318 ∧ Agree ρ [(0, .bool false), (1, .slice A3 t1.length c4), (3, .bool t10.2), (4, .pointer (some ⟨b20, 0, none⟩)), (5, .bool t17.2), (7, .bool t24.2), (48, .bool x317)] ∧ M297.le Mj ∧ Ext w w' ∧ St w' Mj F [Blk b27 (.cells #[.int .i64 t24.1.Writer, .int .i64 t24.1.TS, .bool t24.1.Tomb, .string (bs t24.1.Value)] 27 (0, 0)), Blk b20 (.cells #[.int .i64 t17.1.Writer, .int .i64 t17.1.TS, .bool t17.1.Tomb, .string (bs t17.1.Value)] 27 (0, 0)), Blk b13 (.cells #[.int .i64 t10.1.Writer, .int .i64 t10.1.TS, .bool t10.1.Tomb, .string (bs t10.1.Value)] 27 (0, 0))]) 35 (Ls 60 [0, 2, 3, 1, 4, 5, 6, 8, 9, 7, 10, 11, 12, 13, 15, 14, 16, 17, 18, 19, 21, 22, 20, 23, 24]) ?_ ?_
      · clear o318h
        rintro ρ w319 ⟨x317, M320, rfl, hρ, hM321, E, S⟩
        rw [agree_eta hρ]
        clear hρ
        replace HM := Hp.le_trans HM hM321
        replace LE238 := Hp.le_trans LE238 hM321
        replace hM280 := Hp.le_trans hM280 hM321
        replace hM298 := Hp.le_trans hM298 hM321
        replace hf9 := SlR.mono hf9 hM321
        replace hs244 := SlR.mono hs244 hM321
        replace hf254 := SlR.mono hf254 hM321
        have H := o318H
        clear o318H
        refine Wa_take (i := 25) rfl (by kernel_rfl) rfl rfl (.bool x317) rfl (fun w' h' => x_move rfl) (⟨M320, LE238, S.pick [0, 1, 2] (by decide)⟩) ?_
        refine Wa_join (fun ρ w' => Agree ρ [(0, .bool false), (1, .slice A3 t1.length c4), (4, .pointer (some ⟨b20, 0, none⟩)), (5, .bool t17.2), (7, .bool t24.2), (52, .bool (x317 && (!t10.2)))] ∧ w319 = w') 31 (Ls 60 [0, 2, 3, 1, 4, 5, 6, 8, 9, 7, 10, 11, 12, 13, 15, 14, 16, 17, 18, 19, 21, 22, 20, 23, 24, 25, 26, 27, 28]) ?_ ?_
        · rintro ρ _ ⟨hρ, rfl⟩
          rw [agree_eta hρ]
          clear hρ
          refine Wa_take (i := 29) rfl (by kernel_rfl) rfl rfl (.bool (x317 && (!t10.2))) rfl (fun w' h' => x_move rfl) (⟨M320, LE238, S.pick [0, 1, 2] (by decide)⟩) ?_
          refine Wa_join (fun ρ w' => Agree ρ [(0, .bool false), (1, .slice A3 t1.length c4), (4, .pointer (some ⟨b20, 0, none⟩)), (7, .bool t24.2), (55, .bool ((x317 && (!t10.2)) && t17.2))] ∧ w319 = w') 28 (Ls 60 [0, 2, 3, 1, 4, 5, 6, 8, 9, 7, 10, 11, 12, 13, 15, 14, 16, 17, 18, 19, 21, 22, 20, 23, 24, 25, 26, 27, 28, 29, 30, 31]) ?_ ?_
          · rintro ρ _ ⟨hρ, rfl⟩
            rw [agree_eta hρ]
            clear hρ
            refine Wa_take (i := 32) rfl (by kernel_rfl) rfl rfl (.bool ((x317 && (!t10.2)) && t17.2)) rfl (fun w' h' => x_move rfl) (⟨M320, LE238, S.pick [0, 1, 2] (by decide)⟩) ?_
            obtain ⟨o336, o336h, o336H⟩ := bindS H
            clear H
            refine Wa_join (fun ρ w' => ∃ (x335 : Bool), (x335) = o336 ∧ Agree ρ [(0, .bool false), (1, .slice A3 t1.length c4), (7, .bool t24.2), (62, .bool x335)] ∧ Ext w w' ∧ St w' M320 F [Blk b27 (.cells #[.int .i64 t24.1.Writer, .int .i64 t24.1.TS, .bool t24.1.Tomb, .string (bs t24.1.Value)] 27 (0, 0)), Blk b20 (.cells #[.int .i64 t17.1.Writer, .int .i64 t17.1.TS, .bool t17.1.Tomb, .string (bs t17.1.Value)] 27 (0, 0)), Blk b13 (.cells #[.int .i64 t10.1.Writer, .int .i64 t10.1.TS, .bool t10.1.Tomb, .string (bs t10.1.Value)] 27 (0, 0))]) 21 (Ls 60 [0, 2, 3, 1, 4, 5, 6, 8, 9, 7, 10, 11, 12, 13, 15, 14, 16, 17, 18, 19, 21, 22, 20, 23, 24, 25, 26, 27, 28, 29, 30, 31, 32, 33, 34, 35, 36, 37, 38]) ?_ ?_
            · clear o336h
              rintro ρ w337 ⟨x335, rfl, hρ, E, S⟩
              rw [agree_eta hρ]
              clear hρ
              have H := o336H
              clear o336H
              refine Wa_take (i := 39) rfl (by kernel_rfl) rfl rfl (.bool x335) rfl (fun w' h' => x_move rfl) (⟨M320, LE238, S.pick [0, 1, 2] (by decide)⟩) ?_
              refine Wa_join (fun ρ w' => Agree ρ [(0, .bool false), (1, .slice A3 t1.length c4), (66, .bool (x335 && (!t24.2)))] ∧ w337 = w') 17 (Ls 60 [0, 2, 3, 1, 4, 5, 6, 8, 9, 7, 10, 11, 12, 13, 15, 14, 16, 17, 18, 19, 21, 22, 20, 23, 24, 25, 26, 27, 28, 29, 30, 31, 32, 33, 34, 35, 36, 37, 38, 39, 40, 41, 42]) ?_ ?_
              · rintro ρ _ ⟨hρ, rfl⟩
                rw [agree_eta hρ]
                clear hρ
                refine Wa_take (i := 43) rfl (by kernel_rfl) rfl rfl (.bool (x335 && (!t24.2))) rfl (fun w' h' => x_move rfl) (⟨M320, LE238, S.pick [0, 1, 2] (by decide)⟩) ?_
                obtain ⟨o344, o344h, o344H⟩ := bindS H
                clear H
                refine Wa_join (fun ρ w' => ∃ (x343 : Bool), (x343) = o344 ∧ Agree ρ [(0, .bool false), (1, .slice A3 t1.length c4), (70, .bool x343)] ∧ Ext w w' ∧ St w' M320 F [Blk b27 (.cells #[.int .i64 t24.1.Writer, .int .i64 t24.1.TS, .bool t24.1.Tomb, .string (bs t24.1.Value)] 27 (0, 0)), Blk b20 (.cells #[.int .i64 t17.1.Writer, .int .i64 t17.1.TS, .bool t17.1.Tomb, .string (bs t17.1.Value)] 27 (0, 0)), Blk b13 (.cells #[.int .i64 t10.1.Writer, .int .i64 t10.1.TS, .bool t10.1.Tomb, .string (bs t10.1.Value)] 27 (0, 0))]) 13 (Ls 60 [0, 2, 3, 1, 4, 5, 6, 8, 9, 7, 10, 11, 12, 13, 15, 14, 16, 17, 18, 19, 21, 22, 20, 23, 24, 25, 26, 27, 28, 29, 30, 31, 32, 33, 34, 35, 36, 37, 38, 39, 40, 41, 42, 43, 44, 45, 46]) ?_ ?_
                · clear o344h
                  rintro ρ w345 ⟨x343, rfl, hρ, E, S⟩
                  rw [agree_eta hρ]
                  clear hρ
                  have H := o344H
                  clear o344H
                  refine Wa_take (i := 47) rfl (by kernel_rfl) rfl rfl (.bool x343) rfl (fun w' h' => x_move rfl) (⟨M320, LE238, S.pick [0, 1, 2] (by decide)⟩) ?_
                  obtain ⟨o351, o351h, o351H⟩ := bindS H
                  clear H
                  refine Wa_join (fun ρ w' => ∃ (x350 : Bool), (x350) = o351 ∧ Agree ρ [(0, .bool false), (1, .slice A3 t1.length c4), (75, .bool x350)] ∧ Ext w w' ∧ St w' M320 F [Blk b27 (.cells #[.int .i64 t24.1.Writer, .int .i64 t24.1.TS, .bool t24.1.Tomb, .string (bs t24.1.Value)] 27 (0, 0)), Blk b20 (.cells #[.int .i64 t17.1.Writer, .int .i64 t17.1.TS, .bool t17.1.Tomb, .string (bs t17.1.Value)] 27 (0, 0)), Blk b13 (.cells #[.int .i64 t10.1.Writer, .int .i64 t10.1.TS, .bool t10.1.Tomb, .string (bs t10.1.Value)] 27 (0, 0))]) 8 (Ls 60 [0, 2, 3, 1, 4, 5, 6, 8, 9, 7, 10, 11, 12, 13, 15, 14, 16, 17, 18, 19, 21, 22, 20, 23, 24, 25, 26, 27, 28, 29, 30, 31, 32, 33, 34, 35, 36, 37, 38, 39, 40, 41, 42, 43, 44, 45, 46, 47, 48, 49, 50, 51]) ?_ ?_
                  · clear o351h
                    rintro ρ w352 ⟨x350, rfl, hρ, E, S⟩
                    rw [agree_eta hρ]
                    clear hρ
                    have H := o351H
                    clear o351H
                    refine Wa_take (i := 52) rfl (by kernel_rfl) rfl rfl (.bool x350) rfl (fun w' h' => x_move rfl) (⟨M320, LE238, S.pick [0, 1, 2] (by decide)⟩) ?_
                    obtain ⟨o368, o368h, o368H⟩ := bindS H
                    clear H
                    refine Wa_join (fun ρ w' => ∃ (x367 : Bool), (x367) = o368 ∧ Agree ρ [(0, .bool false), (82, .bool x367)] ∧ Ext w w' ∧ St w' M320 F [Blk b27 (.cells #[.int .i64 t24.1.Writer, .int .i64 t24.1.TS, .bool t24.1.Tomb, .string (bs t24.1.Value)] 27 (0, 0)), Blk b20 (.cells #[.int .i64 t17.1.Writer, .int .i64 t17.1.TS, .bool t17.1.Tomb, .string (bs t17.1.Value)] 27 (0, 0)), Blk b13 (.cells #[.int .i64 t10.1.Writer, .int .i64 t10.1.TS, .bool t10.1.Tomb, .string (bs t10.1.Value)] 27 (0, 0))]) 1 (Ls 60 [0, 2, 3, 1, 4, 5, 6, 8, 9, 7, 10, 11, 12, 13, 15, 14, 16, 17, 18, 19, 21, 22, 20, 23, 24, 25, 26, 27, 28, 29, 30, 31, 32, 33, 34, 35, 36, 37, 38, 39, 40, 41, 42, 43, 44, 45, 46, 47, 48, 49, 50, 51, 52, 53, 54, 55, 56, 57, 58]) ?_ ?_
                    · clear o368h
                      rintro ρ w369 ⟨x367, rfl, hρ, E, S⟩
                      rw [agree_eta hρ]
                      clear hρ
                      have H := o368H
                      clear o368H
                      refine Wa_take (i := 59) rfl (by kernel_rfl) rfl rfl (.bool x367) rfl (fun w' h' => x_assign rfl) (⟨M320, LE238, S.pick [0, 1, 2] (by decide)⟩) ?_
                      refine Wa_done (by kernel_rfl) ?_
                      refine tn ?_
                      refine Wp_ret ?_
                      obtain rfl := Option.some.inj H
                      exact ⟨_, _, _, fun w1 e1 => run_resR (vs := [.bool x367]) (FA.cons (rfl) (FA.nil)), HM, E, S.pick [] (by decide), ⟨rfl, rfl⟩⟩
                    · intro hrest
                      have H := o368h
                      clear o368h o368H
                      rcases iteS H with ⟨hb366, H⟩ | ⟨hb366, H⟩
                      · skip
                        refine Wa_takeY (i := 53) rfl (by kernel_rfl) rfl rfl (.slice A3 t1.length c4) rfl (congrArg some hb366) (fun w' h' => x_move rfl) (⟨M320, LE238, S.pick [0, 1, 2] (by decide)⟩) ?_
                        obtain ⟨⟨p370, p371, p372⟩, H⟩ := chkS H
                        obtain ⟨A373, c374, hs375, hx376⟩ := sl_lh hf9z p370 p371 p372
                        have hs375z := hs375
                        replace hs375 := SlR.mono hs375 LE238
                        refine Wa_takeY (i := 54) rfl (by kernel_rfl) rfl rfl (.slice A373 (List.take ((2 : Int) - (1 : Int)).toNat (List.drop (1 : Int).toNat t1)).length c374) rfl (congrArg some hb366) (fun w' h' => hx376 Try.underlying22 ty27 rfl rfl rfl) (⟨M320, LE238, S.pick [0, 1, 2] (by decide)⟩) ?_
                        refine Wa_solo (i := 55) rfl (by kernel_rfl) ?_
                        refine W_yes (congrArg some hb366) ?_
                        obtain ⟨t377, ht378, H⟩ := bindS H
                        refine W_callF fn11 (keep_Kept.con k M320 A373 c374 (List.take ((2 : Int) - (1 : Int)).toNat (List.drop (1 : Int).toNat t1)) (6 : Int) t377 hs375 ht378) S rfl rfl (by rintro _ _ _ ⟨_, _, _, rfl⟩; exact (flat_cons (flat_row (fun _ _ _ _ h => h)) flat_nil)) ?_
                        rintro _ w382 _ Γ' E' S ⟨A379, c380, rfl, rfl⟩
                        replace E := E.trans E'
                        clear E'
                        refine Wl_nil (on_n ⟨⟨M320, LE238, S.pick [1, 2, 3] (by decide)⟩, ?_⟩)
                        refine Wa_takeY (i := 56) rfl (by kernel_rfl) rfl rfl (.int .i64 (t377.length : Int)) rfl (congrArg some hb366) (fun w' h' => x_len_slice (n := t377.length) Try.underlying22 rfl) (⟨M320, LE238, S.pick [1, 2, 3] (by decide)⟩) ?_
                        refine Wa_takeY (i := 57) rfl (by kernel_rfl) rfl rfl (.bool ((t377.length : Int) == (0 : Int))) rfl (congrArg some hb366) (fun w' h' => x_ibin rfl rfl rfl rfl) (⟨M320, LE238, S.pick [1, 2, 3] (by decide)⟩) ?_
                        refine Wa_take (i := 58) rfl (by kernel_rfl) rfl rfl (.bool ((t377.length : Int) == (0 : Int))) rfl (fun w' h' => x_pick (k := true) (congrArg Value.bool hb366) rfl) (⟨M320, LE238, S.pick [1, 2, 3] (by decide)⟩) ?_
                        exact hrest _ _ ⟨((t377.length : Int) == (0 : Int)), Option.some.inj H, ⟨rfl, rfl, trivial⟩, E, S.pick [1, 2, 3] (by decide)⟩
                      · skip
                        refine Wa_takeN (i := 53) rfl (by kernel_rfl) rfl rfl rfl (skT hb366) (⟨M320, LE238, S.pick [0, 1, 2] (by decide)⟩) ?_
                        refine Wa_takeN (i := 54) rfl (by kernel_rfl) rfl rfl rfl (skT hb366) (⟨M320, LE238, S.pick [0, 1, 2] (by decide)⟩) ?_
                        refine Wa_takeN (i := 55) rfl (by kernel_rfl) rfl rfl rfl (skT hb366) (⟨M320, LE238, S.pick [0, 1, 2] (by decide)⟩) ?_
                        refine Wa_takeN (i := 56) rfl (by kernel_rfl) rfl rfl rfl (skT hb366) (⟨M320, LE238, S.pick [0, 1, 2] (by decide)⟩) ?_
                        refine Wa_takeN (i := 57) rfl (by kernel_rfl) rfl rfl rfl (skT hb366) (⟨M320, LE238, S.pick [0, 1, 2] (by decide)⟩) ?_
                        refine Wa_take (i := 58) rfl (by kernel_rfl) rfl rfl (.bool false) rfl (fun w' h' => x_pick (k := false) (congrArg Value.bool hb366) rfl) (⟨M320, LE238, S.pick [0, 1, 2] (by decide)⟩) ?_
                        exact hrest _ _ ⟨false, Option.some.inj H, ⟨rfl, rfl, trivial⟩, E, S.pick [0, 1, 2] (by decide)⟩
                  · intro hrest
                    have H := o351h
                    clear o351h o351H
                    rcases iteS H with ⟨hb349, H⟩ | ⟨hb349, H⟩
                    · skip
                      refine Wa_takeY (i := 48) rfl (by kernel_rfl) rfl rfl (.slice A3 t1.length c4) rfl (congrArg some hb349) (fun w' h' => x_move rfl) (⟨M320, LE238, S.pick [0, 1, 2] (by decide)⟩) ?_
                      refine Wa_solo (i := 49) rfl (by kernel_rfl) ?_
                      refine W_yes (congrArg some hb349) ?_
                      obtain ⟨t383, ht384, H⟩ := bindS H
                      refine W_callF fn13 (keep_Clash.con k M320 A3 c4 t1 (9 : Int) t383 hf9 ht384) S rfl rfl (by rintro _ _ _ ⟨_, rfl⟩; exact flat_nil) ?_
                      rintro _ w385 _ Γ' E' S ⟨rfl, rfl⟩
                      replace E := E.trans E'
                      clear E'
                      refine Wl_nil (on_n ⟨⟨M320, LE238, S.pick [0, 1, 2] (by decide)⟩, ?_⟩)
                      refine Wa_takeY (i := 50) rfl (by kernel_rfl) rfl rfl (.bool (!t383)) rfl (congrArg some hb349) (fun w' h' => x_not rfl) (⟨M320, LE238, S.pick [0, 1, 2] (by decide)⟩) ?_
                      refine Wa_take (i := 51) rfl (by kernel_rfl) rfl rfl (.bool (!t383)) rfl (fun w' h' => x_pick (k := true) (congrArg Value.bool hb349) rfl) (⟨M320, LE238, S.pick [0, 1, 2] (by decide)⟩) ?_
                      exact hrest _ _ ⟨(!t383), Option.some.inj H, ⟨rfl, rfl, rfl, trivial⟩, E, S.pick [0, 1, 2] (by decide)⟩
                    · skip
                      refine Wa_takeN (i := 48) rfl (by kernel_rfl) rfl rfl rfl (skT hb349) (⟨M320, LE238, S.pick [0, 1, 2] (by decide)⟩) ?_
                      refine Wa_takeN (i := 49) rfl (by kernel_rfl) rfl rfl rfl (skT hb349) (⟨M320, LE238, S.pick [0, 1, 2] (by decide)⟩) ?_
                      refine Wa_takeN (i := 50) rfl (by kernel_rfl) rfl rfl rfl (skT hb349) (⟨M320, LE238, S.pick [0, 1, 2] (by decide)⟩) ?_
                      refine Wa_take (i := 51) rfl (by kernel_rfl) rfl rfl (.bool false) rfl (fun w' h' => x_pick (k := false) (congrArg Value.bool hb349) rfl) (⟨M320, LE238, S.pick [0, 1, 2] (by decide)⟩) ?_
                      exact hrest _ _ ⟨false, Option.some.inj H, ⟨rfl, rfl, rfl, trivial⟩, E, S.pick [0, 1, 2] (by decide)⟩
                · intro hrest
                  have H := o344h
                  clear o344h o344H
                  rcases iteS H with ⟨hb342, H⟩ | ⟨hb342, H⟩
                  · skip
                    refine Wa_takeY (i := 44) rfl (by kernel_rfl) rfl rfl (.slice A3 t1.length c4) rfl (congrArg some hb342) (fun w' h' => x_move rfl) (⟨M320, LE238, S.pick [0, 1, 2] (by decide)⟩) ?_
                    refine Wa_solo (i := 45) rfl (by kernel_rfl) ?_
                    refine W_yes (congrArg some hb342) ?_
                    obtain ⟨t386, ht387, H⟩ := bindS H
                    refine W_callF fn13 (keep_Clash.con k M320 A3 c4 t1 (8 : Int) t386 hf9 ht387) S rfl rfl (by rintro _ _ _ ⟨_, rfl⟩; exact flat_nil) ?_
                    rintro _ w388 _ Γ' E' S ⟨rfl, rfl⟩
                    replace E := E.trans E'
                    clear E'
                    refine Wl_nil (on_n ⟨⟨M320, LE238, S.pick [0, 1, 2] (by decide)⟩, ?_⟩)
                    refine Wa_take (i := 46) rfl (by kernel_rfl) rfl rfl (.bool t386) rfl (fun w' h' => x_pick (k := true) (congrArg Value.bool hb342) rfl) (⟨M320, LE238, S.pick [0, 1, 2] (by decide)⟩) ?_
                    exact hrest _ _ ⟨t386, Option.some.inj H, ⟨rfl, rfl, rfl, trivial⟩, E, S.pick [0, 1, 2] (by decide)⟩
                  · skip
                    refine Wa_takeN (i := 44) rfl (by kernel_rfl) rfl rfl rfl (skT hb342) (⟨M320, LE238, S.pick [0, 1, 2] (by decide)⟩) ?_
                    refine Wa_takeN (i := 45) rfl (by kernel_rfl) rfl rfl rfl (skT hb342) (⟨M320, LE238, S.pick [0, 1, 2] (by decide)⟩) ?_
                    refine Wa_take (i := 46) rfl (by kernel_rfl) rfl rfl (.bool false) rfl (fun w' h' => x_pick (k := false) (congrArg Value.bool hb342) rfl) (⟨M320, LE238, S.pick [0, 1, 2] (by decide)⟩) ?_
                    exact hrest _ _ ⟨false, Option.some.inj H, ⟨rfl, rfl, rfl, trivial⟩, E, S.pick [0, 1, 2] (by decide)⟩
              · intro hrest
                rcases boolCases x335 with hb338 | hb338
                · skip
                  refine Wa_takeN (i := 40) rfl (by kernel_rfl) rfl rfl rfl (skT hb338) (⟨M320, LE238, S.pick [0, 1, 2] (by decide)⟩) ?_
                  refine Wa_takeN (i := 41) rfl (by kernel_rfl) rfl rfl rfl (skT hb338) (⟨M320, LE238, S.pick [0, 1, 2] (by decide)⟩) ?_
                  refine Wa_take (i := 42) rfl (by kernel_rfl) rfl rfl (.bool false) rfl (fun w' h' => x_pick (k := false) (congrArg Value.bool hb338) rfl) (⟨M320, LE238, S.pick [0, 1, 2] (by decide)⟩) ?_
                  exact hrest _ _ ⟨⟨rfl, rfl, (by first | rfl | (rw [hb338]; rfl) | (simp only [hb338]; rfl)), trivial⟩, rfl⟩
                · skip
                  refine Wa_takeY (i := 40) rfl (by kernel_rfl) rfl rfl (.bool t24.2) rfl (congrArg some hb338) (fun w' h' => x_move rfl) (⟨M320, LE238, S.pick [0, 1, 2] (by decide)⟩) ?_
                  refine Wa_takeY (i := 41) rfl (by kernel_rfl) rfl rfl (.bool (!t24.2)) rfl (congrArg some hb338) (fun w' h' => x_not rfl) (⟨M320, LE238, S.pick [0, 1, 2] (by decide)⟩) ?_
                  refine Wa_take (i := 42) rfl (by kernel_rfl) rfl rfl (.bool (!t24.2)) rfl (fun w' h' => x_pick (k := true) (congrArg Value.bool hb338) rfl) (⟨M320, LE238, S.pick [0, 1, 2] (by decide)⟩) ?_
                  exact hrest _ _ ⟨⟨rfl, rfl, (by first | rfl | (rw [hb338]; rfl) | (simp only [hb338]; rfl)), trivial⟩, rfl⟩
            · intro hrest
              have H := o336h
              clear o336h o336H
              rcases iteS H with ⟨hb334, H⟩ | ⟨hb334, H⟩
              · skip
                refine Wa_takeY (i := 33) rfl (by kernel_rfl) rfl rfl (.agg #[.int .i64 t17.1.Writer, .int .i64 t17.1.TS, .bool t17.1.Tomb, .string (bs t17.1.Value)]) rfl (congrArg some hb334) (fun w' h' => x_loadA (cls_blk h' 1 rfl) ty27 rfl (sub_of_extract rfl) rfl rfl) (⟨M320, LE238, S.pick [0, 1, 2] (by decide)⟩) ?_
                refine Wa_takeY (i := 34) rfl (by kernel_rfl) rfl rfl (.slice A3 t1.length c4) rfl (congrArg some hb334) (fun w' h' => x_move rfl) (⟨M320, LE238, S.pick [0, 1, 2] (by decide)⟩) ?_
                obtain ⟨⟨p389, p390⟩, H⟩ := chkS H
                obtain ⟨b391, o392, cs393, _, _, ee398, hb394, vs395, hR396, hc397⟩ := SlW.at' hf9z p389 p390
                obtain rfl : vs395 = _ := hR396
                refine Wa_takeY (i := 35) rfl (by kernel_rfl) rfl rfl (.pointer (some ⟨b391, o392 + (2 : Int).toNat * 4, none⟩)) rfl (congrArg some hb334) (fun w' h' => x_indexAddr Try.underlying22 ty27 (slA ee398) rfl p389 p390) (⟨M320, LE238, S.pick [0, 1, 2] (by decide)⟩) ?_
                refine Wa_takeY (i := 36) rfl (by kernel_rfl) rfl rfl (.agg #[.int .i64 ((rd t1 (2 : Int)).Writer), .int .i64 ((rd t1 (2 : Int)).TS), .bool ((rd t1 (2 : Int)).Tomb), .string (bs ((rd t1 (2 : Int)).Value))]) rfl (congrArg some hb334) (fun w' h' => x_loadA (cls_frz h' hb394) ty27 rfl (sub_el hc397 0 rfl) rfl rfl) (⟨M320, LE238, S.pick [0, 1, 2] (by decide)⟩) ?_
                refine Wa_takeY (i := 37) rfl (by kernel_rfl) rfl rfl (.bool ((t17.1.Writer == (rd t1 (2 : Int)).Writer) && ((t17.1.TS == (rd t1 (2 : Int)).TS) && ((t17.1.Tomb == (rd t1 (2 : Int)).Tomb) && (t17.1.Value == (rd t1 (2 : Int)).Value))))) rfl (congrArg some hb334) (fun w' h' => x_eq_of (eg27 _ _ _ _) rfl (eq27 _ t17.1.Writer t17.1.TS t17.1.Tomb t17.1.Value ((rd t1 (2 : Int)).Writer) ((rd t1 (2 : Int)).TS) ((rd t1 (2 : Int)).Tomb) ((rd t1 (2 : Int)).Value))) (⟨M320, LE238, S.pick [0, 1, 2] (by decide)⟩) ?_
                refine Wa_take (i := 38) rfl (by kernel_rfl) rfl rfl (.bool ((t17.1.Writer == (rd t1 (2 : Int)).Writer) && ((t17.1.TS == (rd t1 (2 : Int)).TS) && ((t17.1.Tomb == (rd t1 (2 : Int)).Tomb) && (t17.1.Value == (rd t1 (2 : Int)).Value))))) rfl (fun w' h' => x_pick (k := true) (congrArg Value.bool hb334) rfl) (⟨M320, LE238, S.pick [0, 1, 2] (by decide)⟩) ?_
                exact hrest _ _ ⟨((t17.1.Writer == (rd t1 (2 : Int)).Writer) && ((t17.1.TS == (rd t1 (2 : Int)).TS) && ((t17.1.Tomb == (rd t1 (2 : Int)).Tomb) && (t17.1.Value == (rd t1 (2 : Int)).Value)))), Option.some.inj H, ⟨rfl, rfl, rfl, rfl, trivial⟩, E, S.pick [0, 1, 2] (by decide)⟩
              · skip
                refine Wa_takeN (i := 33) rfl (by kernel_rfl) rfl rfl rfl (skT hb334) (⟨M320, LE238, S.pick [0, 1, 2] (by decide)⟩) ?_
                refine Wa_takeN (i := 34) rfl (by kernel_rfl) rfl rfl rfl (skT hb334) (⟨M320, LE238, S.pick [0, 1, 2] (by decide)⟩) ?_
                refine Wa_takeN (i := 35) rfl (by kernel_rfl) rfl rfl rfl (skT hb334) (⟨M320, LE238, S.pick [0, 1, 2] (by decide)⟩) ?_
                refine Wa_takeN (i := 36) rfl (by kernel_rfl) rfl rfl rfl (skT hb334) (⟨M320, LE238, S.pick [0, 1, 2] (by decide)⟩) ?_
                refine Wa_takeN (i := 37) rfl (by kernel_rfl) rfl rfl rfl (skT hb334) (⟨M320, LE238, S.pick [0, 1, 2] (by decide)⟩) ?_
                refine Wa_take (i := 38) rfl (by kernel_rfl) rfl rfl (.bool false) rfl (fun w' h' => x_pick (k := false) (congrArg Value.bool hb334) rfl) (⟨M320, LE238, S.pick [0, 1, 2] (by decide)⟩) ?_
                exact hrest _ _ ⟨false, Option.some.inj H, ⟨rfl, rfl, rfl, rfl, trivial⟩, E, S.pick [0, 1, 2] (by decide)⟩
          · intro hrest
            rcases boolCases (x317 && (!t10.2)) with hb323 | hb323
            · skip
              refine Wa_takeN (i := 30) rfl (by kernel_rfl) rfl rfl rfl (skT hb323) (⟨M320, LE238, S.pick [0, 1, 2] (by decide)⟩) ?_
              refine Wa_take (i := 31) rfl (by kernel_rfl) rfl rfl (.bool false) rfl (fun w' h' => x_pick (k := false) (congrArg Value.bool hb323) rfl) (⟨M320, LE238, S.pick [0, 1, 2] (by decide)⟩) ?_
              exact hrest _ _ ⟨⟨rfl, rfl, rfl, rfl, (by first | rfl | (rw [hb323]; rfl) | (simp only [hb323]; rfl)), trivial⟩, rfl⟩
            · skip
              refine Wa_takeY (i := 30) rfl (by kernel_rfl) rfl rfl (.bool t17.2) rfl (congrArg some hb323) (fun w' h' => x_move rfl) (⟨M320, LE238, S.pick [0, 1, 2] (by decide)⟩) ?_
              refine Wa_take (i := 31) rfl (by kernel_rfl) rfl rfl (.bool t17.2) rfl (fun w' h' => x_pick (k := true) (congrArg Value.bool hb323) rfl) (⟨M320, LE238, S.pick [0, 1, 2] (by decide)⟩) ?_
              exact hrest _ _ ⟨⟨rfl, rfl, rfl, rfl, (by first | rfl | (rw [hb323]; rfl) | (simp only [hb323]; rfl)), trivial⟩, rfl⟩
        · intro hrest
          rcases boolCases x317 with hb322 | hb322
          · skip
            refine Wa_takeN (i := 26) rfl (by kernel_rfl) rfl rfl rfl (skT hb322) (⟨M320, LE238, S.pick [0, 1, 2] (by decide)⟩) ?_
            refine Wa_takeN (i := 27) rfl (by kernel_rfl) rfl rfl rfl (skT hb322) (⟨M320, LE238, S.pick [0, 1, 2] (by decide)⟩) ?_
            refine Wa_take (i := 28) rfl (by kernel_rfl) rfl rfl (.bool false) rfl (fun w' h' => x_pick (k := false) (congrArg Value.bool hb322) rfl) (⟨M320, LE238, S.pick [0, 1, 2] (by decide)⟩) ?_
            exact hrest _ _ ⟨⟨rfl, rfl, rfl, rfl, rfl, (by first | rfl | (rw [hb322]; rfl) | (simp only [hb322]; rfl)), trivial⟩, rfl⟩
          · skip
            refine Wa_takeY (i := 26) rfl (by kernel_rfl) rfl rfl (.bool t10.2) rfl (congrArg some hb322) (fun w' h' => x_move rfl) (⟨M320, LE238, S.pick [0, 1, 2] (by decide)⟩) ?_
            refine Wa_takeY (i := 27) rfl (by kernel_rfl) rfl rfl (.bool (!t10.2)) rfl (congrArg some hb322) (fun w' h' => x_not rfl) (⟨M320, LE238, S.pick [0, 1, 2] (by decide)⟩) ?_
            refine Wa_take (i := 28) rfl (by kernel_rfl) rfl rfl (.bool (!t10.2)) rfl (fun w' h' => x_pick (k := true) (congrArg Value.bool hb322) rfl) (⟨M320, LE238, S.pick [0, 1, 2] (by decide)⟩) ?_
            exact hrest _ _ ⟨⟨rfl, rfl, rfl, rfl, rfl, (by first | rfl | (rw [hb322]; rfl) | (simp only [hb322]; rfl)), trivial⟩, rfl⟩
      · intro hrest
        have H := o318h
        clear o318h o318H
        have LE399 := Hp.le_refl M297
        rcases iteS H with ⟨hb316, H⟩ | ⟨hb316, H⟩
        · skip
          refine Wa_takeY (i := 19) rfl (by kernel_rfl) rfl rfl (.slice A3 t1.length c4) rfl (congrArg some hb316) (fun w' h' => x_move rfl) (⟨M297, LE238, S.pick [0, 1, 2] (by decide)⟩) ?_
          refine Wa_takeY (i := 21) rfl (by kernel_rfl) rfl rfl (.slice A3 t1.length c4) rfl (congrArg some hb316) (fun w' h' => x_move rfl) (⟨M297, LE238, S.pick [0, 1, 2] (by decide)⟩) ?_
          obtain ⟨⟨p400, p401⟩, H⟩ := chkS H
          obtain ⟨hs403, hx404⟩ := sl_hi hf9z p400 p401
          have hs403z := hs403
          replace hs403 := SlR.mono hs403 LE238
          refine Wa_takeY (i := 22) rfl (by kernel_rfl) rfl rfl (.slice A3 (List.take (1 : Int).toNat t1).length c4) rfl (congrArg some hb316) (fun w' h' => hx404 Try.underlying22 ty27 rfl rfl) (⟨M297, LE238, S.pick [0, 1, 2] (by decide)⟩) ?_
          refine Wa_solo (i := 20) rfl (by kernel_rfl) ?_
          refine W_yes (congrArg some hb316) ?_
          obtain ⟨t405, ht406, H⟩ := bindS H
          refine W_callF fn11 (keep_Kept.con k M297 A3 c4 t1 (9 : Int) t405 hf9 ht406) S rfl rfl (by rintro _ _ _ ⟨_, _, _, rfl⟩; exact (flat_cons (flat_row (fun _ _ _ _ h => h)) flat_nil)) ?_
          rintro _ w410 _ Γ' E' S ⟨A407, c408, rfl, rfl⟩
          replace E := E.trans E'
          clear E'
          refine Wl_nil (on_n ⟨⟨M297, LE238, S.pick [1, 2, 3] (by decide)⟩, ?_⟩)
          refine Wa_solo (i := 23) rfl (by kernel_rfl) ?_
          refine W_yes (congrArg some hb316) ?_
          obtain ⟨M411, hM412, hf413, S⟩ := S.row_freeze 0 rfl
          replace HM := Hp.le_trans HM hM412
          replace LE238 := Hp.le_trans LE238 hM412
          replace hM280 := Hp.le_trans hM280 hM412
          replace hM298 := Hp.le_trans hM298 hM412
          replace LE399 := Hp.le_trans LE399 hM412
          replace hf9 := SlR.mono hf9 hM412
          replace hs244 := SlR.mono hs244 hM412
          replace hf254 := SlR.mono hf254 hM412
          replace hs403 := SlR.mono hs403 hM412
          obtain ⟨t414, ht415, H⟩ := bindS H
          refine W_callF fn15 (ferrymanref11_Same.con k M411 A407 c408 t405 A3 c4 (List.take (1 : Int).toNat t1) t414 hf413 hs403 ht415) S rfl rfl (by rintro _ _ _ ⟨_, rfl⟩; exact flat_nil) ?_
          rintro _ w416 _ Γ' E' S ⟨rfl, rfl⟩
          replace E := E.trans E'
          clear E'
          refine Wl_nil (on_n ⟨⟨M411, LE238, S.pick [0, 1, 2] (by decide)⟩, ?_⟩)
          refine Wa_take (i := 24) rfl (by kernel_rfl) rfl rfl (.bool t414) rfl (fun w' h' => x_pick (k := true) (congrArg Value.bool hb316) rfl) (⟨M411, LE238, S.pick [0, 1, 2] (by decide)⟩) ?_
          exact hrest _ _ ⟨t414, M411, Option.some.inj H, ⟨rfl, rfl, rfl, rfl, rfl, rfl, rfl, trivial⟩, LE399, E, S.pick [0, 1, 2] (by decide)⟩
        · skip
          refine Wa_takeN (i := 19) rfl (by kernel_rfl) rfl rfl rfl (skT hb316) (⟨M297, LE238, S.pick [0, 1, 2] (by decide)⟩) ?_
          refine Wa_takeN (i := 20) rfl (by kernel_rfl) rfl rfl rfl (skT hb316) (⟨M297, LE238, S.pick [0, 1, 2] (by decide)⟩) ?_
          refine Wa_takeN (i := 21) rfl (by kernel_rfl) rfl rfl rfl (skT hb316) (⟨M297, LE238, S.pick [0, 1, 2] (by decide)⟩) ?_
          refine Wa_takeN (i := 22) rfl (by kernel_rfl) rfl rfl rfl (skT hb316) (⟨M297, LE238, S.pick [0, 1, 2] (by decide)⟩) ?_
          refine Wa_takeN (i := 23) rfl (by kernel_rfl) rfl rfl rfl (skT hb316) (⟨M297, LE238, S.pick [0, 1, 2] (by decide)⟩) ?_
          refine Wa_take (i := 24) rfl (by kernel_rfl) rfl rfl (.bool false) rfl (fun w' h' => x_pick (k := false) (congrArg Value.bool hb316) rfl) (⟨M297, LE238, S.pick [0, 1, 2] (by decide)⟩) ?_
          exact hrest _ _ ⟨false, M297, Option.some.inj H, ⟨rfl, rfl, rfl, rfl, rfl, rfl, rfl, trivial⟩, (Hp.le_refl M297), E, S.pick [0, 1, 2] (by decide)⟩
    · intro hrest
      have H := o295h
      clear o295h o295H
      have LE417 := Hp.le_refl M279
      rcases iteS H with ⟨hb293, H⟩ | ⟨hb293, H⟩
      · skip
        refine Wa_takeY (i := 13) rfl (by kernel_rfl) rfl rfl (.slice A3 t1.length c4) rfl (congrArg some hb293) (fun w' h' => x_move rfl) (⟨M279, LE238, S.pick [0, 1, 2] (by decide)⟩) ?_
        refine Wa_takeY (i := 15) rfl (by kernel_rfl) rfl rfl (.slice A3 t1.length c4) rfl (congrArg some hb293) (fun w' h' => x_move rfl) (⟨M279, LE238, S.pick [0, 1, 2] (by decide)⟩) ?_
        refine Wa_solo (i := 14) rfl (by kernel_rfl) ?_
        refine W_yes (congrArg some hb293) ?_
        obtain ⟨t418, ht419, H⟩ := bindS H
        refine W_callF fn11 (keep_Kept.con k M279 A3 c4 t1 (1 : Int) t418 hf9 ht419) S rfl rfl (by rintro _ _ _ ⟨_, _, _, rfl⟩; exact (flat_cons (flat_row (fun _ _ _ _ h => h)) flat_nil)) ?_
        rintro _ w423 _ Γ' E' S ⟨A420, c421, rfl, rfl⟩
        replace E := E.trans E'
        clear E'
        refine Wl_nil (on_n ⟨⟨M279, LE238, S.pick [1, 2, 3] (by decide)⟩, ?_⟩)
        refine Wa_solo (i := 16) rfl (by kernel_rfl) ?_
        refine W_yes (congrArg some hb293) ?_
        obtain ⟨M424, hM425, hf426, S⟩ := S.row_freeze 0 rfl
        replace HM := Hp.le_trans HM hM425
        replace LE238 := Hp.le_trans LE238 hM425
        replace hM280 := Hp.le_trans hM280 hM425
        replace LE417 := Hp.le_trans LE417 hM425
        replace hf9 := SlR.mono hf9 hM425
        replace hs244 := SlR.mono hs244 hM425
        replace hf254 := SlR.mono hf254 hM425
        obtain ⟨t427, ht428, H⟩ := bindS H
        refine W_callF fn15 (ferrymanref11_Same.con k M424 A420 c421 t418 A3 c4 t1 t427 hf426 hf9 ht428) S rfl rfl (by rintro _ _ _ ⟨_, rfl⟩; exact flat_nil) ?_
        rintro _ w429 _ Γ' E' S ⟨rfl, rfl⟩
        replace E := E.trans E'
        clear E'
        refine Wl_nil (on_n ⟨⟨M424, LE238, S.pick [0, 1, 2] (by decide)⟩, ?_⟩)
        refine Wa_take (i := 17) rfl (by kernel_rfl) rfl rfl (.bool t427) rfl (fun w' h' => x_pick (k := true) (congrArg Value.bool hb293) rfl) (⟨M424, LE238, S.pick [0, 1, 2] (by decide)⟩) ?_
        exact hrest _ _ ⟨t427, M424, Option.some.inj H, ⟨rfl, rfl, rfl, rfl, rfl, rfl, rfl, trivial⟩, LE417, E, S.pick [0, 1, 2] (by decide)⟩
      · skip
        refine Wa_takeN (i := 13) rfl (by kernel_rfl) rfl rfl rfl (skT hb293) (⟨M279, LE238, S.pick [0, 1, 2] (by decide)⟩) ?_
        refine Wa_takeN (i := 14) rfl (by kernel_rfl) rfl rfl rfl (skT hb293) (⟨M279, LE238, S.pick [0, 1, 2] (by decide)⟩) ?_
        refine Wa_takeN (i := 15) rfl (by kernel_rfl) rfl rfl rfl (skT hb293) (⟨M279, LE238, S.pick [0, 1, 2] (by decide)⟩) ?_
        refine Wa_takeN (i := 16) rfl (by kernel_rfl) rfl rfl rfl (skT hb293) (⟨M279, LE238, S.pick [0, 1, 2] (by decide)⟩) ?_
        refine Wa_take (i := 17) rfl (by kernel_rfl) rfl rfl (.bool false) rfl (fun w' h' => x_pick (k := false) (congrArg Value.bool hb293) rfl) (⟨M279, LE238, S.pick [0, 1, 2] (by decide)⟩) ?_
        exact hrest _ _ ⟨false, M279, Option.some.inj H, ⟨rfl, rfl, rfl, rfl, rfl, rfl, rfl, trivial⟩, (Hp.le_refl M279), E, S.pick [0, 1, 2] (by decide)⟩
  · intro hrest
    have H := o277h
    clear o277h o277H
    have LE430 := Hp.le_refl M252
    rcases iteS H with ⟨hb275, H⟩ | ⟨hb275, H⟩
    · skip
      refine Wa_takeY (i := 6) rfl (by kernel_rfl) rfl rfl (.slice A3 t1.length c4) rfl (congrArg some hb275) (fun w' h' => x_move rfl) (⟨M252, LE238, S.pick [0, 1, 2] (by decide)⟩) ?_
      refine Wa_takeY (i := 8) rfl (by kernel_rfl) rfl rfl (.slice A3 t1.length c4) rfl (congrArg some hb275) (fun w' h' => x_move rfl) (⟨M252, LE238, S.pick [0, 1, 2] (by decide)⟩) ?_
      obtain ⟨⟨p431, p432⟩, H⟩ := chkS H
      obtain ⟨hs434, hx435⟩ := sl_hi hf9z p431 p432
      have hs434z := hs434
      replace hs434 := SlR.mono hs434 LE238
      refine Wa_takeY (i := 9) rfl (by kernel_rfl) rfl rfl (.slice A3 (List.take (3 : Int).toNat t1).length c4) rfl (congrArg some hb275) (fun w' h' => hx435 Try.underlying22 ty27 rfl rfl) (⟨M252, LE238, S.pick [0, 1, 2] (by decide)⟩) ?_
      refine Wa_solo (i := 7) rfl (by kernel_rfl) ?_
      refine W_yes (congrArg some hb275) ?_
      obtain ⟨t436, ht437, H⟩ := bindS H
      refine W_callF fn11 (keep_Kept.con k M252 A3 c4 t1 (5 : Int) t436 hf9 ht437) S rfl rfl (by rintro _ _ _ ⟨_, _, _, rfl⟩; exact (flat_cons (flat_row (fun _ _ _ _ h => h)) flat_nil)) ?_
      rintro _ w441 _ Γ' E' S ⟨A438, c439, rfl, rfl⟩
      replace E := E.trans E'
      clear E'
      refine Wl_nil (on_n ⟨⟨M252, LE238, S.pick [1, 2, 3] (by decide)⟩, ?_⟩)
      refine Wa_solo (i := 10) rfl (by kernel_rfl) ?_
      refine W_yes (congrArg some hb275) ?_
      obtain ⟨M442, hM443, hf444, S⟩ := S.row_freeze 0 rfl
      replace HM := Hp.le_trans HM hM443
      replace LE238 := Hp.le_trans LE238 hM443
      replace LE430 := Hp.le_trans LE430 hM443
      replace hf9 := SlR.mono hf9 hM443
      replace hs244 := SlR.mono hs244 hM443
      replace hf254 := SlR.mono hf254 hM443
      replace hs434 := SlR.mono hs434 hM443
      obtain ⟨t445, ht446, H⟩ := bindS H
      refine W_callF fn15 (ferrymanref11_Same.con k M442 A438 c439 t436 A3 c4 (List.take (3 : Int).toNat t1) t445 hf444 hs434 ht446) S rfl rfl (by rintro _ _ _ ⟨_, rfl⟩; exact flat_nil) ?_
      rintro _ w447 _ Γ' E' S ⟨rfl, rfl⟩
      replace E := E.trans E'
      clear E'
      refine Wl_nil (on_n ⟨⟨M442, LE238, S.pick [0, 1, 2] (by decide)⟩, ?_⟩)
      refine Wa_take (i := 11) rfl (by kernel_rfl) rfl rfl (.bool t445) rfl (fun w' h' => x_pick (k := true) (congrArg Value.bool hb275) rfl) (⟨M442, LE238, S.pick [0, 1, 2] (by decide)⟩) ?_
      exact hrest _ _ ⟨t445, M442, Option.some.inj H, ⟨rfl, rfl, rfl, rfl, rfl, rfl, rfl, trivial⟩, LE430, E, S.pick [0, 1, 2] (by decide)⟩
    · skip
      refine Wa_takeN (i := 6) rfl (by kernel_rfl) rfl rfl rfl (skT hb275) (⟨M252, LE238, S.pick [0, 1, 2] (by decide)⟩) ?_
      refine Wa_takeN (i := 7) rfl (by kernel_rfl) rfl rfl rfl (skT hb275) (⟨M252, LE238, S.pick [0, 1, 2] (by decide)⟩) ?_
      refine Wa_takeN (i := 8) rfl (by kernel_rfl) rfl rfl rfl (skT hb275) (⟨M252, LE238, S.pick [0, 1, 2] (by decide)⟩) ?_
      refine Wa_takeN (i := 9) rfl (by kernel_rfl) rfl rfl rfl (skT hb275) (⟨M252, LE238, S.pick [0, 1, 2] (by decide)⟩) ?_
      refine Wa_takeN (i := 10) rfl (by kernel_rfl) rfl rfl rfl (skT hb275) (⟨M252, LE238, S.pick [0, 1, 2] (by decide)⟩) ?_
      refine Wa_take (i := 11) rfl (by kernel_rfl) rfl rfl (.bool false) rfl (fun w' h' => x_pick (k := false) (congrArg Value.bool hb275) rfl) (⟨M252, LE238, S.pick [0, 1, 2] (by decide)⟩) ?_
      exact hrest _ _ ⟨false, M252, Option.some.inj H, ⟨rfl, rfl, rfl, rfl, rfl, rfl, rfl, trivial⟩, (Hp.le_refl M252), E, S.pick [0, 1, 2] (by decide)⟩
/-! ### slices.Backward[[]ferryman/api.Version,ferryman/api.Version]$1: function 28 -/
def slices_Backward_api_Version_api_Version_1_l0 {σ ε : Type} (a0 : (List api_Version)) (bd : Int × api_Version → σ → Option (σ ⊕ ε)) : Nat → Int → σ ⊕ ε → Option ((σ ⊕ ε) ⊕ (σ ⊕ ε))
  | 0, _, _ => none
  | k + 1, x43, x44 => (if (decide (x43 ≥ (0 : Int))) = true then (if 0 ≤ x43 ∧ x43 < (a0.length : Int) then (Option.bind (toL x44) (fun s80 => Option.bind (bd (x43, (rd a0 x43)) s80) (fun t82 => (if (!(isNorm t82)) = true then some (.inl t82) else slices_Backward_api_Version_api_Version_1_l0 a0 bd k (IntKind.i64.wrap (x43 - (1 : Int))) t82)))) else none) else some (.inr (x44)))
set_option maxHeartbeats 2000000 in
theorem slices_Backward_api_Version_api_Version_1_l0.mono {σ ε : Type} {a0 : (List api_Version)} {bd bd' : Int × api_Version → σ → Option (σ ⊕ ε)} (hbd : ∀ x s, OLe (bd x s) (bd' x s)) : ∀ {k : Nat} {x0 x1}, OLe (slices_Backward_api_Version_api_Version_1_l0 a0 bd k x0 x1) (slices_Backward_api_Version_api_Version_1_l0 a0 bd' (k + 1) x0 x1) := by
  intro k
  induction k with
  | zero => intros; exact OLe.none
  | succ k ih =>
    intros
    rw [slices_Backward_api_Version_api_Version_1_l0.eq_2, slices_Backward_api_Version_api_Version_1_l0.eq_2]
    repeat' (first | exact OLe.none | exact OLe.some | exact OLe.toL | exact hbd _ _ | exact ih | refine OLe.bind ?_ (fun _ => ?_) | refine OLe.ite ?_ ?_ | refine OLe.elim (fun _ => ?_) (fun _ => ?_) | split)
def slices_Backward_api_Version_api_Version_1 {σ ε : Type} (k : Nat) (a0 : (List api_Version)) (bd : Int × api_Version → σ → Option (σ ⊕ ε)) (s0 : σ) : Option (σ ⊕ ε) :=
  (Option.bind (slices_Backward_api_Version_api_Version_1_l0 a0 bd k (IntKind.i64.wrap ((a0.length : Int) - (1 : Int))) (.inl s0)) (fun o65o => Sum.elim (fun r' => some r') (fun x64 => some x64) o65o))
set_option maxHeartbeats 2000000 in
theorem slices_Backward_api_Version_api_Version_1.mono {σ ε : Type} {k : Nat} {a0 : (List api_Version)} {bd bd' : Int × api_Version → σ → Option (σ ⊕ ε)} (hbd : ∀ x s, OLe (bd x s) (bd' x s)) {s0 : σ} : OLe (slices_Backward_api_Version_api_Version_1 k a0 bd s0) (slices_Backward_api_Version_api_Version_1 (k + 1) a0 bd' s0) := by
  unfold slices_Backward_api_Version_api_Version_1
  repeat' (first | exact OLe.none | exact OLe.some | exact slices_Backward_api_Version_api_Version_1_l0.mono hbd | exact OLe.toL | exact hbd _ _ | refine OLe.bind ?_ (fun _ => ?_) | refine OLe.ite ?_ ?_ | refine OLe.elim (fun _ => ?_) (fun _ => ?_) | split)
set_option maxHeartbeats 4000000 in
set_option maxRecDepth 100000 in
theorem slices_Backward_api_Version_api_Version_1.con {σ ε : Type} (k : Nat) (M : Hp) (A0 : Option Addr) (c0 : Nat) (a0 : (List api_Version)) (b0 : Nat) (bd : Int × api_Version → σ → Option (σ ⊕ ε)) (s0 : σ) (r : σ ⊕ ε) (hr0 : SlR r_api_Version M (.slice A0 a0.length c0) a0) (h : slices_Backward_api_Version_api_Version_1 k a0 bd s0 = some r) : Iter Try.prog 28 [.pointer (some ⟨b0, 0, none⟩)] M (fun (M : Hp) (x : Int × api_Version) (vs : List Value) => vs = [.int .i64 x.1, .agg #[.int .i64 x.2.Writer, .int .i64 x.2.TS, .bool x.2.Tomb, .string (bs x.2.Value)]]) bd s0 r [Blk b0 (.cells #[.slice A0 a0.length c0] 22 (0, 0))] (fun M' Γ' => Γ' = [Blk b0 (.cells #[.slice A0 a0.length c0] 22 (0, 0))]) := by
  intro lp B hY
  refine con_of_wp Try.func28 rfl Try.ntmps28 Try.results28 rfl ?_
  intro w F rn S hrn
  have E := Ext.refl w
  have HM := Hp.le_refl M
  have H := h
  unfold slices_Backward_api_Version_api_Version_1 at H
  refine Wp_seq ?_
  refine Wp_region_lit ?_
  refine W_v (.slice A0 a0.length c0) (x_load (S.blk 1 rfl) ty22 rfl rfl) rfl ?_
  refine W_v (.int .i64 (a0.length : Int)) (x_len_slice (n := a0.length) Try.underlying22 rfl) rfl ?_
  refine W_v (.int .i64 (IntKind.i64.wrap ((a0.length : Int) - (1 : Int)))) (x_ibin rfl rfl rfl rfl) rfl ?_
  refine W_v (.int .i64 (IntKind.i64.wrap ((a0.length : Int) - (1 : Int)))) (x_assign rfl) rfl ?_
  refine Wl_nil ?_
  refine tn ?_
  obtain ⟨o65, o65h, o65H⟩ := bindS H
  clear H
  refine Wp_blockJ (fun ρ w' => ∃ (x64 : σ ⊕ ε) (Mj : Hp), .inr (x64) = o65 ∧ Agree ρ [] ∧ M.le Mj ∧ Ext w w' ∧ St w' Mj F [Blk b0 (.cells #[.slice A0 a0.length c0] 22 (0, 0)), B x64]) ?_ ?_
  · skip
    refine Wp_loop (fun n ρ w' => ∃ (x43 : Int) (x44 : σ ⊕ ε) (Mj : Hp), slices_Backward_api_Version_api_Version_1_l0 a0 bd n x43 x44 = some o65 ∧ Agree ρ [(0, .func (.yield lp) #[] #[]), (1, .pointer (some ⟨b0, 0, none⟩)), (3, .int .i64 x43)] ∧ M.le Mj ∧ Ext w w' ∧ St w' Mj F [Blk b0 (.cells #[.slice A0 a0.length c0] 22 (0, 0)), B x44]) k ?_ ?_
    · skip
      exact ⟨(IntKind.i64.wrap ((a0.length : Int) - (1 : Int))), (.inl s0), M, o65h, ⟨rfl, rfl, rfl, trivial⟩, (Hp.le_refl M), E, S.pick [1, 0] (by decide)⟩
    · intro n
      rintro ρ w66 ⟨x43, x44, M67, H, hρ, hM68, E, S⟩
      rw [agree_eta hρ]
      clear hρ
      replace HM := Hp.le_trans HM hM68
      replace hr0 := SlR.mono hr0 hM68
      cases n with
      | zero => cases H
      | succ k =>
        rw [slices_Backward_api_Version_api_Version_1_l0.eq_2] at H
        refine Wp_seq ?_
        refine Wp_seq ?_
        refine Wp_region_lit ?_
        refine W_v (.int .i64 x43) (x_move rfl) rfl ?_
        refine W_v (.bool (decide (x43 ≥ (0 : Int)))) (x_ibin rfl rfl rfl rfl) rfl ?_
        refine Wl_nil ?_
        refine tn ?_
        rcases iteS H with ⟨hb69, H⟩ | ⟨hb69, H⟩
        · refine Wp_cond_true (congrArg Value.bool hb69) ?_
          refine Wp_skip ?_
          refine tn ?_
          refine Wp_seq ?_
          refine Wp_block ?_
          refine Wp_seq ?_
          refine Wp_region_lit ?_
          refine W_v (.func (.yield lp) #[] #[]) (x_move rfl) rfl ?_
          refine W_v (.int .i64 x43) (x_move rfl) rfl ?_
          refine W_v (.slice A0 a0.length c0) (x_load (S.blk 0 rfl) ty22 rfl rfl) rfl ?_
          refine W_v (.int .i64 x43) (x_move rfl) rfl ?_
          obtain ⟨⟨p70, p71⟩, H⟩ := chkS H
          obtain ⟨b72, o73, cs74, _, _, ee79, hb75, vs76, hR77, hc78⟩ := SlW.at' hr0 p70 p71
          obtain rfl : vs76 = _ := hR77
          refine W_v (.pointer (some ⟨b72, o73 + x43.toNat * 4, none⟩)) (x_indexAddr Try.underlying22 ty27 (slA ee79) rfl p70 p71) rfl ?_
          refine W_v (.agg #[.int .i64 ((rd a0 x43).Writer), .int .i64 ((rd a0 x43).TS), .bool ((rd a0 x43).Tomb), .string (bs ((rd a0 x43).Value))]) (x_loadA (S.frz hb75) ty27 rfl (sub_el hc78 0 rfl) rfl rfl) rfl ?_
          obtain ⟨s80, hs81, H⟩ := bindS H
          obtain ⟨t82, ht83, H⟩ := bindS H
          rw [toL_eq hs81] at S
          replace S : St w66 M67 F [B (.inl s80), Blk b0 (.cells #[.slice A0 a0.length c0] 22 (0, 0))] := S.pick [1, 0] (by decide)
          refine W_yield rfl (hY _ (x43, (rd a0 x43)) _ s80 t82 HM (rfl) ht83) S rfl rfl ?_
          rintro _ w84 M85 _ hM86 E' S ⟨rfl, rfl⟩
          replace HM := Hp.le_trans HM hM86
          replace hM68 := Hp.le_trans hM68 hM86
          replace hr0 := SlR.mono hr0 hM86
          replace hb75 := hM86 _ _ hb75
          replace E := E.trans E'
          clear E'
          refine W_v (.bool (!(isNorm t82))) (x_not rfl) rfl ?_
          refine Wl_nil ?_
          refine tn ?_
          rcases iteS H with ⟨hb87, H⟩ | ⟨hb87, H⟩
          · refine Wp_cond_true (congrArg Value.bool hb87) ?_
            refine Wp_ret ?_
            refine br (tr (tr (br (tr (?_)))))
            obtain rfl := Option.some.inj H
            have H := o65H
            replace H := elimL H
            obtain rfl := Option.some.inj H
            exact ⟨_, _, _, fun w1 e1 => run_resR (vs := []) FA.nil, HM, E, S.pick [0, 1] (by decide), ⟨_, rfl, rfl⟩⟩
          · refine Wp_cond_false (congrArg Value.bool hb87) ?_
            refine Wp_skip ?_
            refine bn ?_
            refine tn ?_
            refine Wp_region_lit ?_
            refine W_v (.int .i64 x43) (x_move rfl) rfl ?_
            refine W_v (.int .i64 (IntKind.i64.wrap (x43 - (1 : Int)))) (x_ibin rfl rfl rfl rfl) rfl ?_
            refine W_v (.int .i64 (IntKind.i64.wrap (x43 - (1 : Int)))) (x_assign rfl) rfl ?_
            refine Wl_nil ?_
            refine tn ?_
            exact ⟨k, Nat.lt_succ_self k, ⟨(IntKind.i64.wrap (x43 - (1 : Int))), t82, M85, H, ⟨rfl, rfl, rfl, trivial⟩, hM68, E, S.pick [1, 0] (by decide)⟩⟩
        · refine Wp_cond_false (congrArg Value.bool hb69) ?_
          refine Wp_exit ?_
          refine tx (tx (bsm (?_)))
          refine tn ?_
          exact ⟨x44, M67, Option.some.inj H, trivial, hM68, E, S.pick [0, 1] (by decide)⟩
  · clear o65h
    rintro ρ w88 ⟨x64, M89, rfl, hρ, hM90, E, S⟩
    rw [agree_eta hρ]
    clear hρ
    replace HM := Hp.le_trans HM hM90
    replace hr0 := SlR.mono hr0 hM90
    have H := o65H
    clear o65H
    replace H := elimR H
    obtain rfl := Option.some.inj H
    exact ⟨_, _, _, fun w1 e1 => run_resR (vs := []) FA.nil, HM, E, S.pick [1, 0] (by decide), ⟨_, rfl, rfl⟩⟩
/-! ### slices.Backward[[]ferryman/api.Version,ferryman/api.Version]: function 24 -/
def slices_Backward_api_Version_api_Version (k : Nat) (a0 : (List api_Version)) : Option (Unit) :=
  some ()
set_option maxHeartbeats 2000000 in
theorem slices_Backward_api_Version_api_Version.mono {k : Nat} {a0 : (List api_Version)} : OLe (slices_Backward_api_Version_api_Version k a0) (slices_Backward_api_Version_api_Version (k + 1) a0) := by
  unfold slices_Backward_api_Version_api_Version
  repeat' (first | exact OLe.none | exact OLe.some | refine OLe.bind ?_ (fun _ => ?_) | refine OLe.ite ?_ ?_ | refine OLe.elim (fun _ => ?_) (fun _ => ?_) | split)
set_option maxHeartbeats 4000000 in
set_option maxRecDepth 100000 in
theorem slices_Backward_api_Version_api_Version.con (k : Nat) (M : Hp) (A0 : Option Addr) (c0 : Nat) (a0 : (List api_Version)) (r : Unit) (hr0 : SlR r_api_Version M (.slice A0 a0.length c0) a0) (h : slices_Backward_api_Version_api_Version k a0 = some r) : Con Try.prog 24 #[.slice A0 a0.length c0] M [] (fun v M' Γ' => ∃ (b1 : Nat), v = .func (.func 28) #[] #[.pointer (some ⟨b1, 0, none⟩)] ∧ Γ' = [Blk b1 (.cells #[.slice A0 a0.length c0] 22 (0, 0))]) := by
  refine con_of_wp Try.func24 rfl Try.ntmps24 Try.results24 rfl ?_
  intro w F rn S hrn
  have E := Ext.refl w
  have HM := Hp.le_refl M
  have H := h
  unfold slices_Backward_api_Version_api_Version at H
  refine Wp_seq ?_
  refine Wp_region_lit ?_
  refine W_box S #[.slice A0 a0.length c0] rfl rfl rfl ?_
  intro b1 w2 E' S
  replace E := E.trans E'
  clear E'
  refine W_v (.nilFunc) (x_assign rfl) rfl ?_
  refine Wl_nil ?_
  refine tn ?_
  refine Wp_seq ?_
  refine Wp_region_lit ?_
  refine W_v (.func (.func 28) #[] #[.pointer (some ⟨b1, 0, none⟩)]) (x_makeFunc rfl) rfl ?_
  refine W_v (.func (.func 28) #[] #[.pointer (some ⟨b1, 0, none⟩)]) (x_assign rfl) rfl ?_
  refine Wl_nil ?_
  refine tn ?_
  refine Wp_ret ?_
  obtain rfl := Option.some.inj H
  exact ⟨_, _, _, fun w1 e1 => run_resR (vs := [.func (.func 28) #[] #[.pointer (some ⟨b1, 0, none⟩)]]) (FA.cons rfl FA.nil), HM, E, S.pick [0] (by decide), ⟨b1, rfl, rfl⟩⟩
/-! ### ferryman/keep.Legal: function 14 -/
def keep_Legal_b0 (k : Nat) : (Int × api_Version) → Int → Option ((Int) ⊕ (Unit))
  | (y46, y47), x33 => (if (decide (y47.TS ≤ x33)) = true then some (.inr ()) else some (.inl y47.TS))
set_option maxHeartbeats 2000000 in
theorem keep_Legal_b0.mono {k : Nat} : ∀ x s, OLe (keep_Legal_b0  k x s) (keep_Legal_b0  (k + 1) x s) := by
  intro x s
  unfold keep_Legal_b0
  repeat' (first | exact OLe.none | exact OLe.some | refine OLe.bind ?_ (fun _ => ?_) | refine OLe.ite ?_ ?_ | refine OLe.elim (fun _ => ?_) (fun _ => ?_) | split)
def keep_Legal (k : Nat) (a0 : (List api_Version)) : Option (Bool) :=
  (Option.bind (slices_Backward_api_Version_api_Version k a0) (fun t8 => (Option.bind (slices_Backward_api_Version_api_Version_1 k a0 (keep_Legal_b0 k) (0 : Int)) (fun o43o => Sum.elim (fun x33 => some true) (fun _ => some false) o43o))))
set_option maxHeartbeats 2000000 in
theorem keep_Legal.mono {k : Nat} {a0 : (List api_Version)} : OLe (keep_Legal k a0) (keep_Legal (k + 1) a0) := by
  unfold keep_Legal
  repeat' (first | exact OLe.none | exact OLe.some | exact keep_Legal_b0.mono | exact slices_Backward_api_Version_api_Version.mono | exact slices_Backward_api_Version_api_Version_1.mono (fun _ _ => by first | exact keep_Legal_b0.mono _ _) | refine OLe.bind ?_ (fun _ => ?_) | refine OLe.ite ?_ ?_ | refine OLe.elim (fun _ => ?_) (fun _ => ?_) | split)
set_option maxHeartbeats 4000000 in
set_option maxRecDepth 100000 in
theorem keep_Legal.con (k : Nat) (M : Hp) (A0 : Option Addr) (c0 : Nat) (a0 : (List api_Version)) (r : Bool) (hr0 : SlR r_api_Version M (.slice A0 a0.length c0) a0) (h : keep_Legal k a0 = some r) : Con Try.prog 14 #[.slice A0 a0.length c0] M [] (fun v M' Γ' => v = .bool r ∧ Γ' = []) := by
  refine con_of_wp Try.func14 rfl Try.ntmps14 Try.results14 rfl ?_
  intro w F rn S hrn
  have E := Ext.refl w
  have HM := Hp.le_refl M
  have H := h
  unfold keep_Legal at H
  refine Wp_seq ?_
  refine Wp_region_lit ?_
  refine W_alloc S #[.bool false] ty4 rfl rfl ?_
  intro b1 w2 E' S
  replace E := E.trans E'
  clear E'
  refine Wl_nil ?_
  refine tn ?_
  refine Wp_seq ?_
  refine Wp_region_lit ?_
  refine W_alloc S #[.int .i64 0] ty3 rfl rfl ?_
  intro b4 w5 E' S
  replace E := E.trans E'
  clear E'
  refine W_store S 0 rfl ty3 rfl rfl [.int .i64 0] rfl rfl rfl #[.int .i64 0] rfl rfl ?_
  intro w7 E' S
  replace E := E.trans E'
  clear E'
  refine Wl_nil ?_
  refine tn ?_
  refine Wp_seq ?_
  refine Wp_seq ?_
  refine Wp_region_lit ?_
  refine W_v (.slice A0 a0.length c0) (x_move rfl) rfl ?_
  obtain ⟨t8, ht9, H⟩ := bindS H
  refine W_callF fn24 (slices_Backward_api_Version_api_Version.con k M A0 c0 a0 t8 hr0 ht9) S rfl rfl (by rintro _ _ _ ⟨_, rfl, rfl⟩; exact (flat_cons flat_blk flat_nil)) ?_
  rintro _ w12 _ Γ' E' S ⟨b10, rfl, rfl⟩
  replace E := E.trans E'
  clear E'
  replace S : St w12 M F [Blk b10 (.cells #[.slice A0 a0.length c0] 22 (0, 0)), Blk b4 (.cells #[.int .i64 0] 3 (0, 0)), Blk b1 (.cells #[.bool false] 4 (0, 0))] := S
  refine Wl_nil ?_
  refine tn ?_
  refine Wp_block ?_
  obtain ⟨o43, o43h, o43H⟩ := bindS H
  clear H
  refine Wp_rangeFunc (σ := Int) (ε := Unit) (Γi := [Blk b10 (.cells #[.slice A0 a0.length c0] 22 (0, 0))]) (Γr := []) (Sum.elim (fun x33 => AE (ι := Unit) (fun (i : Unit) => [Blk b4 (.cells #[.int .i64 x33] 3 (0, 0)), Blk b1 (.cells #[.bool false] 4 (0, 0))]) (fun _ _ => True) (fun _ _ _ _ _ => trivial)) (fun _ => AE (ι := Unit) (fun (i : Unit) => [Blk b1 (.cells #[.bool false] 4 (0, 0))]) (fun _ _ => True) (fun _ _ _ _ _ => trivial))) (fun _ => Code.ret) fn28 rfl (St.close_ex (φ := (fun _ _ => True)) (hφ := (fun _ _ _ _ _ => trivial)) () trivial (S.pick [1, 2, 0] (by decide))) (by rintro _ _ _ rfl; rfl) (by decide) (slices_Backward_api_Version_api_Version_1.con k M A0 c0 a0 b10 (keep_Legal_b0 k) (0 : Int) o43 hr0 o43h) ?_ ?_
  · intro nn lp M44 F yy vs x33 tt w hM45 henc hbd S
    obtain ⟨y46, y47⟩ := yy
    obtain rfl := henc
    replace HM := Hp.le_trans HM hM45
    replace hr0 := SlR.mono hr0 hM45
    replace S : St w M44 F (AE (ι := Unit) (fun (i : Unit) => [Blk b4 (.cells #[.int .i64 x33] 3 (0, 0)), Blk b1 (.cells #[.bool false] 4 (0, 0))]) (fun _ _ => True) (fun _ _ _ _ _ => trivial) :: []) := S
    obtain ⟨_, _, S⟩ := S.open_ex
    replace S : St w M44 F [Blk b4 (.cells #[.int .i64 x33] 3 (0, 0)), Blk b1 (.cells #[.bool false] 4 (0, 0))] := S
    have E := Ext.refl w
    have LE48 := Hp.le_refl M44
    have H := hbd
    rw [keep_Legal_b0.eq_1] at H
    refine Wp_region_lit ?_
    refine W_alloc S #[.int .i64 0, .int .i64 0, .bool false, .string (bs ([] : Str))] ty27 rfl rfl ?_
    intro b49 w50 E' S
    replace E := E.trans E'
    clear E'
    refine W_store S 0 rfl ty27 rfl rfl [.int .i64 y47.Writer, .int .i64 y47.TS, .bool y47.Tomb, .string (bs y47.Value)] rfl rfl rfl #[.int .i64 y47.Writer, .int .i64 y47.TS, .bool y47.Tomb, .string (bs y47.Value)] rfl rfl ?_
    intro w52 E' S
    replace E := E.trans E'
    clear E'
    refine Wl_nil ?_
    refine on_n ⟨_, _, LE48, E, S, ?_⟩
    intro w F E3 S
    have E := Ext.refl w
    have LE53 := Hp.le_refl M44
    refine Wp_block ?_
    refine Wp_seq ?_
    refine Wp_seq ?_
    refine Wp_region_lit ?_
    refine W_v (.pointer (some ⟨b49, 1, none⟩)) (x_fieldAddr (o := 0) (off := 1) Try.underlying27 rfl ty3 rfl rfl) rfl ?_
    refine W_v (.int .i64 y47.TS) (x_load (S.blk 0 rfl) ty3 rfl rfl) rfl ?_
    refine W_v (.int .i64 x33) (x_load (S.blk 1 rfl) ty3 rfl rfl) rfl ?_
    refine W_v (.bool (decide (y47.TS ≤ x33))) (x_ibin rfl rfl rfl rfl) rfl ?_
    refine Wl_nil ?_
    refine tn ?_
    rcases iteS H with ⟨hb54, H⟩ | ⟨hb54, H⟩
    · refine Wp_cond_true (congrArg Value.bool hb54) ?_
      refine Wp_seq ?_
      refine Wp_region_lit ?_
      refine W_store S 2 rfl ty4 rfl rfl [.bool false] rfl rfl rfl #[.bool false] rfl rfl ?_
      intro w55 E' S
      replace E := E.trans E'
      clear E'
      refine Wl_nil ?_
      refine tn ?_
      refine Wp_ret ?_
      refine tr (br (?_))
      obtain rfl := Option.some.inj H
      exact endB_mk rfl LE53 E (St.close_ex (φ := (fun _ _ => True)) (hφ := (fun _ _ _ _ _ => trivial)) () trivial (S.pick [2] (by decide)))
    · refine Wp_cond_false (congrArg Value.bool hb54) ?_
      refine Wp_skip ?_
      refine tn ?_
      refine Wp_region_lit ?_
      refine W_v (.pointer (some ⟨b49, 1, none⟩)) (x_fieldAddr (o := 0) (off := 1) Try.underlying27 rfl ty3 rfl rfl) rfl ?_
      refine W_v (.int .i64 y47.TS) (x_load (S.blk 0 rfl) ty3 rfl rfl) rfl ?_
      refine W_store S 1 rfl ty3 rfl rfl [.int .i64 y47.TS] rfl rfl rfl #[.int .i64 y47.TS] rfl rfl ?_
      intro w56 E' S
      replace E := E.trans E'
      clear E'
      refine Wl_nil ?_
      refine bn ?_
      obtain rfl := Option.some.inj H
      exact endB_mk trivial LE53 E (St.close_ex (φ := (fun _ _ => True)) (hφ := (fun _ _ _ _ _ => trivial)) () trivial (S.pick [1, 2] (by decide)))
  · intro w57 M58 Γ' hM59 E' hΨ S
    obtain rfl : Γ' = _ := hΨ
    replace E := E.trans E'
    clear E'
    replace HM := Hp.le_trans HM hM59
    replace hr0 := SlR.mono hr0 hM59
    have H := o43H
    clear o43H
    rcases o43 with x33 | _
    · replace H := elimL H
      refine afterR_l ?_
      replace S : St w57 M58 F (AE (ι := Unit) (fun (i : Unit) => [Blk b4 (.cells #[.int .i64 x33] 3 (0, 0)), Blk b1 (.cells #[.bool false] 4 (0, 0))]) (fun _ _ => True) (fun _ _ _ _ _ => trivial) :: [Blk b10 (.cells #[.slice A0 a0.length c0] 22 (0, 0))]) := S
      obtain ⟨_, _, S⟩ := S.open_ex
      replace S : St w57 M58 F [Blk b4 (.cells #[.int .i64 x33] 3 (0, 0)), Blk b1 (.cells #[.bool false] 4 (0, 0)), Blk b10 (.cells #[.slice A0 a0.length c0] 22 (0, 0))] := S
      refine bn ?_
      refine tn ?_
      refine Wp_seq ?_
      refine Wp_region_lit ?_
      refine W_store S 1 rfl ty4 rfl rfl [.bool true] rfl rfl rfl #[.bool true] rfl rfl ?_
      intro w60 E' S
      replace E := E.trans E'
      clear E'
      refine Wl_nil ?_
      refine tn ?_
      refine Wp_ret ?_
      obtain rfl := Option.some.inj H
      exact ⟨_, _, _, fun w1 e1 => run_resR (vs := [.bool true]) (FA.cons (⟨_, rfl, run_loadVar_one ty4 ((S.of_eq e1).blk 1 rfl) rfl⟩) (FA.nil)), HM, E, S.pick [] (by decide), ⟨rfl, rfl⟩⟩
    · replace H := elimR H
      refine afterR_r ?_
      replace S : St w57 M58 F (AE (ι := Unit) (fun (i : Unit) => [Blk b1 (.cells #[.bool false] 4 (0, 0))]) (fun _ _ => True) (fun _ _ _ _ _ => trivial) :: [Blk b10 (.cells #[.slice A0 a0.length c0] 22 (0, 0))]) := S
      obtain ⟨_, _, S⟩ := S.open_ex
      replace S : St w57 M58 F [Blk b1 (.cells #[.bool false] 4 (0, 0)), Blk b10 (.cells #[.slice A0 a0.length c0] 22 (0, 0))] := S
      refine Wp_ret ?_
      refine br (tr (?_))
      obtain rfl := Option.some.inj H
      exact ⟨_, _, _, fun w1 e1 => run_resR (vs := [.bool false]) (FA.cons (⟨_, rfl, run_loadVar_one ty4 ((S.of_eq e1).blk 0 rfl) rfl⟩) (FA.nil)), HM, E, S.pick [] (by decide), ⟨rfl, rfl⟩⟩
/-! ### slices.Equal[[]ferryman/api.Version,ferryman/api.Version]: function 25 -/
def slices_Equal_api_Version_api_Version_l0 (a0 : (List api_Version)) (a1 : (List api_Version)) : Nat → Int → Option ((Bool) ⊕ (Unit))
  | 0, _ => none
  | k + 1, x92 => (if (decide (x92 < (a0.length : Int))) = true then (if 0 ≤ x92 ∧ x92 < (a0.length : Int) then (if 0 ≤ x92 ∧ x92 < (a1.length : Int) then (if (!(((rd a0 x92).Writer == (rd a1 x92).Writer) && (((rd a0 x92).TS == (rd a1 x92).TS) && (((rd a0 x92).Tomb == (rd a1 x92).Tomb) && ((rd a0 x92).Value == (rd a1 x92).Value))))) = true then some (.inl false) else slices_Equal_api_Version_api_Version_l0 a0 a1 k (IntKind.i64.wrap (x92 + (1 : Int)))) else none) else none) else some (.inr ()))
set_option maxHeartbeats 2000000 in
theorem slices_Equal_api_Version_api_Version_l0.mono {a0 : (List api_Version)} {a1 : (List api_Version)} : ∀ {k : Nat} {x0}, OLe (slices_Equal_api_Version_api_Version_l0 a0 a1 k x0) (slices_Equal_api_Version_api_Version_l0 a0 a1 (k + 1) x0) := by
  intro k
  induction k with
  | zero => intros; exact OLe.none
  | succ k ih =>
    intros
    rw [slices_Equal_api_Version_api_Version_l0.eq_2, slices_Equal_api_Version_api_Version_l0.eq_2]
    repeat' (first | exact OLe.none | exact OLe.some | exact ih | refine OLe.bind ?_ (fun _ => ?_) | refine OLe.ite ?_ ?_ | refine OLe.elim (fun _ => ?_) (fun _ => ?_) | split)
def slices_Equal_api_Version_api_Version (k : Nat) (a0 : (List api_Version)) (a1 : (List api_Version)) : Option (Bool) :=
  (if ((a0.length : Int) != (a1.length : Int)) = true then some false else (Option.bind (slices_Equal_api_Version_api_Version_l0 a0 a1 k (0 : Int)) (fun o137o => Sum.elim (fun r' => some r') (fun _ => some true) o137o)))
set_option maxHeartbeats 2000000 in
theorem slices_Equal_api_Version_api_Version.mono {k : Nat} {a0 : (List api_Version)} {a1 : (List api_Version)} : OLe (slices_Equal_api_Version_api_Version k a0 a1) (slices_Equal_api_Version_api_Version (k + 1) a0 a1) := by
  unfold slices_Equal_api_Version_api_Version
  repeat' (first | exact OLe.none | exact OLe.some | exact slices_Equal_api_Version_api_Version_l0.mono | refine OLe.bind ?_ (fun _ => ?_) | refine OLe.ite ?_ ?_ | refine OLe.elim (fun _ => ?_) (fun _ => ?_) | split)
set_option maxHeartbeats 4000000 in
set_option maxRecDepth 100000 in
theorem slices_Equal_api_Version_api_Version.con (k : Nat) (M : Hp) (A0 : Option Addr) (c0 : Nat) (a0 : (List api_Version)) (A1 : Option Addr) (c1 : Nat) (a1 : (List api_Version)) (r : Bool) (hr0 : SlR r_api_Version M (.slice A0 a0.length c0) a0) (hr1 : SlR r_api_Version M (.slice A1 a1.length c1) a1) (h : slices_Equal_api_Version_api_Version k a0 a1 = some r) : Con Try.prog 25 #[.slice A0 a0.length c0, .slice A1 a1.length c1] M [] (fun v M' Γ' => v = .bool r ∧ Γ' = []) := by
  refine con_of_wp Try.func25 rfl Try.ntmps25 Try.results25 rfl ?_
  intro w F rn S hrn
  have E := Ext.refl w
  have HM := Hp.le_refl M
  have H := h
  unfold slices_Equal_api_Version_api_Version at H
  refine Wp_seq ?_
  refine Wp_region_lit ?_
  refine W_v (.bool false) (x_assign rfl) rfl ?_
  refine Wl_nil ?_
  refine tn ?_
  refine Wp_seq ?_
  refine Wp_seq ?_
  refine Wp_region_lit ?_
  refine W_v (.slice A0 a0.length c0) (x_move rfl) rfl ?_
  refine W_v (.int .i64 (a0.length : Int)) (x_len_slice (n := a0.length) Try.underlying22 rfl) rfl ?_
  refine W_v (.slice A1 a1.length c1) (x_move rfl) rfl ?_
  refine W_v (.int .i64 (a1.length : Int)) (x_len_slice (n := a1.length) Try.underlying22 rfl) rfl ?_
  refine W_v (.bool ((a0.length : Int) != (a1.length : Int))) (x_ibin rfl rfl rfl rfl) rfl ?_
  refine Wl_nil ?_
  refine tn ?_
  rcases iteS H with ⟨hb1, H⟩ | ⟨hb1, H⟩
  · refine Wp_cond_true (congrArg Value.bool hb1) ?_
    refine Wp_seq ?_
    refine Wp_region_lit ?_
    refine W_v (.bool false) (x_assign rfl) rfl ?_
    refine Wl_nil ?_
    refine tn ?_
    refine Wp_ret ?_
    refine tr (?_)
    obtain rfl := Option.some.inj H
    exact ⟨_, _, _, fun w1 e1 => run_resR (vs := [.bool false]) (FA.cons (rfl) (FA.nil)), HM, E, S.pick [] (by decide), ⟨rfl, rfl⟩⟩
  · refine Wp_cond_false (congrArg Value.bool hb1) ?_
    refine Wp_skip ?_
    refine tn ?_
    refine Wp_seq ?_
    refine Wp_seq ?_
    refine Wp_region_lit ?_
    refine W_v (.slice A0 a0.length c0) (x_move rfl) rfl ?_
    refine W_v (.int .i64 (a0.length : Int)) (x_len_slice (n := a0.length) Try.underlying22 rfl) rfl ?_
    refine W_v (.int .i64 0) (x_move rfl) rfl ?_
    refine Wl_nil ?_
    refine tn ?_
    obtain ⟨o137, o137h, o137H⟩ := bindS H
    clear H
    refine Wp_blockJ (fun ρ w' => .inr () = o137 ∧ Agree ρ [] ∧ Ext w w' ∧ St w' M F []) ?_ ?_
    · skip
      refine Wp_loop (fun n ρ w' => ∃ (x92 : Int), slices_Equal_api_Version_api_Version_l0 a0 a1 n x92 = some o137 ∧ Agree ρ [(0, .slice A0 a0.length c0), (1, .slice A1 a1.length c1), (12, .int .i64 (a0.length : Int)), (13, .int .i64 x92)] ∧ Ext w w' ∧ St w' M F []) k ?_ ?_
      · skip
        exact ⟨(0 : Int), o137h, ⟨rfl, rfl, rfl, rfl, trivial⟩, E, S.pick [] (by decide)⟩
      · intro n
        rintro ρ w138 ⟨x92, H, hρ, E, S⟩
        rw [agree_eta hρ]
        clear hρ
        cases n with
        | zero => cases H
        | succ k =>
          rw [slices_Equal_api_Version_api_Version_l0.eq_2] at H
          refine Wp_seq ?_
          refine Wp_region_lit ?_
          refine W_v (.bool (decide (x92 < (a0.length : Int)))) (x_ibin rfl rfl rfl rfl) rfl ?_
          refine Wl_nil ?_
          refine tn ?_
          refine Wp_seq ?_
          rcases iteS H with ⟨hb139, H⟩ | ⟨hb139, H⟩
          · refine Wp_cond_true (congrArg Value.bool hb139) ?_
            refine Wp_skip ?_
            refine tn ?_
            refine Wp_seq ?_
            refine Wp_block ?_
            refine Wp_seq ?_
            refine Wp_region_lit ?_
            refine W_v (.int .i64 x92) (x_move rfl) rfl ?_
            refine W_v (.int .i64 x92) (x_assign rfl) rfl ?_
            refine Wl_nil ?_
            refine tn ?_
            refine Wp_seq ?_
            refine Wp_region_any (S := fun w' => ∃ Mx, M.le Mx ∧ St w' Mx F []) mixed ?_
            intro w160 hw161 E'
            replace S := S.heap hw161
            replace E := E.trans E'
            clear E'
            refine Wa_take (i := 0) rfl (by kernel_rfl) rfl rfl (.slice A0 a0.length c0) rfl (fun w' h' => x_move rfl) (⟨M, Hp.le_refl M, S.pick [] (by decide)⟩) ?_
            refine Wa_take (i := 1) rfl (by kernel_rfl) rfl rfl (.int .i64 x92) rfl (fun w' h' => x_move rfl) (⟨M, Hp.le_refl M, S.pick [] (by decide)⟩) ?_
            obtain ⟨⟨p162, p163⟩, H⟩ := chkS H
            obtain ⟨b164, o165, cs166, _, _, ee171, hb167, vs168, hR169, hc170⟩ := SlW.at' hr0 p162 p163
            obtain rfl : vs168 = _ := hR169
            refine Wa_take (i := 2) rfl (by kernel_rfl) rfl rfl (.pointer (some ⟨b164, o165 + x92.toNat * 4, none⟩)) rfl (fun w' h' => x_indexAddr Try.underlying22 ty27 (slA ee171) rfl p162 p163) (⟨M, Hp.le_refl M, S.pick [] (by decide)⟩) ?_
            refine Wa_take (i := 3) rfl (by kernel_rfl) rfl rfl (.agg #[.int .i64 ((rd a0 x92).Writer), .int .i64 ((rd a0 x92).TS), .bool ((rd a0 x92).Tomb), .string (bs ((rd a0 x92).Value))]) rfl (fun w' h' => x_loadA (cls_frz h' hb167) ty27 rfl (sub_el hc170 0 rfl) rfl rfl) (⟨M, Hp.le_refl M, S.pick [] (by decide)⟩) ?_
            refine Wa_take (i := 4) rfl (by kernel_rfl) rfl rfl (.slice A1 a1.length c1) rfl (fun w' h' => x_move rfl) (⟨M, Hp.le_refl M, S.pick [] (by decide)⟩) ?_
            refine Wa_take (i := 5) rfl (by kernel_rfl) rfl rfl (.int .i64 x92) rfl (fun w' h' => x_move rfl) (⟨M, Hp.le_refl M, S.pick [] (by decide)⟩) ?_
            obtain ⟨⟨p172, p173⟩, H⟩ := chkS H
            obtain ⟨b174, o175, cs176, _, _, ee181, hb177, vs178, hR179, hc180⟩ := SlW.at' hr1 p172 p173
            obtain rfl : vs178 = _ := hR179
            refine Wa_take (i := 6) rfl (by kernel_rfl) rfl rfl (.pointer (some ⟨b174, o175 + x92.toNat * 4, none⟩)) rfl (fun w' h' => x_indexAddr Try.underlying22 ty27 (slA ee181) rfl p172 p173) (⟨M, Hp.le_refl M, S.pick [] (by decide)⟩) ?_
            refine Wa_take (i := 7) rfl (by kernel_rfl) rfl rfl (.agg #[.int .i64 ((rd a1 x92).Writer), .int .i64 ((rd a1 x92).TS), .bool ((rd a1 x92).Tomb), .string (bs ((rd a1 x92).Value))]) rfl (fun w' h' => x_loadA (cls_frz h' hb177) ty27 rfl (sub_el hc180 0 rfl) rfl rfl) (⟨M, Hp.le_refl M, S.pick [] (by decide)⟩) ?_
            refine Wa_take (i := 8) rfl (by kernel_rfl) rfl rfl (.bool (!(((rd a0 x92).Writer == (rd a1 x92).Writer) && (((rd a0 x92).TS == (rd a1 x92).TS) && (((rd a0 x92).Tomb == (rd a1 x92).Tomb) && ((rd a0 x92).Value == (rd a1 x92).Value)))))) rfl (fun w' h' => x_ne_of (en27 _ _ _ _) rfl (eq27 _ ((rd a0 x92).Writer) ((rd a0 x92).TS) ((rd a0 x92).Tomb) ((rd a0 x92).Value) ((rd a1 x92).Writer) ((rd a1 x92).TS) ((rd a1 x92).Tomb) ((rd a1 x92).Value))) (⟨M, Hp.le_refl M, S.pick [] (by decide)⟩) ?_
            refine Wa_done (by kernel_rfl) ?_
            refine tn ?_
            rcases iteS H with ⟨hb182, H⟩ | ⟨hb182, H⟩
            · refine Wp_cond_true (congrArg Value.bool hb182) ?_
              refine Wp_seq ?_
              refine Wp_region_lit ?_
              refine W_v (.bool false) (x_assign rfl) rfl ?_
              refine Wl_nil ?_
              refine tn ?_
              refine Wp_ret ?_
              refine br (tr (tr (br (tr (tr (?_))))))
              obtain rfl := Option.some.inj H
              have H := o137H
              replace H := elimL H
              obtain rfl := Option.some.inj H
              exact ⟨_, _, _, fun w1 e1 => run_resR (vs := [.bool false]) (FA.cons (rfl) (FA.nil)), HM, E, S.pick [] (by decide), ⟨rfl, rfl⟩⟩
            · refine Wp_cond_false (congrArg Value.bool hb182) ?_
              refine Wp_skip ?_
              refine bn ?_
              refine tn ?_
              refine Wp_region_lit ?_
              refine W_v (.int .i64 (IntKind.i64.wrap (x92 + (1 : Int)))) (x_ibin rfl rfl rfl rfl) rfl ?_
              refine W_v (.int .i64 (IntKind.i64.wrap (x92 + (1 : Int)))) (x_move rfl) rfl ?_
              refine Wl_nil ?_
              refine tn ?_
              exact ⟨k, Nat.lt_succ_self k, ⟨(IntKind.i64.wrap (x92 + (1 : Int))), H, ⟨rfl, rfl, rfl, rfl, trivial⟩, E, S.pick [] (by decide)⟩⟩
          · refine Wp_cond_false (congrArg Value.bool hb139) ?_
            refine Wp_exit ?_
            refine tx (tx (bsm (?_)))
            refine tn ?_
            exact ⟨Option.some.inj H, trivial, E, S.pick [] (by decide)⟩
    · clear o137h
      rintro ρ w183 ⟨rfl, hρ, E, S⟩
      rw [agree_eta hρ]
      clear hρ
      have H := o137H
      clear o137H
      replace H := elimR H
      refine tn ?_
      refine Wp_seq ?_
      refine Wp_region_lit ?_
      refine W_v (.bool true) (x_assign rfl) rfl ?_
      refine Wl_nil ?_
      refine tn ?_
      refine Wp_ret ?_
      obtain rfl := Option.some.inj H
      exact ⟨_, _, _, fun w1 e1 => run_resR (vs := [.bool true]) (FA.cons (rfl) (FA.nil)), HM, E, S.pick [] (by decide), ⟨rfl, rfl⟩⟩
/-! ### ferryman/keep.Same: function 17 -/
def keep_Same (k : Nat) (a0 : (List api_Version)) (a1 : (List api_Version)) : Option (Bool) :=
  (Option.bind (slices_Equal_api_Version_api_Version k a0 a1) (fun t1 => some t1))
set_option maxHeartbeats 2000000 in
theorem keep_Same.mono {k : Nat} {a0 : (List api_Version)} {a1 : (List api_Version)} : OLe (keep_Same k a0 a1) (keep_Same (k + 1) a0 a1) := by
  unfold keep_Same
  repeat' (first | exact OLe.none | exact OLe.some | exact slices_Equal_api_Version_api_Version.mono | refine OLe.bind ?_ (fun _ => ?_) | refine OLe.ite ?_ ?_ | refine OLe.elim (fun _ => ?_) (fun _ => ?_) | split)
set_option maxHeartbeats 4000000 in
set_option maxRecDepth 100000 in
theorem keep_Same.con (k : Nat) (M : Hp) (A0 : Option Addr) (c0 : Nat) (a0 : (List api_Version)) (A1 : Option Addr) (c1 : Nat) (a1 : (List api_Version)) (r : Bool) (hr0 : SlR r_api_Version M (.slice A0 a0.length c0) a0) (hr1 : SlR r_api_Version M (.slice A1 a1.length c1) a1) (h : keep_Same k a0 a1 = some r) : Con Try.prog 17 #[.slice A0 a0.length c0, .slice A1 a1.length c1] M [] (fun v M' Γ' => v = .bool r ∧ Γ' = []) := by
  refine con_of_wp Try.func17 rfl Try.ntmps17 Try.results17 rfl ?_
  intro w F rn S hrn
  have E := Ext.refl w
  have HM := Hp.le_refl M
  have H := h
  unfold keep_Same at H
  refine Wp_seq ?_
  refine Wp_region_lit ?_
  refine W_v (.bool false) (x_assign rfl) rfl ?_
  refine Wl_nil ?_
  refine tn ?_
  refine Wp_seq ?_
  refine Wp_region_lit ?_
  refine W_v (.slice A0 a0.length c0) (x_move rfl) rfl ?_
  refine W_v (.slice A1 a1.length c1) (x_move rfl) rfl ?_
  obtain ⟨t1, ht2, H⟩ := bindS H
  refine W_callF fn25 (slices_Equal_api_Version_api_Version.con k M A0 c0 a0 A1 c1 a1 t1 hr0 hr1 ht2) S rfl rfl (by rintro _ _ _ ⟨_, rfl⟩; exact flat_nil) ?_
  rintro _ w3 _ Γ' E' S ⟨rfl, rfl⟩
  replace E := E.trans E'
  clear E'
  refine W_v (.bool t1) (x_assign rfl) rfl ?_
  refine Wl_nil ?_
  refine tn ?_
  refine Wp_ret ?_
  obtain rfl := Option.some.inj H
  exact ⟨_, _, _, fun w1 e1 => run_resR (vs := [.bool t1]) (FA.cons (rfl) (FA.nil)), HM, E, S.pick [] (by decide), ⟨rfl, rfl⟩⟩
end Go.Proofs.Ytmoackfjfklfaaa
