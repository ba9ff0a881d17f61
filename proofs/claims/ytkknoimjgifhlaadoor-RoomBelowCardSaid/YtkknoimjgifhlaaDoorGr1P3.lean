import Derived.Test.YtkknoimjgifhlaaDoorGr1B
import Derived.Test.YtkknoimjgifhlaaDoorGr1P0
import Derived.Test.YtkknoimjgifhlaaDoorGr1P1
import Derived.Test.YtkknoimjgifhlaaDoorGr1P2
namespace Go.Proofs.YtkknoimjgifhlaaDoor
open Go
set_option linter.unusedVariables false
set_option linter.unusedSimpArgs false
def model_Model_commit_POOOO_l0 (k : Nat) (a0 : model_Model) (a1 : Int) : Nat → Bool → List Str → Option ((Bool))
  | 0, _, _ => none
  | kl + 1, x55, x56 => (onList x56 (some (x55)) (fun y82 todo89 => model_Model_commit_POOOO_l0 k a0 a1 kl (x55 || (((mget a0.rows y82).getD (⟨[], ⟨0, 0, false, []⟩⟩ : model_row)).intent.Writer == a1)) todo89))
set_option maxHeartbeats 2000000 in
theorem model_Model_commit_POOOO_l0.mono {k : Nat} {a0 : model_Model} {a1 : Int} : ∀ {kl : Nat} {x0 x1}, OLe (model_Model_commit_POOOO_l0 k a0 a1 kl x0 x1) (model_Model_commit_POOOO_l0 (k + 1) a0 a1 (kl + 1) x0 x1) := by
  intro kl
  induction kl with
  | zero => intros; exact OLe.none
  | succ kl ih =>
    intros
    rw [model_Model_commit_POOOO_l0.eq_2, model_Model_commit_POOOO_l0.eq_2]
    repeat' (first | with_reducible exact OLe.none | with_reducible exact OLe.some | with_reducible refine OLe.ite ?_ ?_ | with_reducible refine OLe.bind ?_ (fun _ => ?_) | exact ih | refine OLe.bind ?_ (fun _ => ?_) | refine OLe.ite ?_ ?_ | refine OLe.elim (fun _ => ?_) (fun _ => ?_) | refine OLe.onList ?_ (fun _ _ => ?_) | split)
theorem model_Model_commit_POOOO_l0.perm {k : Nat} {a0 : model_Model} {a1 : Int} {kl : Nat} {x55 : Bool} {x56 : List Str} {x56' : List Str} {lq : List (Str × model_row)} (hp : x56.Perm x56') (hn : x56.Nodup) (hl : (lq.map (·.1)).Nodup) (hs : ∀ y ∈ x56, y ∈ lq.map (·.1)) : model_Model_commit_POOOO_l0 k a0 a1 kl x55 x56 = model_Model_commit_POOOO_l0 k a0 a1 kl x55 x56' := by
  refine perm_fold (fun kl s t => model_Model_commit_POOOO_l0 k a0 a1 kl s t) _ (fun y s => some (s || (((mget a0.rows y).getD (⟨[], ⟨0, 0, false, []⟩⟩ : model_row)).intent.Writer == a1))) (fun _ _ => rfl) (fun _ _ _ => rfl) (fun y z s => ?_) hp kl _
  simp only [Option.bind_some, Bool.or_assoc]
  rw [Bool.or_comm (_ == a1)]
def model_Model_commit_POOOO (k : Nat) (a0 : model_Model) (a1 : Int) (a2 : Int) (a3 : api_Call) : Option (api_Answer × model_Model) :=
  (if (a0.rows.map fun p : Str × model_row => p.1).Nodup then (Option.bind (model_Model_commit_POOOO_l0 k a0 a1 k false (a0.rows.map fun p : Str × model_row => p.1)) (fun x78 => (if (!x78) = true then (Option.bind (model_Model_end_POOOO k a0 a1 (3 : Int) (0 : Int)) (fun t104 => some (t104.1, t104.2))) else (if (a0.clock == a0.c.TS) = true then (Option.bind (model_Model_end_POOOO k a0 a1 (4 : Int) (0 : Int)) (fun t130 => some ((⟨(35 : Int), false, ([] : Str), ([] : List api_Pair)⟩ : api_Answer), t130.2))) else (Option.bind (model_Model_end_POOOO k (⟨⟨a0.c.Tasks, a0.c.Active, a0.c.Keys, a0.c.Depth, a0.c.TS, a0.c.KeyLen, a0.c.ValLen, a0.c.Fan⟩, a0.names, a0.many, a0.txs, a0.rows, (IntKind.i64.wrap (a0.clock + (1 : Int))), a0.floor⟩ : model_Model) a1 (3 : Int) (IntKind.i64.wrap (a0.clock + (1 : Int)))) (fun t155 => some (t155.1, t155.2))))))) else none)
set_option maxHeartbeats 2000000 in
theorem model_Model_commit_POOOO.mono {k : Nat} {a0 : model_Model} {a1 : Int} {a2 : Int} {a3 : api_Call} : OLe (model_Model_commit_POOOO k a0 a1 a2 a3) (model_Model_commit_POOOO (k + 1) a0 a1 a2 a3) := by
  unfold model_Model_commit_POOOO
  repeat' (first | with_reducible exact OLe.none | with_reducible exact OLe.some | with_reducible refine OLe.ite ?_ ?_ | with_reducible refine OLe.bind ?_ (fun _ => ?_) | with_reducible exact model_Model_commit_POOOO_l0.mono | with_reducible exact model_Model_end_POOOO.mono | refine OLe.bind ?_ (fun _ => ?_) | refine OLe.ite ?_ ?_ | refine OLe.elim (fun _ => ?_) (fun _ => ?_) | split)
set_option maxHeartbeats 4000000 in
set_option maxRecDepth 100000 in
theorem model_Model_commit_POOOO.con (k : Nat) (M : Hp) (A0_8 : Option Addr) (c0_8 : Nat) (A0_9 : Option Addr) (c0_9 : Nat) (A0_10 : Option Addr) (c0_10 : Nat) (A0_11 : Option Addr) (c0_11 : Nat) (vs0_11 : List (Str × Value)) (a0 : model_Model) (a1 : Int) (a2 : Int) (a3 : api_Call) (bo0 : Nat) (r : api_Answer × model_Model) (hm0_11 : MRel r_model_row M a0.rows vs0_11) (h : model_Model_commit_POOOO k a0 a1 a2 a3 = some r) : Con Tryd.prog 97 #[pt bo0 0, .int .i64 a1, .int .i64 a2, .agg #[.int .u8 a3.Kind, .int .i64 a3.Tx, .string (bs a3.Key), .string (bs a3.End), .string (bs a3.Value), .int .i64 a3.Limit, .int .u8 a3.Engine]] M [B83 bo0 a0 A0_8 A0_9 A0_10 c0_10 A0_11, MapC enc_model_name (Value.int .i64) A0_8 a0.names, MapC (Value.int .i64) (Value.int .i64) A0_9 a0.many, Row r_model_tx 109 (.slice A0_10 a0.txs.length c0_10) a0.txs, MapC encS (fun v : Value => v) A0_11 vs0_11] (fun v M' Γ' => ∃ (Aq1 : Option Addr) (cq2 : Nat) (Aq4 : Option Addr) (cq5 : Nat) (Aq7 : Option Addr) (cq8 : Nat) (Aq10 : Option Addr) (cq11 : Nat) (Aq13 : Option Addr) (cq14 : Nat) (vsq16 : List (Str × Value)), v = .agg #[.int .i64 r.1.Err, .bool r.1.Found, .string (bs r.1.Value), .slice Aq1 r.1.Pairs.length cq2] ∧ MRel r_model_row M' r.2.rows vsq16 ∧ Γ' = [Row r_api_Pair 133 (.slice Aq1 r.1.Pairs.length cq2) r.1.Pairs, B83 bo0 r.2 Aq4 Aq7 Aq10 cq11 Aq13, MapC enc_model_name (Value.int .i64) Aq4 r.2.names, MapC (Value.int .i64) (Value.int .i64) Aq7 r.2.many, Row r_model_tx 109 (.slice Aq10 r.2.txs.length cq11) r.2.txs, MapC encS (fun v : Value => v) Aq13 vsq16]) := by
  refine con_of_wp Tryd.func97 rfl Tryd.ntmps97 Tryd.results97 rfl ?_
  intro w F rn S hrn
  have E := Ext.refl w
  have HM := Hp.le_refl M
  have H := h
  unfold model_Model_commit_POOOO at H
  refine Wp_seq (Wp_region_lit ?_)
  refine W_box S #[.int .u8 a3.Kind, .int .i64 a3.Tx, .string (bs a3.Key), .string (bs a3.End), .string (bs a3.Value), .int .i64 a3.Limit, .int .u8 a3.Engine] rfl rfl rfl ?_
  intro b1 w2 E' S
  replace E := E.trans E'
  refine W_alloc S #[.int .i64 0, .bool false, .string (bs ([] : Str)), .slice none 0 0] ty36 rfl rfl ?_
  intro b4 w5 E' S
  replace E := E.trans E'
  refine Wl_nil (tn (Wp_seq (Wp_region_lit (W_v (.bool false) (x_assign rfl) rfl (Wl_nil (tn (Wp_seq (Wp_seq (Wp_region_lit (W_v (pt bo0 0) (x_move rfl) rfl (W_v (pt bo0 0) (x_nilptr rfl) rfl (W_v (pt bo0 11) (x_fieldAddr (o := 0) (off := 11) Tryd.underlying83 rfl ty81 rfl rfl) rfl (W_v (.map (mb A0_11)) (x_load (S.blk 2 rfl) ty81 rfl rfl) rfl ?_)))))))))))))
  obtain ⟨hn7, H⟩ := chkS H
  refine W_rangeM S 6 rfl Tryd.underlying81 (by rw [hm0_11.keys]; exact hn7) rfl rfl ?_
  intro b8 w9 E' S
  replace E := E.trans E'
  rw [hm0_11.keys] at S
  replace S : St w9 M F [_, _, _, _, _, _, _] := S
  refine Wl_nil (tn ?_)
  obtain ⟨o79, o79h, o79H⟩ := bindS H
  refine Wp_blockJ (fun ρ w' => ∃ (x78 : Bool), (x78) = o79 ∧ Agree ρ [(0, pt bo0 0), (1, .int .i64 a1), (8, pt b4 0), (9, .bool x78)] ∧ Ext w w' ∧ St w' M F [Blk b4 (.cells #[.int .i64 0, .bool false, .string (bs ([] : Str)), .slice none 0 0] 36 (0, 0)), B83 bo0 a0 A0_8 A0_9 A0_10 c0_10 A0_11, MapC enc_model_name (Value.int .i64) A0_8 a0.names, MapC (Value.int .i64) (Value.int .i64) A0_9 a0.many, Row r_model_tx 109 (.slice A0_10 a0.txs.length c0_10) a0.txs, MapC encS (fun v : Value => v) A0_11 vs0_11]) ?_ ?_
  · skip
    refine Wp_loop (fun n ρ w' => ∃ (x55 : Bool) (x56 : List Str), model_Model_commit_POOOO_l0 k a0 a1 n x55 x56 = some o79 ∧ Agree ρ [(0, pt bo0 0), (1, .int .i64 a1), (8, pt b4 0), (9, .bool x55), (16, pt b8 0)] ∧ Ext w w' ∧ St w' M F [Blk b4 (.cells #[.int .i64 0, .bool false, .string (bs ([] : Str)), .slice none 0 0] 36 (0, 0)), B83 bo0 a0 A0_8 A0_9 A0_10 c0_10 A0_11, MapC enc_model_name (Value.int .i64) A0_8 a0.names, MapC (Value.int .i64) (Value.int .i64) A0_9 a0.many, Row r_model_tx 109 (.slice A0_10 a0.txs.length c0_10) a0.txs, RangeM encS (fun v : Value => v) A0_11 b8 vs0_11 x56 none]) k ?_ ?_
    · skip
      exact ⟨false, (a0.rows.map fun p : Str × model_row => p.1), o79h, ⟨rfl, rfl, rfl, rfl, rfl, trivial⟩, E, S.pick [0, 2, 3, 4, 5, 6] (by decide)⟩
    · intro n
      rintro ρ w80 ⟨x55, x56, H, hρ, E, S⟩
      rw [agree_eta hρ]
      cases n with
      | zero => cases H
      | succ kl =>
        refine Wp_seq (Wp_region_lit ?_)
        obtain ⟨hn81a, hn81b, hn81c⟩ := S.rangeM_facts 5 rfl
        rw [hm0_11.keys] at hn81b hn81c
        refine W_nextM S 5 rfl rfl rfl ?_ ?_
        · intro y82 v83 w84 hy86 hv87 E' S
          replace E := E.trans E'
          rw [model_Model_commit_POOOO_l0.perm (permE hy86) hn81a hn81b hn81c, model_Model_commit_POOOO_l0.eq_2, onList_cons] at H
          obtain ⟨cs90, hR91, he92⟩ := hm0_11.get y82 (z := (⟨[], ⟨0, 0, false, []⟩⟩ : model_row)) (zc := [.slice none 0 0, .int .i64 0, .int .i64 0, .bool false, .string (bs ([] : Str))]) ⟨_, SlW.nil _ _, rfl⟩
          rw [hv87] at he92
          obtain rfl : v83 = _ := he92
          obtain ⟨v96, hs95, rfl⟩ := hR91
          obtain ⟨A93, c94, rfl, _⟩ := hs95.form
          replace S : St w84 M F [_, _, _, _, _, _] := S
          refine W_v (.bool true) (x_extract rfl rfl) rfl (Wl_nil (tn (Wp_seq (Wp_cond_true rfl (Wp_skip (tn ?_))))))
          refine Wp_block ?_
          refine Wp_seq (Wp_region_lit (W_v (.tuple #[encS y82, .agg #[.slice A93 (((mget a0.rows y82).getD (⟨[], ⟨0, 0, false, []⟩⟩ : model_row)).l).length c94, .int .i64 (((mget a0.rows y82).getD (⟨[], ⟨0, 0, false, []⟩⟩ : model_row)).intent.Writer), .int .i64 (((mget a0.rows y82).getD (⟨[], ⟨0, 0, false, []⟩⟩ : model_row)).intent.TS), .bool (((mget a0.rows y82).getD (⟨[], ⟨0, 0, false, []⟩⟩ : model_row)).intent.Tomb), .string (bs (((mget a0.rows y82).getD (⟨[], ⟨0, 0, false, []⟩⟩ : model_row)).intent.Value))]]) (x_entryM (encv := (fun v : Value => v)) S 5 rfl hv87 rfl) rfl ?_))
          replace S := S.rangeM_seen 5 rfl
          replace S : St w84 M F [_, _, _, _, _, _] := S
          refine W_v (.agg #[.slice A93 (((mget a0.rows y82).getD (⟨[], ⟨0, 0, false, []⟩⟩ : model_row)).l).length c94, .int .i64 (((mget a0.rows y82).getD (⟨[], ⟨0, 0, false, []⟩⟩ : model_row)).intent.Writer), .int .i64 (((mget a0.rows y82).getD (⟨[], ⟨0, 0, false, []⟩⟩ : model_row)).intent.TS), .bool (((mget a0.rows y82).getD (⟨[], ⟨0, 0, false, []⟩⟩ : model_row)).intent.Tomb), .string (bs (((mget a0.rows y82).getD (⟨[], ⟨0, 0, false, []⟩⟩ : model_row)).intent.Value))]) (x_extract rfl rfl) rfl ?_
          refine W_alloc S #[.slice none 0 0, .int .i64 0, .int .i64 0, .bool false, .string (bs ([] : Str))] ty77 rfl rfl ?_
          intro b97 w98 E' S
          replace E := E.trans E'
          refine W_store S 0 rfl ty77 rfl rfl [.slice A93 (((mget a0.rows y82).getD (⟨[], ⟨0, 0, false, []⟩⟩ : model_row)).l).length c94, .int .i64 (((mget a0.rows y82).getD (⟨[], ⟨0, 0, false, []⟩⟩ : model_row)).intent.Writer), .int .i64 (((mget a0.rows y82).getD (⟨[], ⟨0, 0, false, []⟩⟩ : model_row)).intent.TS), .bool (((mget a0.rows y82).getD (⟨[], ⟨0, 0, false, []⟩⟩ : model_row)).intent.Tomb), .string (bs (((mget a0.rows y82).getD (⟨[], ⟨0, 0, false, []⟩⟩ : model_row)).intent.Value))] rfl rfl rfl #[.slice A93 (((mget a0.rows y82).getD (⟨[], ⟨0, 0, false, []⟩⟩ : model_row)).l).length c94, .int .i64 (((mget a0.rows y82).getD (⟨[], ⟨0, 0, false, []⟩⟩ : model_row)).intent.Writer), .int .i64 (((mget a0.rows y82).getD (⟨[], ⟨0, 0, false, []⟩⟩ : model_row)).intent.TS), .bool (((mget a0.rows y82).getD (⟨[], ⟨0, 0, false, []⟩⟩ : model_row)).intent.Tomb), .string (bs (((mget a0.rows y82).getD (⟨[], ⟨0, 0, false, []⟩⟩ : model_row)).intent.Value))] rfl rfl ?_
          intro w100 E' S
          replace E := E.trans E'
          refine Wl_nil (tn (Wp_region_lit (W_v (.bool x55) (x_move rfl) rfl (W_v (.bool x55) (x_move rfl) rfl ?_))))
          refine Wl_cutN 6 (fun ρ w' => Agree ρ [(0, pt bo0 0), (1, .int .i64 a1), (8, pt b4 0), (16, pt b8 0), (28, .bool (x55 || (((mget a0.rows y82).getD (⟨[], ⟨0, 0, false, []⟩⟩ : model_row)).intent.Writer == a1)))] ∧ w100 = w') ?_ ?_
          · rcases boolCases x55 with hb101 | hb101
            · skip
              refine W_yes (congrArg some hb101) (W_v (pt b97 1) (x_fieldAddr (o := 0) (off := 1) Tryd.underlying77 rfl ty75 rfl rfl) rfl (W_yes (congrArg some hb101) (W_v (pt b97 1) (x_fieldAddr (o := 1) (off := 0) Tryd.underlying75 rfl ty3 rfl rfl) rfl (W_yes (congrArg some hb101) (W_v (.int .i64 (((mget a0.rows y82).getD (⟨[], ⟨0, 0, false, []⟩⟩ : model_row)).intent.Writer)) (x_load (S.blk 0 rfl) ty3 rfl rfl) rfl (W_yes (congrArg some hb101) (W_v (.int .i64 a1) (x_move rfl) rfl (W_yes (congrArg some hb101) (W_v (.bool (((mget a0.rows y82).getD (⟨[], ⟨0, 0, false, []⟩⟩ : model_row)).intent.Writer == a1)) (x_ibin rfl rfl rfl rfl) rfl (W_v (.bool (((mget a0.rows y82).getD (⟨[], ⟨0, 0, false, []⟩⟩ : model_row)).intent.Writer == a1)) (x_pick (k := false) (congrArg Value.bool hb101) rfl) rfl (Wl_nil ?_)))))))))))
              exact ⟨⟨rfl, rfl, rfl, rfl, (by first | rfl | (rw [hb101]; rfl) | (simp only [hb101]; rfl)), trivial⟩, rfl⟩
            · skip
              refine W_no (skF hb101) rfl (W_no (skF hb101) rfl (W_no (skF hb101) rfl (W_no (skF hb101) rfl (W_no (skF hb101) rfl (W_v (.bool true) (x_pick (k := true) (congrArg Value.bool hb101) rfl) rfl (Wl_nil ?_))))))
              exact ⟨⟨rfl, rfl, rfl, rfl, (by first | rfl | (rw [hb101]; rfl) | (simp only [hb101]; rfl)), trivial⟩, rfl⟩
          rintro ρ _ ⟨hρ, rfl⟩
          rw [agree_eta hρ]
          refine W_v (.bool (x55 || (((mget a0.rows y82).getD (⟨[], ⟨0, 0, false, []⟩⟩ : model_row)).intent.Writer == a1))) (x_assign rfl) rfl (Wl_nil (bn (tn ?_)))
          exact ⟨kl, Nat.lt_succ_self kl, ⟨(x55 || (((mget a0.rows y82).getD (⟨[], ⟨0, 0, false, []⟩⟩ : model_row)).intent.Writer == a1)), (er x56 y82), H, ⟨rfl, rfl, rfl, rfl, rfl, trivial⟩, E, S.pick [1, 2, 3, 4, 5, 6] (by decide)⟩⟩
        · intro w85 ht88 E' S
          replace E := E.trans E'
          rw [ht88, model_Model_commit_POOOO_l0.eq_2, onList_nil] at H
          replace S := S.rangeM_end 5 rfl
          replace S : St w85 M F [_, _, _, _, _, _] := S
          refine W_v (.bool false) (x_extract rfl rfl) rfl (Wl_nil (tn (Wp_seq (Wp_cond_false rfl ?_))))
          refine Wp_exit ?_
          refine tx (tx (bsm (?_)))
          refine tn ?_
          exact ⟨x55, Option.some.inj H, ⟨rfl, rfl, rfl, rfl, trivial⟩, E, S.pick [0, 1, 2, 3, 4, 5] (by decide)⟩
  rintro ρ w102 ⟨x78, rfl, hρ, E, S⟩
  rw [agree_eta hρ]
  have H := o79H
  refine tn ?_
  as_aux_lemma =>
  refine Wp_seq ?_
  refine Wp_block ?_
  refine Wp_seq (Wp_region_lit (W_v (.bool x78) (x_move rfl) rfl (W_v (.bool (!x78)) (x_not (b := x78) rfl) rfl (W_v (.bool (!x78)) (x_assign rfl) rfl (Wl_nil (tn ?_))))))
  rcases iteS H with ⟨hb103, H⟩ | ⟨hb103, H⟩
  · refine Wp_cond_true (congrArg Value.bool hb103) ?_
    refine Wp_seq (Wp_region_lit (W_v (pt bo0 0) (x_move rfl) rfl (W_v (.int .i64 a1) (x_move rfl) rfl ?_)))
    obtain ⟨t104, ht105, H⟩ := bindS H
    replace S : St w102 M F [_, _, _, _, _, _] := S.pick [1, 2, 3, 4, 5, 0] (by decide)
    refine W_call fn104 (model_Model_end_POOOO.con k M A0_8 c0_8 A0_9 c0_9 A0_10 c0_10 A0_11 c0_11 vs0_11 a0 a1 (3 : Int) (0 : Int) bo0 t104 hm0_11 ht105) (Γ1 := [_, _, _, _, _]) (Γ2 := [_]) S rfl rfl ?_
    rintro _ w123 M124 Γ' hM125 E' S ⟨A106, c107, A109, c110, A112, c113, A115, c116, A118, c119, vs121, rfl, hm122, rfl⟩
    replace HM := Hp.le_trans HM hM125
    replace hm0_11 := MRel.mono hm0_11 hM125
    replace E := E.trans E'
    replace S : St w123 M124 F [_, _, _, _, _, _, _] := S
    refine W_store S 6 rfl ty36 rfl rfl [.int .i64 t104.1.Err, .bool t104.1.Found, .string (bs t104.1.Value), .slice A106 t104.1.Pairs.length c107] rfl rfl rfl #[.int .i64 t104.1.Err, .bool t104.1.Found, .string (bs t104.1.Value), .slice A106 t104.1.Pairs.length c107] rfl rfl ?_
    intro w126 E' S
    replace E := E.trans E'
    refine Wl_nil (tn ?_)
    refine Wp_ret ?_
    refine br (tr (?_))
    obtain rfl := Option.some.inj H
    exact ⟨_, _, _, fun w1 e1 => run_resR (vs := [.agg #[.int .i64 t104.1.Err, .bool t104.1.Found, .string (bs t104.1.Value), .slice A106 t104.1.Pairs.length c107]]) (FA.cons (⟨_, rfl, run_loadVar_agg ty36 ((S.of_eq e1).blk 6 rfl) (sub_of_extract rfl) rfl (by decide)⟩) (FA.nil)), HM, E, S.pick [0, 1, 2, 3, 4, 5] (by decide), ⟨A106, c107, A109, c110, A112, c113, A115, c116, A118, c119, vs121, rfl, hm122, rfl⟩⟩
  refine Wp_cond_false (congrArg Value.bool hb103) (Wp_seq ?_)
  refine Wp_region_any (S := fun w' => ∃ Mx, M.le Mx ∧ St w' Mx F [Blk b4 (.cells #[.int .i64 0, .bool false, .string (bs ([] : Str)), .slice none 0 0] 36 (0, 0)), B83 bo0 a0 A0_8 A0_9 A0_10 c0_10 A0_11, MapC enc_model_name (Value.int .i64) A0_8 a0.names, MapC (Value.int .i64) (Value.int .i64) A0_9 a0.many, Row r_model_tx 109 (.slice A0_10 a0.txs.length c0_10) a0.txs, MapC encS (fun v : Value => v) A0_11 vs0_11]) (L := 11) mixed ?_
  intro w127 hw128 E'
  replace S := S.heap hw128
  replace E := E.trans E'
  have D1 : ∃ Mx, Hp.le M Mx ∧ St _ Mx F [_, _, _, _, _, _] := ⟨_, Hp.le_refl _, S.pick [0, 1, 2, 3, 4, 5] (by decide)⟩
  refine Wa_take (i := 0) rfl (by kernel_rfl) rfl rfl (pt bo0 0) rfl (fun w' h' => x_move rfl) D1 (Wa_take (i := 1) rfl (by kernel_rfl) rfl rfl (pt bo0 0) rfl (fun w' h' => x_nilptr rfl) D1 (Wa_take (i := 2) rfl (by kernel_rfl) rfl rfl (pt bo0 12) rfl (fun w' h' => x_fieldAddr (o := 0) (off := 12) Tryd.underlying83 rfl ty3 rfl rfl) D1 (Wa_take (i := 3) rfl (by kernel_rfl) rfl rfl (.int .i64 a0.clock) rfl (fun w' h' => x_load (cls_blk h' 1 rfl) ty3 rfl rfl) D1 (Wa_take (i := 4) rfl (by kernel_rfl) rfl rfl (pt bo0 0) rfl (fun w' h' => x_move rfl) D1 (Wa_take (i := 5) rfl (by kernel_rfl) rfl rfl (pt bo0 0) rfl (fun w' h' => x_nilptr rfl) D1 (Wa_take (i := 6) rfl (by kernel_rfl) rfl rfl (pt bo0 0) rfl (fun w' h' => x_fieldAddr (o := 0) (off := 0) Tryd.underlying83 rfl ty23 rfl rfl) D1 (Wa_take (i := 7) rfl (by kernel_rfl) rfl rfl (pt bo0 4) rfl (fun w' h' => x_fieldAddr (o := 0) (off := 4) Tryd.underlying23 rfl ty3 rfl rfl) D1 (Wa_take (i := 8) rfl (by kernel_rfl) rfl rfl (.int .i64 a0.c.TS) rfl (fun w' h' => x_load (cls_blk h' 1 rfl) ty3 rfl rfl) D1 (Wa_take (i := 9) rfl (by kernel_rfl) rfl rfl (.bool (a0.clock == a0.c.TS)) rfl (fun w' h' => x_ibin rfl rfl rfl rfl) D1 (Wa_take (i := 10) rfl (by kernel_rfl) rfl rfl (.bool (a0.clock == a0.c.TS)) rfl (fun w' h' => x_assign rfl) D1 ?_))))))))))
  refine Wa_done (by kernel_rfl) ?_
  refine tn ?_
  rcases iteS H with ⟨hb129, H⟩ | ⟨hb129, H⟩
  · refine Wp_cond_true (congrArg Value.bool hb129) ?_
    refine Wp_seq (Wp_region_lit (W_v (pt bo0 0) (x_move rfl) rfl (W_v (.int .i64 a1) (x_move rfl) rfl ?_)))
    obtain ⟨t130, ht131, H⟩ := bindS H
    replace S : St w127 M F [_, _, _, _, _, _] := S.pick [1, 2, 3, 4, 5, 0] (by decide)
    refine W_call fn104 (model_Model_end_POOOO.con k M A0_8 c0_8 A0_9 c0_9 A0_10 c0_10 A0_11 c0_11 vs0_11 a0 a1 (4 : Int) (0 : Int) bo0 t130 hm0_11 ht131) (Γ1 := [_, _, _, _, _]) (Γ2 := [_]) S rfl rfl ?_
    rintro _ w149 M150 Γ' hM151 E' S ⟨A132, c133, A135, c136, A138, c139, A141, c142, A144, c145, vs147, rfl, hm148, rfl⟩
    replace HM := Hp.le_trans HM hM151
    replace hm0_11 := MRel.mono hm0_11 hM151
    replace E := E.trans E'
    replace S : St w149 M150 F [_, _, _, _, _, _, _] := S
    refine Wl_nil (tn (Wp_seq (Wp_region_lit (W_v (.agg #[.int .i64 35, .bool false, .string (bs ([] : Str)), .slice none 0 0]) (x_build2 (pl := [(0, 1), (1, 1), (2, 1), (3, 1)]) #[.int .i64 35, .bool false, .string (bs ([] : Str)), .slice none 0 0] Tryd.underlying36 ty36 (by as_aux_lemma => kernel_rfl) rfl (by as_aux_lemma => kernel_rfl)) rfl ?_))))
    refine W_store S 6 rfl ty36 rfl rfl [.int .i64 35, .bool false, .string (bs ([] : Str)), .slice none 0 0] rfl rfl rfl #[.int .i64 35, .bool false, .string (bs ([] : Str)), .slice none 0 0] rfl rfl ?_
    intro w152 E' S
    replace E := E.trans E'
    refine Wl_nil (tn ?_)
    refine Wp_ret ?_
    refine br (tr (?_))
    obtain rfl := Option.some.inj H
    replace S := S.row_nil r_api_Pair 133
    exact ⟨_, _, _, fun w1 e1 => run_resR (vs := [.agg #[.int .i64 35, .bool false, .string (bs ([] : Str)), .slice none ([] : List api_Pair).length 0]]) (FA.cons (⟨_, rfl, run_loadVar_agg ty36 ((S.of_eq e1).blk 7 rfl) (sub_of_extract rfl) rfl (by decide)⟩) (FA.nil)), HM, E, S.pick [0, 2, 3, 4, 5, 6] (by decide), ⟨none, 0, A135, c136, A138, c139, A141, c142, A144, c145, vs147, rfl, hm148, rfl⟩⟩
  refine Wp_cond_false (congrArg Value.bool hb129) (Wp_skip (bn (tn ?_)))
  as_aux_lemma =>
  refine Wp_seq (Wp_region_lit (W_v (pt bo0 0) (x_move rfl) rfl (W_v (pt bo0 0) (x_nilptr rfl) rfl (W_v (pt bo0 12) (x_fieldAddr (o := 0) (off := 12) Tryd.underlying83 rfl ty3 rfl rfl) rfl (W_v (.int .i64 a0.clock) (x_load (S.blk 1 rfl) ty3 rfl rfl) rfl (W_v (.int .i64 (IntKind.i64.wrap (a0.clock + (1 : Int)))) (x_ibin rfl rfl rfl rfl) rfl (W_v (pt bo0 0) (x_nilptr rfl) rfl (W_v (pt bo0 12) (x_fieldAddr (o := 0) (off := 12) Tryd.underlying83 rfl ty3 rfl rfl) rfl ?_))))))))
  refine W_store S 1 rfl ty3 rfl rfl [.int .i64 (IntKind.i64.wrap (a0.clock + (1 : Int)))] rfl rfl rfl #[.int .i64 a0.c.Tasks, .int .i64 a0.c.Active, .int .i64 a0.c.Keys, .int .i64 a0.c.Depth, .int .i64 a0.c.TS, .int .i64 a0.c.KeyLen, .int .i64 a0.c.ValLen, .int .i64 a0.c.Fan, .map (mb A0_8), .map (mb A0_9), .slice A0_10 a0.txs.length c0_10, .map (mb A0_11), .int .i64 (IntKind.i64.wrap (a0.clock + (1 : Int))), .int .i64 a0.floor] rfl rfl ?_
  intro w154 E' S
  replace E := E.trans E'
  refine Wl_nil (tn (Wp_seq (Wp_region_lit (W_v (pt bo0 0) (x_move rfl) rfl (W_v (.int .i64 a1) (x_move rfl) rfl (W_v (pt bo0 0) (x_move rfl) rfl (W_v (pt bo0 0) (x_nilptr rfl) rfl (W_v (pt bo0 12) (x_fieldAddr (o := 0) (off := 12) Tryd.underlying83 rfl ty3 rfl rfl) rfl (W_v (.int .i64 (IntKind.i64.wrap (a0.clock + (1 : Int)))) (x_load (S.blk 1 rfl) ty3 rfl rfl) rfl ?_)))))))))
  obtain ⟨t155, ht156, H⟩ := bindS H
  replace S : St w154 M F [_, _, _, _, _, _] := S.pick [1, 2, 3, 4, 5, 0] (by decide)
  refine W_call fn104 (model_Model_end_POOOO.con k M A0_8 c0_8 A0_9 c0_9 A0_10 c0_10 A0_11 c0_11 vs0_11 (⟨⟨a0.c.Tasks, a0.c.Active, a0.c.Keys, a0.c.Depth, a0.c.TS, a0.c.KeyLen, a0.c.ValLen, a0.c.Fan⟩, a0.names, a0.many, a0.txs, a0.rows, (IntKind.i64.wrap (a0.clock + (1 : Int))), a0.floor⟩ : model_Model) a1 (3 : Int) (IntKind.i64.wrap (a0.clock + (1 : Int))) bo0 t155 hm0_11 ht156) (Γ1 := [_, _, _, _, _]) (Γ2 := [_]) S rfl rfl ?_
  rintro _ w174 M175 Γ' hM176 E' S ⟨A157, c158, A160, c161, A163, c164, A166, c167, A169, c170, vs172, rfl, hm173, rfl⟩
  replace HM := Hp.le_trans HM hM176
  replace hm0_11 := MRel.mono hm0_11 hM176
  replace E := E.trans E'
  replace S : St w174 M175 F [_, _, _, _, _, _, _] := S
  refine W_store S 6 rfl ty36 rfl rfl [.int .i64 t155.1.Err, .bool t155.1.Found, .string (bs t155.1.Value), .slice A157 t155.1.Pairs.length c158] rfl rfl rfl #[.int .i64 t155.1.Err, .bool t155.1.Found, .string (bs t155.1.Value), .slice A157 t155.1.Pairs.length c158] rfl rfl ?_
  intro w177 E' S
  replace E := E.trans E'
  refine Wl_nil (tn ?_)
  refine Wp_ret ?_
  obtain rfl := Option.some.inj H
  exact ⟨_, _, _, fun w1 e1 => run_resR (vs := [.agg #[.int .i64 t155.1.Err, .bool t155.1.Found, .string (bs t155.1.Value), .slice A157 t155.1.Pairs.length c158]]) (FA.cons (⟨_, rfl, run_loadVar_agg ty36 ((S.of_eq e1).blk 6 rfl) (sub_of_extract rfl) rfl (by decide)⟩) (FA.nil)), HM, E, S.pick [0, 1, 2, 3, 4, 5] (by decide), ⟨A157, c158, A160, c161, A163, c164, A166, c167, A169, c170, vs172, rfl, hm173, rfl⟩⟩
def model_Model_abort_POOOO (k : Nat) (a0 : model_Model) (a1 : Int) (a2 : Int) (a3 : api_Call) : Option (api_Answer × model_Model) :=
  (Option.bind (model_Model_end_POOOO k a0 a1 (4 : Int) (0 : Int)) (fun t7 => some (t7.1, t7.2)))
set_option maxHeartbeats 2000000 in
theorem model_Model_abort_POOOO.mono {k : Nat} {a0 : model_Model} {a1 : Int} {a2 : Int} {a3 : api_Call} : OLe (model_Model_abort_POOOO k a0 a1 a2 a3) (model_Model_abort_POOOO (k + 1) a0 a1 a2 a3) := by
  unfold model_Model_abort_POOOO
  repeat' (first | with_reducible exact OLe.none | with_reducible exact OLe.some | with_reducible refine OLe.ite ?_ ?_ | with_reducible refine OLe.bind ?_ (fun _ => ?_) | with_reducible exact model_Model_end_POOOO.mono | refine OLe.bind ?_ (fun _ => ?_) | refine OLe.ite ?_ ?_ | refine OLe.elim (fun _ => ?_) (fun _ => ?_) | split)
set_option maxHeartbeats 4000000 in
set_option maxRecDepth 100000 in
theorem model_Model_abort_POOOO.con (k : Nat) (M : Hp) (A0_8 : Option Addr) (c0_8 : Nat) (A0_9 : Option Addr) (c0_9 : Nat) (A0_10 : Option Addr) (c0_10 : Nat) (A0_11 : Option Addr) (c0_11 : Nat) (vs0_11 : List (Str × Value)) (a0 : model_Model) (a1 : Int) (a2 : Int) (a3 : api_Call) (bo0 : Nat) (r : api_Answer × model_Model) (hm0_11 : MRel r_model_row M a0.rows vs0_11) (h : model_Model_abort_POOOO k a0 a1 a2 a3 = some r) : Con Tryd.prog 98 #[pt bo0 0, .int .i64 a1, .int .i64 a2, .agg #[.int .u8 a3.Kind, .int .i64 a3.Tx, .string (bs a3.Key), .string (bs a3.End), .string (bs a3.Value), .int .i64 a3.Limit, .int .u8 a3.Engine]] M [B83 bo0 a0 A0_8 A0_9 A0_10 c0_10 A0_11, MapC enc_model_name (Value.int .i64) A0_8 a0.names, MapC (Value.int .i64) (Value.int .i64) A0_9 a0.many, Row r_model_tx 109 (.slice A0_10 a0.txs.length c0_10) a0.txs, MapC encS (fun v : Value => v) A0_11 vs0_11] (fun v M' Γ' => ∃ (Aq1 : Option Addr) (cq2 : Nat) (Aq4 : Option Addr) (cq5 : Nat) (Aq7 : Option Addr) (cq8 : Nat) (Aq10 : Option Addr) (cq11 : Nat) (Aq13 : Option Addr) (cq14 : Nat) (vsq16 : List (Str × Value)), v = .agg #[.int .i64 r.1.Err, .bool r.1.Found, .string (bs r.1.Value), .slice Aq1 r.1.Pairs.length cq2] ∧ MRel r_model_row M' r.2.rows vsq16 ∧ Γ' = [Row r_api_Pair 133 (.slice Aq1 r.1.Pairs.length cq2) r.1.Pairs, B83 bo0 r.2 Aq4 Aq7 Aq10 cq11 Aq13, MapC enc_model_name (Value.int .i64) Aq4 r.2.names, MapC (Value.int .i64) (Value.int .i64) Aq7 r.2.many, Row r_model_tx 109 (.slice Aq10 r.2.txs.length cq11) r.2.txs, MapC encS (fun v : Value => v) Aq13 vsq16]) := by
  refine con_of_wp Tryd.func98 rfl Tryd.ntmps98 Tryd.results98 rfl ?_
  intro w F rn S hrn
  have E := Ext.refl w
  have HM := Hp.le_refl M
  have H := h
  unfold model_Model_abort_POOOO at H
  refine Wp_seq (Wp_region_lit ?_)
  refine W_box S #[.int .u8 a3.Kind, .int .i64 a3.Tx, .string (bs a3.Key), .string (bs a3.End), .string (bs a3.Value), .int .i64 a3.Limit, .int .u8 a3.Engine] rfl rfl rfl ?_
  intro b1 w2 E' S
  replace E := E.trans E'
  refine W_alloc S #[.int .i64 0, .bool false, .string (bs ([] : Str)), .slice none 0 0] ty36 rfl rfl ?_
  intro b4 w5 E' S
  replace E := E.trans E'
  refine Wl_nil (tn (Wp_seq (Wp_region_lit (W_v (pt bo0 0) (x_move rfl) rfl (W_v (.int .i64 a1) (x_move rfl) rfl ?_)))))
  obtain ⟨t7, ht8, H⟩ := bindS H
  replace S : St w5 M F [_, _, _, _, _, _, _] := S.pick [2, 3, 4, 5, 6, 0, 1] (by decide)
  refine W_call fn104 (model_Model_end_POOOO.con k M A0_8 c0_8 A0_9 c0_9 A0_10 c0_10 A0_11 c0_11 vs0_11 a0 a1 (4 : Int) (0 : Int) bo0 t7 hm0_11 ht8) (Γ1 := [_, _, _, _, _]) (Γ2 := [_, _]) S rfl rfl ?_
  rintro _ w26 M27 Γ' hM28 E' S ⟨A9, c10, A12, c13, A15, c16, A18, c19, A21, c22, vs24, rfl, hm25, rfl⟩
  replace HM := Hp.le_trans HM hM28
  replace hm0_11 := MRel.mono hm0_11 hM28
  replace E := E.trans E'
  replace S : St w26 M27 F [_, _, _, _, _, _, _, _] := S
  refine W_store S 6 rfl ty36 rfl rfl [.int .i64 t7.1.Err, .bool t7.1.Found, .string (bs t7.1.Value), .slice A9 t7.1.Pairs.length c10] rfl rfl rfl #[.int .i64 t7.1.Err, .bool t7.1.Found, .string (bs t7.1.Value), .slice A9 t7.1.Pairs.length c10] rfl rfl ?_
  intro w29 E' S
  replace E := E.trans E'
  refine Wl_nil (tn ?_)
  refine Wp_ret ?_
  obtain rfl := Option.some.inj H
  exact ⟨_, _, _, fun w1 e1 => run_resR (vs := [.agg #[.int .i64 t7.1.Err, .bool t7.1.Found, .string (bs t7.1.Value), .slice A9 t7.1.Pairs.length c10]]) (FA.cons (⟨_, rfl, run_loadVar_agg ty36 ((S.of_eq e1).blk 6 rfl) (sub_of_extract rfl) rfl (by decide)⟩) (FA.nil)), HM, E, S.pick [0, 1, 2, 3, 4, 5] (by decide), ⟨A9, c10, A12, c13, A15, c16, A18, c19, A21, c22, vs24, rfl, hm25, rfl⟩⟩
def model_Model_vacuum_1_POOOX (k : Nat) (a0 : model_row) (ac_0 : model_Model) : Option (model_row) :=
  (Option.bind (keep_Kept k a0.l ac_0.floor) (fun t16 => some (⟨t16, ⟨a0.intent.Writer, a0.intent.TS, a0.intent.Tomb, a0.intent.Value⟩⟩ : model_row)))
set_option maxHeartbeats 2000000 in
theorem model_Model_vacuum_1_POOOX.mono {k : Nat} {a0 : model_row} {ac_0 : model_Model} : OLe (model_Model_vacuum_1_POOOX k a0 ac_0) (model_Model_vacuum_1_POOOX (k + 1) a0 ac_0) := by
  unfold model_Model_vacuum_1_POOOX
  repeat' (first | with_reducible exact OLe.none | with_reducible exact OLe.some | with_reducible refine OLe.ite ?_ ?_ | with_reducible refine OLe.bind ?_ (fun _ => ?_) | with_reducible exact keep_Kept.mono | refine OLe.bind ?_ (fun _ => ?_) | refine OLe.ite ?_ ?_ | refine OLe.elim (fun _ => ?_) (fun _ => ?_) | split)
set_option maxHeartbeats 4000000 in
set_option maxRecDepth 100000 in
theorem model_Model_vacuum_1_POOOX.con (k : Nat) (M : Hp) (A0_0 : Option Addr) (c0_0 : Nat) (a0 : model_row) (Ac_0_8 : Option Addr) (cc_0_8 : Nat) (Ac_0_9 : Option Addr) (cc_0_9 : Nat) (Ac_0_10 : Option Addr) (cc_0_10 : Nat) (Ac_0_11 : Option Addr) (cc_0_11 : Nat) (ac_0 : model_Model) (bc_0 : Nat) (boc_0 : Nat) (r : model_row) (hr0_0 : SlR r_api_Version M (.slice A0_0 a0.l.length c0_0) a0.l) (h : model_Model_vacuum_1_POOOX k a0 ac_0 = some r) : Con Tryd.prog 106 #[.agg #[.slice A0_0 a0.l.length c0_0, .int .i64 a0.intent.Writer, .int .i64 a0.intent.TS, .bool a0.intent.Tomb, .string (bs a0.intent.Value)], pt bc_0 0] M [Blk bc_0 (.cells #[pt boc_0 0] 54 (0, 0)), B83 boc_0 ac_0 Ac_0_8 Ac_0_9 Ac_0_10 cc_0_10 Ac_0_11, MapC enc_model_name (Value.int .i64) Ac_0_8 ac_0.names, MapC (Value.int .i64) (Value.int .i64) Ac_0_9 ac_0.many, Row r_model_tx 109 (.slice Ac_0_10 ac_0.txs.length cc_0_10) ac_0.txs] (fun v M' Γ' => ∃ (Aq1 : Option Addr) (cq2 : Nat), v = .agg #[.slice Aq1 r.l.length cq2, .int .i64 r.intent.Writer, .int .i64 r.intent.TS, .bool r.intent.Tomb, .string (bs r.intent.Value)] ∧ Γ' = [Row r_api_Version 75 (.slice Aq1 r.l.length cq2) r.l, Blk bc_0 (.cells #[pt boc_0 0] 54 (0, 0)), B83 boc_0 ac_0 Ac_0_8 Ac_0_9 Ac_0_10 cc_0_10 Ac_0_11, MapC enc_model_name (Value.int .i64) Ac_0_8 ac_0.names, MapC (Value.int .i64) (Value.int .i64) Ac_0_9 ac_0.many, Row r_model_tx 109 (.slice Ac_0_10 ac_0.txs.length cc_0_10) ac_0.txs]) := by
  refine con_of_wp Tryd.func106 rfl Tryd.ntmps106 Tryd.results106 rfl ?_
  intro w F rn S hrn
  have E := Ext.refl w
  have HM := Hp.le_refl M
  have H := h
  unfold model_Model_vacuum_1_POOOX at H
  refine Wp_seq (Wp_region_lit ?_)
  refine W_box S #[.slice A0_0 a0.l.length c0_0, .int .i64 a0.intent.Writer, .int .i64 a0.intent.TS, .bool a0.intent.Tomb, .string (bs a0.intent.Value)] rfl rfl rfl ?_
  intro b1 w2 E' S
  replace E := E.trans E'
  refine W_alloc S #[.slice none 0 0, .int .i64 0, .int .i64 0, .bool false, .string (bs ([] : Str))] ty77 rfl rfl ?_
  intro b4 w5 E' S
  replace E := E.trans E'
  refine Wl_nil (tn (Wp_seq ?_))
  refine Wp_region_any (S := fun w' => ∃ Mx, M.le Mx ∧ St w' Mx F [Blk b4 (.cells #[.slice none 0 0, .int .i64 0, .int .i64 0, .bool false, .string (bs ([] : Str))] 77 (0, 0)), B77 b1 a0 A0_0 c0_0, Blk bc_0 (.cells #[pt boc_0 0] 54 (0, 0)), B83 boc_0 ac_0 Ac_0_8 Ac_0_9 Ac_0_10 cc_0_10 Ac_0_11, MapC enc_model_name (Value.int .i64) Ac_0_8 ac_0.names, MapC (Value.int .i64) (Value.int .i64) Ac_0_9 ac_0.many, Row r_model_tx 109 (.slice Ac_0_10 ac_0.txs.length cc_0_10) ac_0.txs]) (L := 10) mixed ?_
  intro w14 hw15 E'
  replace S := S.heap hw15
  replace E := E.trans E'
  have D1 : ∃ Mx, Hp.le M Mx ∧ St _ Mx F [_, _, _, _, _, _, _] := ⟨_, Hp.le_refl _, S.pick [0, 1, 2, 3, 4, 5, 6] (by decide)⟩
  refine Wa_take (i := 0) rfl (by kernel_rfl) rfl rfl (pt b1 0) rfl (fun w' h' => x_fieldAddr (o := 0) (off := 0) Tryd.underlying77 rfl ty73 rfl rfl) D1 (Wa_take (i := 1) rfl (by kernel_rfl) rfl rfl (.slice A0_0 a0.l.length c0_0) rfl (fun w' h' => x_load (cls_blk h' 1 rfl) ty73 rfl rfl) D1 (Wa_take (i := 2) rfl (by kernel_rfl) rfl rfl (pt boc_0 0) rfl (fun w' h' => x_load (cls_blk h' 2 rfl) ty54 rfl rfl) D1 (Wa_take (i := 3) rfl (by kernel_rfl) rfl rfl (pt boc_0 0) rfl (fun w' h' => x_nilptr rfl) D1 (Wa_take (i := 4) rfl (by kernel_rfl) rfl rfl (pt boc_0 13) rfl (fun w' h' => x_fieldAddr (o := 0) (off := 13) Tryd.underlying83 rfl ty3 rfl rfl) D1 (Wa_take (i := 5) rfl (by kernel_rfl) rfl rfl (.int .i64 ac_0.floor) rfl (fun w' h' => x_load (cls_blk h' 3 rfl) ty3 rfl rfl) D1 (Wa_take (i := 7) rfl (by kernel_rfl) rfl rfl (pt b1 1) rfl (fun w' h' => x_fieldAddr (o := 0) (off := 1) Tryd.underlying77 rfl ty75 rfl rfl) D1 (Wa_take (i := 8) rfl (by kernel_rfl) rfl rfl (.agg #[.int .i64 a0.intent.Writer, .int .i64 a0.intent.TS, .bool a0.intent.Tomb, .string (bs a0.intent.Value)]) rfl (fun w' h' => x_loadA (cls_blk h' 1 rfl) ty75 rfl (sub_of_extract rfl) rfl rfl) D1 ?_)))))))
  refine Wa_solo (i := 6) rfl (by kernel_rfl) ?_
  obtain ⟨t16, ht17, H⟩ := bindS H
  refine W_callF fn107 (keep_Kept.con k M A0_0 c0_0 a0.l ac_0.floor t16 hr0_0 ht17) S rfl rfl (by rintro _ _ _ ⟨_, _, _, rfl⟩; exact (flat_cons (flat_row (fun _ _ _ _ h => h)) flat_nil)) ?_
  rintro _ w21 _ Γ' E' S ⟨A18, c19, rfl, rfl⟩
  replace E := E.trans E'
  refine Wl_nil (on_n ⟨.inr ⟨M, Hp.le_refl M, (S.pick [1, 2, 3, 4, 5, 6, 7] (by decide))⟩, ?_⟩)
  refine Wa_take (i := 9) rfl (by kernel_rfl) rfl rfl (.agg #[.slice A18 t16.length c19, .int .i64 a0.intent.Writer, .int .i64 a0.intent.TS, .bool a0.intent.Tomb, .string (bs a0.intent.Value)]) rfl (fun w' h' => x_build2 (pl := [(0, 1), (1, 4)]) #[.slice A18 t16.length c19, .int .i64 a0.intent.Writer, .int .i64 a0.intent.TS, .bool a0.intent.Tomb, .string (bs a0.intent.Value)] Tryd.underlying77 ty77 (by as_aux_lemma => kernel_rfl) rfl (by as_aux_lemma => kernel_rfl)) (⟨M, Hp.le_refl M, (S.pick [1, 2, 3, 4, 5, 6, 7] (by decide))⟩) ?_
  refine Wa_solo (i := 10) rfl (by kernel_rfl) ?_
  refine W_store S 1 rfl ty77 rfl rfl [.slice A18 t16.length c19, .int .i64 a0.intent.Writer, .int .i64 a0.intent.TS, .bool a0.intent.Tomb, .string (bs a0.intent.Value)] rfl rfl rfl #[.slice A18 t16.length c19, .int .i64 a0.intent.Writer, .int .i64 a0.intent.TS, .bool a0.intent.Tomb, .string (bs a0.intent.Value)] rfl rfl ?_
  intro w22 E' S
  replace E := E.trans E'
  refine Wl_nil (on_n ⟨.inl (by decide), ?_⟩)
  refine Wa_done (by kernel_rfl) ?_
  refine tn ?_
  refine Wp_ret ?_
  obtain rfl := Option.some.inj H
  exact ⟨_, _, _, fun w1 e1 => run_resR (vs := [.agg #[.slice A18 t16.length c19, .int .i64 a0.intent.Writer, .int .i64 a0.intent.TS, .bool a0.intent.Tomb, .string (bs a0.intent.Value)]]) (FA.cons (⟨_, rfl, run_loadVar_agg ty77 ((S.of_eq e1).blk 1 rfl) (sub_of_extract rfl) rfl (by decide)⟩) (FA.nil)), HM, E, S.pick [0, 3, 4, 5, 6, 7] (by decide), ⟨A18, c19, rfl, rfl⟩⟩
def model_Model_each_POOOO_Model_vacuum_1_Q_l0 (k : Nat) (a0 : model_Model) : Nat → List (Str × model_row) → List Str → Option (((List (Str × model_row))))
  | 0, _, _ => none
  | kl + 1, x372, x378 => (onList x378 (some (x372)) (fun y567 todo574 => (Option.bind (α := (List (Str × model_row))) (Option.bind (model_Model_vacuum_1_POOOX k ((mget x372 y567).getD (⟨[], ⟨0, 0, false, []⟩⟩ : model_row)) (⟨⟨a0.c.Tasks, a0.c.Active, a0.c.Keys, a0.c.Depth, a0.c.TS, a0.c.KeyLen, a0.c.ValLen, a0.c.Fan⟩, a0.names, a0.many, a0.txs, x372, a0.clock, a0.floor⟩ : model_Model)) (fun t669 => (if y567 ∈ x372.map (fun p => p.1) then (Option.bind (α := List (Str × model_row)) (some (mput x372 y567 t669)) (fun x702 => (Option.bind (α := (List (Str × model_row))) (if (((t669.l.length : Int) == (0 : Int)) && (t669.intent.Writer == (0 : Int))) = true then (if y567 ∉ todo574 then (Option.bind (α := List (Str × model_row)) (some (mdel x702 y567)) (fun x734 => some (x734))) else none) else some (x702)) (fun x724 => some (x724))))) else none))) (fun x657 => model_Model_each_POOOO_Model_vacuum_1_Q_l0 k a0 kl x657 todo574))))
set_option maxHeartbeats 2000000 in
theorem model_Model_each_POOOO_Model_vacuum_1_Q_l0.mono {k : Nat} {a0 : model_Model} : ∀ {kl : Nat} {x0 x1}, OLe (model_Model_each_POOOO_Model_vacuum_1_Q_l0 k a0 kl x0 x1) (model_Model_each_POOOO_Model_vacuum_1_Q_l0 (k + 1) a0 (kl + 1) x0 x1) := by
  intro kl
  induction kl with
  | zero => intros; exact OLe.none
  | succ kl ih =>
    intros
    rw [model_Model_each_POOOO_Model_vacuum_1_Q_l0.eq_2, model_Model_each_POOOO_Model_vacuum_1_Q_l0.eq_2]
    repeat' (first | with_reducible exact OLe.none | with_reducible exact OLe.some | with_reducible refine OLe.ite ?_ ?_ | with_reducible refine OLe.bind ?_ (fun _ => ?_) | with_reducible exact model_Model_vacuum_1_POOOX.mono | exact ih | refine OLe.bind ?_ (fun _ => ?_) | refine OLe.ite ?_ ?_ | refine OLe.elim (fun _ => ?_) (fun _ => ?_) | refine OLe.onList ?_ (fun _ _ => ?_) | split)
theorem model_Model_each_POOOO_Model_vacuum_1_Q_l0.perm {k : Nat} {a0 : model_Model} {kl : Nat} {x372 : List (Str × model_row)} {x378 : List Str} {x378' : List Str}  (hp : x378.Perm x378') (hn : x378.Nodup) (hl : (x372.map (·.1)).Nodup) (hs : ∀ y ∈ x378, y ∈ x372.map (·.1)) : model_Model_each_POOOO_Model_vacuum_1_Q_l0 k a0 kl x372 x378 = model_Model_each_POOOO_Model_vacuum_1_Q_l0 k a0 kl x372 x378' := by
  exact perm_each (z0 := (⟨[], ⟨0, 0, false, []⟩⟩ : model_row)) (one := fun s r => model_Model_vacuum_1_POOOX k r (⟨⟨a0.c.Tasks, a0.c.Active, a0.c.Keys, a0.c.Depth, a0.c.TS, a0.c.KeyLen, a0.c.ValLen, a0.c.Fan⟩, a0.names, a0.many, a0.txs, s, a0.clock, a0.floor⟩ : model_Model)) (dead := fun r => ((r.l.length : Int) == (0 : Int)) && (r.intent.Writer == (0 : Int))) (fun kl s t => model_Model_each_POOOO_Model_vacuum_1_Q_l0 k a0 kl s t) _ (fun _ _ _ => rfl) (fun _ _ => rfl) (fun _ _ _ => rfl) hp hn kl _ hl hs
def model_Model_each_POOOO_Model_vacuum_1_Q (k : Nat) (a0 : model_Model) : Option (model_Model) :=
  (if (a0.rows.map fun p : Str × model_row => p.1).Nodup then (Option.bind (model_Model_each_POOOO_Model_vacuum_1_Q_l0 k a0 k a0.rows (a0.rows.map fun p : Str × model_row => p.1)) (fun x556 => some (⟨⟨a0.c.Tasks, a0.c.Active, a0.c.Keys, a0.c.Depth, a0.c.TS, a0.c.KeyLen, a0.c.ValLen, a0.c.Fan⟩, a0.names, a0.many, a0.txs, x556, a0.clock, a0.floor⟩ : model_Model))) else none)
set_option maxHeartbeats 2000000 in
theorem model_Model_each_POOOO_Model_vacuum_1_Q.mono {k : Nat} {a0 : model_Model} : OLe (model_Model_each_POOOO_Model_vacuum_1_Q k a0) (model_Model_each_POOOO_Model_vacuum_1_Q (k + 1) a0) := by
  unfold model_Model_each_POOOO_Model_vacuum_1_Q
  repeat' (first | with_reducible exact OLe.none | with_reducible exact OLe.some | with_reducible refine OLe.ite ?_ ?_ | with_reducible refine OLe.bind ?_ (fun _ => ?_) | with_reducible exact model_Model_each_POOOO_Model_vacuum_1_Q_l0.mono | refine OLe.bind ?_ (fun _ => ?_) | refine OLe.ite ?_ ?_ | refine OLe.elim (fun _ => ?_) (fun _ => ?_) | split)
set_option maxHeartbeats 4000000 in
set_option maxRecDepth 100000 in
theorem model_Model_each_POOOO_Model_vacuum_1_Q.con (k : Nat) (M : Hp) (A0_8 : Option Addr) (c0_8 : Nat) (A0_9 : Option Addr) (c0_9 : Nat) (A0_10 : Option Addr) (c0_10 : Nat) (A0_11 : Option Addr) (c0_11 : Nat) (vs0_11 : List (Str × Value)) (a0 : model_Model) (bo0 : Nat) (b1_0 : Nat) (r : model_Model) (hm0_11 : MRel r_model_row M a0.rows vs0_11) (h : model_Model_each_POOOO_Model_vacuum_1_Q k a0 = some r) : Con Tryd.prog 105 #[pt bo0 0, .func (.func 106) #[] #[pt b1_0 0]] M [B83 bo0 a0 A0_8 A0_9 A0_10 c0_10 A0_11, MapC enc_model_name (Value.int .i64) A0_8 a0.names, MapC (Value.int .i64) (Value.int .i64) A0_9 a0.many, Row r_model_tx 109 (.slice A0_10 a0.txs.length c0_10) a0.txs, MapC encS (fun v : Value => v) A0_11 vs0_11, Blk b1_0 (.cells #[pt bo0 0] 54 (0, 0))] (fun v M' Γ' => ∃ (Aq1 : Option Addr) (cq2 : Nat) (Aq4 : Option Addr) (cq5 : Nat) (Aq7 : Option Addr) (cq8 : Nat) (Aq10 : Option Addr) (cq11 : Nat) (vsq13 : List (Str × Value)), v = .tuple #[] ∧ MRel r_model_row M' r.rows vsq13 ∧ Γ' = [B83 bo0 r Aq1 Aq4 Aq7 cq8 Aq10, MapC enc_model_name (Value.int .i64) Aq1 r.names, MapC (Value.int .i64) (Value.int .i64) Aq4 r.many, Row r_model_tx 109 (.slice Aq7 r.txs.length cq8) r.txs, MapC encS (fun v : Value => v) Aq10 vsq13, Blk b1_0 (.cells #[pt bo0 0] 54 (0, 0))]) := by
  refine con_of_wp Tryd.func105 rfl Tryd.ntmps105 Tryd.results105 rfl ?_
  intro w F rn S hrn
  have E := Ext.refl w
  have HM := Hp.le_refl M
  have H := h
  unfold model_Model_each_POOOO_Model_vacuum_1_Q at H
  refine Wp_seq (Wp_region_lit (W_v (pt bo0 0) (x_move rfl) rfl (W_v (pt bo0 0) (x_nilptr rfl) rfl (W_v (pt bo0 11) (x_fieldAddr (o := 0) (off := 11) Tryd.underlying83 rfl ty81 rfl rfl) rfl (W_v (.map (mb A0_11)) (x_load (S.blk 0 rfl) ty81 rfl rfl) rfl ?_)))))
  obtain ⟨hn1, H⟩ := chkS H
  refine W_rangeM S 4 rfl Tryd.underlying81 (by rw [hm0_11.keys]; exact hn1) rfl rfl ?_
  intro b2 w3 E' S
  replace E := E.trans E'
  rw [hm0_11.keys] at S
  replace S : St w3 M F [_, _, _, _, _, _] := S
  refine Wl_nil (tn ?_)
  obtain ⟨o562, o562h, o562H⟩ := bindS H
  refine Wp_blockJ (fun ρ w' => ∃ (x556 : List (Str × model_row)) (A557 : Option Addr) (c558 : Nat) (vs560 : List (Str × Value)) (Mj : Hp), (x556) = o562 ∧ Agree ρ [] ∧ M.le Mj ∧ Ext w w' ∧ St w' Mj F [MapC encS (fun v : Value => v) A557 vs560, Blk bo0 (.cells #[.int .i64 a0.c.Tasks, .int .i64 a0.c.Active, .int .i64 a0.c.Keys, .int .i64 a0.c.Depth, .int .i64 a0.c.TS, .int .i64 a0.c.KeyLen, .int .i64 a0.c.ValLen, .int .i64 a0.c.Fan, .map (mb A0_8), .map (mb A0_9), .slice A0_10 a0.txs.length c0_10, .map (mb A557), .int .i64 a0.clock, .int .i64 a0.floor] 83 (0, 0)), MapC enc_model_name (Value.int .i64) A0_8 a0.names, MapC (Value.int .i64) (Value.int .i64) A0_9 a0.many, Row r_model_tx 109 (.slice A0_10 a0.txs.length c0_10) a0.txs, Blk b1_0 (.cells #[pt bo0 0] 54 (0, 0))] ∧ MRel r_model_row Mj x556 vs560) ?_ ?_
  · skip
    refine Wp_loop (fun n ρ w' => ∃ (x372 : List (Str × model_row)) (x378 : List Str) (A373 : Option Addr) (c374 : Nat) (vs376 : List (Str × Value)) (Mj : Hp), model_Model_each_POOOO_Model_vacuum_1_Q_l0 k a0 n x372 x378 = some o562 ∧ Agree ρ [(0, pt bo0 0), (1, .func (.func 106) #[] #[pt b1_0 0]), (10, pt b2 0)] ∧ M.le Mj ∧ Ext w w' ∧ St w' Mj F [RangeM encS (fun v : Value => v) A373 b2 vs376 x378 none, Blk bo0 (.cells #[.int .i64 a0.c.Tasks, .int .i64 a0.c.Active, .int .i64 a0.c.Keys, .int .i64 a0.c.Depth, .int .i64 a0.c.TS, .int .i64 a0.c.KeyLen, .int .i64 a0.c.ValLen, .int .i64 a0.c.Fan, .map (mb A0_8), .map (mb A0_9), .slice A0_10 a0.txs.length c0_10, .map (mb A373), .int .i64 a0.clock, .int .i64 a0.floor] 83 (0, 0)), MapC enc_model_name (Value.int .i64) A0_8 a0.names, MapC (Value.int .i64) (Value.int .i64) A0_9 a0.many, Row r_model_tx 109 (.slice A0_10 a0.txs.length c0_10) a0.txs, Blk b1_0 (.cells #[pt bo0 0] 54 (0, 0))] ∧ MRel r_model_row Mj x372 vs376) k ?_ ?_
    · skip
      exact ⟨a0.rows, (a0.rows.map fun p : Str × model_row => p.1), A0_11, c0_11, vs0_11, M, o562h, ⟨rfl, rfl, rfl, trivial⟩, (Hp.le_refl M), E, S.pick [4, 0, 1, 2, 3, 5] (by decide), hm0_11⟩
    · intro n
      rintro ρ w563 ⟨x372, x378, A373, c374, vs376, M564, H, hρ, hM565, E, S, hm377⟩
      rw [agree_eta hρ]
      replace HM := Hp.le_trans HM hM565
      replace hm0_11 := MRel.mono hm0_11 hM565
      cases n with
      | zero => cases H
      | succ kl =>
        refine Wp_seq (Wp_region_lit ?_)
        obtain ⟨hn566a, hn566b, hn566c⟩ := S.rangeM_facts 0 rfl
        rw [hm377.keys] at hn566b hn566c
        refine W_nextM S 0 rfl rfl rfl ?_ ?_
        · intro y567 v568 w569 hy571 hv572 E' S
          replace E := E.trans E'
          rw [model_Model_each_POOOO_Model_vacuum_1_Q_l0.perm (permE hy571) hn566a hn566b hn566c, model_Model_each_POOOO_Model_vacuum_1_Q_l0.eq_2, onList_cons] at H
          obtain ⟨cs575, hR576, he577⟩ := hm377.get y567 (z := (⟨[], ⟨0, 0, false, []⟩⟩ : model_row)) (zc := [.slice none 0 0, .int .i64 0, .int .i64 0, .bool false, .string (bs ([] : Str))]) ⟨_, SlW.nil _ _, rfl⟩
          rw [hv572] at he577
          obtain rfl : v568 = _ := he577
          obtain ⟨v581, hs580, rfl⟩ := hR576
          obtain ⟨A578, c579, rfl, _⟩ := hs580.form
          replace S : St w569 M564 F [_, _, _, _, _, _] := S
          refine W_v (.bool true) (x_extract rfl rfl) rfl (Wl_nil (tn (Wp_seq (Wp_cond_true rfl (Wp_skip (tn ?_))))))
          obtain ⟨o663, o663h, o663H⟩ := bindS H
          refine Wp_cut (fun ρ w' => ∃ (x657 : List (Str × model_row)) (A658 : Option Addr) (c659 : Nat) (vs661 : List (Str × Value)) (Mj : Hp), (x657) = o663 ∧ Agree ρ [(0, pt bo0 0), (1, .func (.func 106) #[] #[pt b1_0 0]), (10, pt b2 0)] ∧ M564.le Mj ∧ Ext w w' ∧ St w' Mj F [RangeM encS (fun v : Value => v) A658 b2 vs661 (er x378 y567) none, Blk b1_0 (.cells #[pt bo0 0] 54 (0, 0)), Blk bo0 (.cells #[.int .i64 a0.c.Tasks, .int .i64 a0.c.Active, .int .i64 a0.c.Keys, .int .i64 a0.c.Depth, .int .i64 a0.c.TS, .int .i64 a0.c.KeyLen, .int .i64 a0.c.ValLen, .int .i64 a0.c.Fan, .map (mb A0_8), .map (mb A0_9), .slice A0_10 a0.txs.length c0_10, .map (mb A658), .int .i64 a0.clock, .int .i64 a0.floor] 83 (0, 0)), MapC enc_model_name (Value.int .i64) A0_8 a0.names, MapC (Value.int .i64) (Value.int .i64) A0_9 a0.many, Row r_model_tx 109 (.slice A0_10 a0.txs.length c0_10) a0.txs] ∧ MRel r_model_row Mj x657 vs661) ?_ ?_
          · as_aux_lemma =>
              clear o663H
              have H := o663h
              have LE664 := Hp.le_refl M564
              refine Wp_block ?_
              refine Wp_seq (Wp_region_lit (W_v (.tuple #[encS y567, .agg #[.slice A578 (((mget x372 y567).getD (⟨[], ⟨0, 0, false, []⟩⟩ : model_row)).l).length c579, .int .i64 (((mget x372 y567).getD (⟨[], ⟨0, 0, false, []⟩⟩ : model_row)).intent.Writer), .int .i64 (((mget x372 y567).getD (⟨[], ⟨0, 0, false, []⟩⟩ : model_row)).intent.TS), .bool (((mget x372 y567).getD (⟨[], ⟨0, 0, false, []⟩⟩ : model_row)).intent.Tomb), .string (bs (((mget x372 y567).getD (⟨[], ⟨0, 0, false, []⟩⟩ : model_row)).intent.Value))]]) (x_entryM (encv := (fun v : Value => v)) S 0 rfl hv572 rfl) rfl ?_))
              replace S := S.rangeM_seen 0 rfl
              replace S : St w569 M564 F [_, _, _, _, _, _] := S
              refine W_v (.string (bs y567)) (x_extract rfl rfl) rfl (W_v (.agg #[.slice A578 (((mget x372 y567).getD (⟨[], ⟨0, 0, false, []⟩⟩ : model_row)).l).length c579, .int .i64 (((mget x372 y567).getD (⟨[], ⟨0, 0, false, []⟩⟩ : model_row)).intent.Writer), .int .i64 (((mget x372 y567).getD (⟨[], ⟨0, 0, false, []⟩⟩ : model_row)).intent.TS), .bool (((mget x372 y567).getD (⟨[], ⟨0, 0, false, []⟩⟩ : model_row)).intent.Tomb), .string (bs (((mget x372 y567).getD (⟨[], ⟨0, 0, false, []⟩⟩ : model_row)).intent.Value))]) (x_extract rfl rfl) rfl ?_)
              refine W_alloc S #[.slice none 0 0, .int .i64 0, .int .i64 0, .bool false, .string (bs ([] : Str))] ty77 rfl rfl ?_
              intro b665 w666 E' S
              replace E := E.trans E'
              refine W_v (.string (bs y567)) (x_assign rfl) rfl ?_
              refine W_store S 0 rfl ty77 rfl rfl [.slice A578 (((mget x372 y567).getD (⟨[], ⟨0, 0, false, []⟩⟩ : model_row)).l).length c579, .int .i64 (((mget x372 y567).getD (⟨[], ⟨0, 0, false, []⟩⟩ : model_row)).intent.Writer), .int .i64 (((mget x372 y567).getD (⟨[], ⟨0, 0, false, []⟩⟩ : model_row)).intent.TS), .bool (((mget x372 y567).getD (⟨[], ⟨0, 0, false, []⟩⟩ : model_row)).intent.Tomb), .string (bs (((mget x372 y567).getD (⟨[], ⟨0, 0, false, []⟩⟩ : model_row)).intent.Value))] rfl rfl rfl #[.slice A578 (((mget x372 y567).getD (⟨[], ⟨0, 0, false, []⟩⟩ : model_row)).l).length c579, .int .i64 (((mget x372 y567).getD (⟨[], ⟨0, 0, false, []⟩⟩ : model_row)).intent.Writer), .int .i64 (((mget x372 y567).getD (⟨[], ⟨0, 0, false, []⟩⟩ : model_row)).intent.TS), .bool (((mget x372 y567).getD (⟨[], ⟨0, 0, false, []⟩⟩ : model_row)).intent.Tomb), .string (bs (((mget x372 y567).getD (⟨[], ⟨0, 0, false, []⟩⟩ : model_row)).intent.Value))] rfl rfl ?_
              intro w668 E' S
              replace E := E.trans E'
              refine Wl_nil (tn (Wp_seq (Wp_region_lit (W_v (.func (.func 106) #[] #[pt b1_0 0]) (x_move rfl) rfl (W_v (.agg #[.slice A578 (((mget x372 y567).getD (⟨[], ⟨0, 0, false, []⟩⟩ : model_row)).l).length c579, .int .i64 (((mget x372 y567).getD (⟨[], ⟨0, 0, false, []⟩⟩ : model_row)).intent.Writer), .int .i64 (((mget x372 y567).getD (⟨[], ⟨0, 0, false, []⟩⟩ : model_row)).intent.TS), .bool (((mget x372 y567).getD (⟨[], ⟨0, 0, false, []⟩⟩ : model_row)).intent.Tomb), .string (bs (((mget x372 y567).getD (⟨[], ⟨0, 0, false, []⟩⟩ : model_row)).intent.Value))]) (x_loadA (S.blk 0 rfl) ty77 rfl (sub_of_extract rfl) rfl rfl) rfl ?_)))))
              obtain ⟨t669, ht670, H⟩ := bindS H
              replace S : St w668 M564 F [_, _, _, _, _, _, _] := S.pick [6, 2, 3, 4, 5, 0, 1] (by decide)
              refine W_callvF2 (fs := []) (cap := [pt b1_0 0]) fn106 rfl (model_Model_vacuum_1_POOOX.con k M564 A578 c579 ((mget x372 y567).getD (⟨[], ⟨0, 0, false, []⟩⟩ : model_row)) A0_8 c0_8 A0_9 c0_9 A0_10 c0_10 A373 c374 (⟨⟨a0.c.Tasks, a0.c.Active, a0.c.Keys, a0.c.Depth, a0.c.TS, a0.c.KeyLen, a0.c.ValLen, a0.c.Fan⟩, a0.names, a0.many, a0.txs, x372, a0.clock, a0.floor⟩ : model_Model) b1_0 bo0 t669 hs580 ht670) (Γ1 := [_, _, _, _, _]) (Γ2 := [_, _]) S rfl rfl (by rintro _ _ _ ⟨_, _, rfl, rfl⟩; exact (flat_cons (flat_row (fun _ _ _ _ h => h)) (flat_cons flat_blk (flat_cons flat_blk (flat_cons flat_map (flat_cons flat_map (flat_cons (flat_row (fun _ _ _ _ h => h)) flat_nil))))))) ?_
              rintro _ w674 _ Γ' E' S ⟨A671, c672, rfl, rfl⟩
              replace E := E.trans E'
              replace S : St w674 M564 F [_, _, _, _, _, _, _, _] := S
              refine W_store S 6 rfl ty77 rfl rfl [.slice A671 t669.l.length c672, .int .i64 t669.intent.Writer, .int .i64 t669.intent.TS, .bool t669.intent.Tomb, .string (bs t669.intent.Value)] rfl rfl rfl #[.slice A671 t669.l.length c672, .int .i64 t669.intent.Writer, .int .i64 t669.intent.TS, .bool t669.intent.Tomb, .string (bs t669.intent.Value)] rfl rfl ?_
              intro w677 E' S
              replace E := E.trans E'
              refine Wl_nil (tn (Wp_seq ?_))
              obtain ⟨M688, hM689, hf690, S⟩ := S.row_freeze 0 rfl
              replace HM := Hp.le_trans HM hM689
              replace hM565 := Hp.le_trans hM565 hM689
              replace LE664 := Hp.le_trans LE664 hM689
              replace hm0_11 := MRel.mono hm0_11 hM689
              replace hm377 := MRel.mono hm377 hM689
              replace hs580 := SlR.mono hs580 hM689
              refine Wp_region_any (S := fun w' => ∃ Mx, M688.le Mx ∧ St w' Mx F [Blk b1_0 (.cells #[pt bo0 0] 54 (0, 0)), Blk bo0 (.cells #[.int .i64 a0.c.Tasks, .int .i64 a0.c.Active, .int .i64 a0.c.Keys, .int .i64 a0.c.Depth, .int .i64 a0.c.TS, .int .i64 a0.c.KeyLen, .int .i64 a0.c.ValLen, .int .i64 a0.c.Fan, .map (mb A0_8), .map (mb A0_9), .slice A0_10 a0.txs.length c0_10, .map (mb A373), .int .i64 a0.clock, .int .i64 a0.floor] 83 (0, 0)), MapC enc_model_name (Value.int .i64) A0_8 a0.names, MapC (Value.int .i64) (Value.int .i64) A0_9 a0.many, Row r_model_tx 109 (.slice A0_10 a0.txs.length c0_10) a0.txs, B77 b665 t669 A671 c672, RangeM encS (fun v : Value => v) A373 b2 vs376 (er x378 y567) none]) (L := 6) mixed ?_
              intro w698 hw699 E'
              replace S := S.heap hw699
              replace E := E.trans E'
              have D1 : ∃ Mx, Hp.le M688 Mx ∧ St _ Mx F [_, _, _, _, _, _, _] := ⟨_, Hp.le_refl _, S.pick [0, 1, 2, 3, 4, 5, 6] (by decide)⟩
              refine Wa_take (i := 0) rfl (by kernel_rfl) rfl rfl (pt bo0 0) rfl (fun w' h' => x_move rfl) D1 (Wa_take (i := 1) rfl (by kernel_rfl) rfl rfl (pt bo0 0) rfl (fun w' h' => x_nilptr rfl) D1 (Wa_take (i := 2) rfl (by kernel_rfl) rfl rfl (pt bo0 11) rfl (fun w' h' => x_fieldAddr (o := 0) (off := 11) Tryd.underlying83 rfl ty81 rfl rfl) D1 (Wa_take (i := 3) rfl (by kernel_rfl) rfl rfl (.map (mb A373)) rfl (fun w' h' => x_load (cls_blk h' 1 rfl) ty81 rfl rfl) D1 (Wa_take (i := 4) rfl (by kernel_rfl) rfl rfl (.string (bs y567)) rfl (fun w' h' => x_move rfl) D1 (Wa_take (i := 5) rfl (by kernel_rfl) rfl rfl (.agg #[.slice A671 t669.l.length c672, .int .i64 t669.intent.Writer, .int .i64 t669.intent.TS, .bool t669.intent.Tomb, .string (bs t669.intent.Value)]) rfl (fun w' h' => x_loadA (cls_blk h' 5 rfl) ty77 rfl (sub_of_extract rfl) rfl rfl) D1 ?_)))))
              refine Wa_solo (i := 6) rfl (by kernel_rfl) ?_
              obtain ⟨p700, H⟩ := chkS H
              obtain ⟨x702, he703, H⟩ := bindS H
              replace he703 := Option.some.inj he703
              obtain ⟨vs704, hv705⟩ : ∃ z : List (Str × Value), mput vs376 y567 (.agg #[.slice A671 t669.l.length c672, .int .i64 t669.intent.Writer, .int .i64 t669.intent.TS, .bool t669.intent.Tomb, .string (bs t669.intent.Value)]) = z := ⟨_, rfl⟩
              have hm706 : MRel r_model_row M688 x702 vs704 := by rw [← he703, ← hv705]; exact hm377.put y567 (cs := [.slice A671 t669.l.length c672, .int .i64 t669.intent.Writer, .int .i64 t669.intent.TS, .bool t669.intent.Tomb, .string (bs t669.intent.Value)]) ⟨_, hf690, rfl⟩
              refine W_mapUpdateM S 6 rfl Tryd.underlying81 key9 y567 (.agg #[.slice A671 t669.l.length c672, .int .i64 t669.intent.Writer, .int .i64 t669.intent.TS, .bool t669.intent.Tomb, .string (bs t669.intent.Value)]) (by rw [hm377.keys]; exact p700) hv705 rfl rfl rfl ?_
              intro w701 E' S
              replace E := E.trans E'
              replace S : St w701 M688 F [_, _, _, _, _, _, _] := S
              refine Wl_nil (on_n ⟨.inl (by decide), ?_⟩)
              refine Wa_done (by kernel_rfl) ?_
              refine tn ?_
              as_aux_lemma =>
              refine Wp_seq (Wp_region_lit (W_v (pt b665 0) (x_fieldAddr (o := 0) (off := 0) Tryd.underlying77 rfl ty73 rfl rfl) rfl (W_v (.slice A671 t669.l.length c672) (x_load (S.blk 5 rfl) ty73 rfl rfl) rfl (W_v (.int .i64 (t669.l.length : Int)) (x_len_slice (n := t669.l.length) Tryd.underlying73 rfl) rfl (W_v (.bool ((t669.l.length : Int) == (0 : Int))) (x_ibin rfl rfl rfl rfl) rfl (W_v (.bool ((t669.l.length : Int) == (0 : Int))) (x_move rfl) rfl ?_))))))
              refine Wl_cutN 5 (fun ρ w' => Agree ρ [(0, pt bo0 0), (1, .func (.func 106) #[] #[pt b1_0 0]), (4, .string (bs y567)), (10, pt b2 0), (34, .bool (((t669.l.length : Int) == (0 : Int)) && (t669.intent.Writer == (0 : Int))))] ∧ w701 = w') ?_ ?_
              · rcases boolCases ((t669.l.length : Int) == (0 : Int)) with hb707 | hb707
                · skip
                  refine W_no (skT hb707) rfl (W_no (skT hb707) rfl (W_no (skT hb707) rfl (W_no (skT hb707) rfl (W_v (.bool false) (x_pick (k := false) (congrArg Value.bool hb707) rfl) rfl (Wl_nil ?_)))))
                  exact ⟨⟨rfl, rfl, rfl, rfl, (by first | rfl | (rw [hb707]; rfl) | (simp only [hb707]; rfl)), trivial⟩, rfl⟩
                · skip
                  refine W_yes (congrArg some hb707) (W_v (pt b665 1) (x_fieldAddr (o := 0) (off := 1) Tryd.underlying77 rfl ty75 rfl rfl) rfl (W_yes (congrArg some hb707) (W_v (pt b665 1) (x_fieldAddr (o := 1) (off := 0) Tryd.underlying75 rfl ty3 rfl rfl) rfl (W_yes (congrArg some hb707) (W_v (.int .i64 t669.intent.Writer) (x_load (S.blk 5 rfl) ty3 rfl rfl) rfl (W_yes (congrArg some hb707) (W_v (.bool (t669.intent.Writer == (0 : Int))) (x_ibin rfl rfl rfl rfl) rfl (W_v (.bool (t669.intent.Writer == (0 : Int))) (x_pick (k := true) (congrArg Value.bool hb707) rfl) rfl (Wl_nil ?_)))))))))
                  exact ⟨⟨rfl, rfl, rfl, rfl, (by first | rfl | (rw [hb707]; rfl) | (simp only [hb707]; rfl)), trivial⟩, rfl⟩
              rintro ρ _ ⟨hρ, rfl⟩
              rw [agree_eta hρ]
              refine Wl_nil (tn ?_)
              obtain ⟨o730, o730h, o730H⟩ := bindS H
              refine Wp_cut (fun ρ w' => ∃ (x724 : List (Str × model_row)) (A725 : Option Addr) (c726 : Nat) (vs728 : List (Str × Value)), (x724) = o730 ∧ Agree ρ [(0, pt bo0 0), (1, .func (.func 106) #[] #[pt b1_0 0]), (10, pt b2 0)] ∧ Ext w w' ∧ St w' M688 F [RangeM encS (fun v : Value => v) A725 b2 vs728 (er x378 y567) none, Blk b1_0 (.cells #[pt bo0 0] 54 (0, 0)), Blk bo0 (.cells #[.int .i64 a0.c.Tasks, .int .i64 a0.c.Active, .int .i64 a0.c.Keys, .int .i64 a0.c.Depth, .int .i64 a0.c.TS, .int .i64 a0.c.KeyLen, .int .i64 a0.c.ValLen, .int .i64 a0.c.Fan, .map (mb A0_8), .map (mb A0_9), .slice A0_10 a0.txs.length c0_10, .map (mb A725), .int .i64 a0.clock, .int .i64 a0.floor] 83 (0, 0)), MapC enc_model_name (Value.int .i64) A0_8 a0.names, MapC (Value.int .i64) (Value.int .i64) A0_9 a0.many, Row r_model_tx 109 (.slice A0_10 a0.txs.length c0_10) a0.txs] ∧ MRel r_model_row M688 x724 vs728) ?_ ?_
              · clear o730H
                have H := o730h
                rcases iteS H with ⟨hb731, H⟩ | ⟨hb731, H⟩
                · refine Wp_cond_true (congrArg Value.bool hb731) ?_
                  refine Wp_region_lit (W_v (pt bo0 0) (x_move rfl) rfl (W_v (pt bo0 0) (x_nilptr rfl) rfl (W_v (pt bo0 11) (x_fieldAddr (o := 0) (off := 11) Tryd.underlying83 rfl ty81 rfl rfl) rfl (W_v (.map (mb A373)) (x_load (S.blk 1 rfl) ty81 rfl rfl) rfl (W_v (.string (bs y567)) (x_move rfl) rfl ?_)))))
                  obtain ⟨p732, H⟩ := chkS H
                  obtain ⟨x734, he735, H⟩ := bindS H
                  replace he735 := Option.some.inj he735
                  obtain ⟨vs736, hv737⟩ : ∃ z : List (Str × Value), mdel vs704 y567 = z := ⟨_, rfl⟩
                  have hm738 : MRel r_model_row M688 x734 vs736 := by rw [← he735, ← hv737]; exact hm706.del y567
                  refine W_deleteM0 S 6 rfl Tryd.underlying81 key9 y567 p732 hv737 rfl rfl ?_
                  intro w733 E' S
                  replace E := E.trans E'
                  replace S : St w733 M688 F [_, _, _, _, _, _, _] := S
                  refine Wl_nil (tn ?_)
                  exact ⟨x734, A373, c374, vs736, Option.some.inj H, ⟨rfl, rfl, rfl, trivial⟩, E, S.pick [6, 0, 1, 2, 3, 4] (by decide), hm738⟩
                refine Wp_cond_false (congrArg Value.bool hb731) (Wp_skip (tn ?_))
                exact ⟨x702, A373, c374, vs704, Option.some.inj H, ⟨rfl, rfl, rfl, trivial⟩, E, S.pick [6, 0, 1, 2, 3, 4] (by decide), hm706⟩
              rintro ρ w739 ⟨x724, A725, c726, vs728, rfl, hρ, E, S, hm729⟩
              rw [agree_eta hρ]
              have H := o730H
              refine bn (tn ?_)
              exact ⟨x724, A725, c726, vs728, M688, Option.some.inj H, ⟨rfl, rfl, rfl, trivial⟩, LE664, E, S.pick [0, 1, 2, 3, 4, 5] (by decide), hm729⟩
          rintro ρ w740 ⟨x657, A658, c659, vs661, M741, rfl, hρ, hM742, E, S, hm662⟩
          rw [agree_eta hρ]
          replace HM := Hp.le_trans HM hM742
          replace hM565 := Hp.le_trans hM565 hM742
          replace hm0_11 := MRel.mono hm0_11 hM742
          replace hm377 := MRel.mono hm377 hM742
          replace hs580 := SlR.mono hs580 hM742
          have H := o663H
          refine tn ?_
          exact ⟨kl, Nat.lt_succ_self kl, ⟨x657, (er x378 y567), A658, c659, vs661, M741, H, ⟨rfl, rfl, rfl, trivial⟩, hM565, E, S.pick [0, 2, 3, 4, 5, 1] (by decide), hm662⟩⟩
        · intro w570 ht573 E' S
          replace E := E.trans E'
          rw [ht573, model_Model_each_POOOO_Model_vacuum_1_Q_l0.eq_2, onList_nil] at H
          replace S := S.rangeM_end 0 rfl
          replace S : St w570 M564 F [_, _, _, _, _, _] := S
          refine W_v (.bool false) (x_extract rfl rfl) rfl (Wl_nil (tn (Wp_seq (Wp_cond_false rfl ?_))))
          refine Wp_exit ?_
          refine tx (tx (bsm (?_)))
          refine tn ?_
          exact ⟨x372, A373, c374, vs376, M564, Option.some.inj H, trivial, hM565, E, S.pick [0, 1, 2, 3, 4, 5] (by decide), hm377⟩
  rintro ρ w743 ⟨x556, A557, c558, vs560, M744, rfl, hρ, hM745, E, S, hm561⟩
  rw [agree_eta hρ]
  replace HM := Hp.le_trans HM hM745
  replace hm0_11 := MRel.mono hm0_11 hM745
  have H := o562H
  obtain rfl := Option.some.inj H
  exact ⟨_, _, _, fun w1 e1 => run_resR (vs := []) (FA.nil), HM, E, S.pick [1, 2, 3, 4, 0, 5] (by decide), ⟨A0_8, c0_8, A0_9, c0_9, A0_10, c0_10, A557, c558, vs560, rfl, hm561, rfl⟩⟩
def model_Model_vacuum_POOOO_l0 (a0 : model_Model) : Nat → Int → Int → Option ((Int))
  | 0, _, _ => none
  | k + 1, x154, x155 => (if (decide (x154 < (a0.txs.length : Int))) = true then (Option.bind (α := Int) (if 0 ≤ x154 ∧ x154 < (a0.txs.length : Int) then (Option.bind (α := Int) (if ((rd a0.txs x154).state == (1 : Int)) = true then some ((imin x155 ((rd a0.txs x154).snapshot))) else some (x155)) (fun x286 => some (x286))) else none) (fun x260 => model_Model_vacuum_POOOO_l0 a0 k (IntKind.i64.wrap (x154 + (1 : Int))) x260)) else some (x155))
set_option maxHeartbeats 2000000 in
theorem model_Model_vacuum_POOOO_l0.mono {a0 : model_Model} : ∀ {kl : Nat} {x0 x1}, OLe (model_Model_vacuum_POOOO_l0 a0 kl x0 x1) (model_Model_vacuum_POOOO_l0 a0 (kl + 1) x0 x1) := by
  intro kl
  induction kl with
  | zero => intros; exact OLe.none
  | succ kl ih =>
    intros
    rw [model_Model_vacuum_POOOO_l0.eq_2, model_Model_vacuum_POOOO_l0.eq_2]
    repeat' (first | with_reducible exact OLe.none | with_reducible exact OLe.some | with_reducible refine OLe.ite ?_ ?_ | with_reducible refine OLe.bind ?_ (fun _ => ?_) | exact ih | refine OLe.bind ?_ (fun _ => ?_) | refine OLe.ite ?_ ?_ | refine OLe.elim (fun _ => ?_) (fun _ => ?_) | split)
def model_Model_vacuum_POOOO (k : Nat) (a0 : model_Model) (a1 : Int) (a2 : Int) (a3 : api_Call) : Option (api_Answer × model_Model) :=
  (Option.bind (model_Model_vacuum_POOOO_l0 a0 k (0 : Int) a0.clock) (fun x224 => (Option.bind (model_Model_each_POOOO_Model_vacuum_1_Q k (⟨⟨a0.c.Tasks, a0.c.Active, a0.c.Keys, a0.c.Depth, a0.c.TS, a0.c.KeyLen, a0.c.ValLen, a0.c.Fan⟩, a0.names, a0.many, a0.txs, a0.rows, a0.clock, x224⟩ : model_Model)) (fun t296 => some ((⟨(0 : Int), false, ([] : Str), ([] : List api_Pair)⟩ : api_Answer), t296)))))
set_option maxHeartbeats 2000000 in
theorem model_Model_vacuum_POOOO.mono {k : Nat} {a0 : model_Model} {a1 : Int} {a2 : Int} {a3 : api_Call} : OLe (model_Model_vacuum_POOOO k a0 a1 a2 a3) (model_Model_vacuum_POOOO (k + 1) a0 a1 a2 a3) := by
  unfold model_Model_vacuum_POOOO
  repeat' (first | with_reducible exact OLe.none | with_reducible exact OLe.some | with_reducible refine OLe.ite ?_ ?_ | with_reducible refine OLe.bind ?_ (fun _ => ?_) | with_reducible exact model_Model_each_POOOO_Model_vacuum_1_Q.mono | with_reducible exact model_Model_vacuum_POOOO_l0.mono | refine OLe.bind ?_ (fun _ => ?_) | refine OLe.ite ?_ ?_ | refine OLe.elim (fun _ => ?_) (fun _ => ?_) | split)
set_option maxHeartbeats 4000000 in
set_option maxRecDepth 100000 in
theorem model_Model_vacuum_POOOO.con (k : Nat) (M : Hp) (A0_8 : Option Addr) (c0_8 : Nat) (A0_9 : Option Addr) (c0_9 : Nat) (A0_10 : Option Addr) (c0_10 : Nat) (A0_11 : Option Addr) (c0_11 : Nat) (vs0_11 : List (Str × Value)) (a0 : model_Model) (a1 : Int) (a2 : Int) (a3 : api_Call) (bo0 : Nat) (r : api_Answer × model_Model) (hm0_11 : MRel r_model_row M a0.rows vs0_11) (h : model_Model_vacuum_POOOO k a0 a1 a2 a3 = some r) : Con Tryd.prog 99 #[pt bo0 0, .int .i64 a1, .int .i64 a2, .agg #[.int .u8 a3.Kind, .int .i64 a3.Tx, .string (bs a3.Key), .string (bs a3.End), .string (bs a3.Value), .int .i64 a3.Limit, .int .u8 a3.Engine]] M [B83 bo0 a0 A0_8 A0_9 A0_10 c0_10 A0_11, MapC enc_model_name (Value.int .i64) A0_8 a0.names, MapC (Value.int .i64) (Value.int .i64) A0_9 a0.many, Row r_model_tx 109 (.slice A0_10 a0.txs.length c0_10) a0.txs, MapC encS (fun v : Value => v) A0_11 vs0_11] (fun v M' Γ' => ∃ (Aq1 : Option Addr) (cq2 : Nat) (Aq4 : Option Addr) (cq5 : Nat) (Aq7 : Option Addr) (cq8 : Nat) (Aq10 : Option Addr) (cq11 : Nat) (Aq13 : Option Addr) (cq14 : Nat) (vsq16 : List (Str × Value)), v = .agg #[.int .i64 r.1.Err, .bool r.1.Found, .string (bs r.1.Value), .slice Aq1 r.1.Pairs.length cq2] ∧ MRel r_model_row M' r.2.rows vsq16 ∧ Γ' = [Row r_api_Pair 133 (.slice Aq1 r.1.Pairs.length cq2) r.1.Pairs, B83 bo0 r.2 Aq4 Aq7 Aq10 cq11 Aq13, MapC enc_model_name (Value.int .i64) Aq4 r.2.names, MapC (Value.int .i64) (Value.int .i64) Aq7 r.2.many, Row r_model_tx 109 (.slice Aq10 r.2.txs.length cq11) r.2.txs, MapC encS (fun v : Value => v) Aq13 vsq16]) := by
  refine con_of_wp Tryd.func99 rfl Tryd.ntmps99 Tryd.results99 rfl ?_
  intro w F rn S hrn
  have E := Ext.refl w
  have HM := Hp.le_refl M
  have H := h
  unfold model_Model_vacuum_POOOO at H
  refine Wp_seq (Wp_region_lit ?_)
  refine W_box S #[pt bo0 0] rfl rfl rfl ?_
  intro b1 w2 E' S
  replace E := E.trans E'
  refine W_box S #[.int .u8 a3.Kind, .int .i64 a3.Tx, .string (bs a3.Key), .string (bs a3.End), .string (bs a3.Value), .int .i64 a3.Limit, .int .u8 a3.Engine] rfl rfl rfl ?_
  intro b4 w5 E' S
  replace E := E.trans E'
  refine W_alloc S #[.int .i64 0, .bool false, .string (bs ([] : Str)), .slice none 0 0] ty36 rfl rfl ?_
  intro b7 w8 E' S
  replace E := E.trans E'
  refine Wl_nil (tn (Wp_seq ?_))
  refine Wp_region_any (S := fun w' => ∃ Mx, M.le Mx ∧ St w' Mx F [Blk b7 (.cells #[.int .i64 0, .bool false, .string (bs ([] : Str)), .slice none 0 0] 36 (0, 0)), B42 b4 a3, Blk b1 (.cells #[pt bo0 0] 54 (0, 0)), B83 bo0 a0 A0_8 A0_9 A0_10 c0_10 A0_11, MapC enc_model_name (Value.int .i64) A0_8 a0.names, MapC (Value.int .i64) (Value.int .i64) A0_9 a0.many, Row r_model_tx 109 (.slice A0_10 a0.txs.length c0_10) a0.txs, MapC encS (fun v : Value => v) A0_11 vs0_11]) (L := 7) mixed ?_
  intro w11 hw12 E'
  replace S := S.heap hw12
  replace E := E.trans E'
  have D1 : ∃ Mx, Hp.le M Mx ∧ St _ Mx F [_, _, _, _, _, _, _, _] := ⟨_, Hp.le_refl _, S.pick [0, 1, 2, 3, 4, 5, 6, 7] (by decide)⟩
  refine Wa_take (i := 0) rfl (by kernel_rfl) rfl rfl (pt bo0 0) rfl (fun w' h' => x_load (cls_blk h' 2 rfl) ty54 rfl rfl) D1 (Wa_take (i := 1) rfl (by kernel_rfl) rfl rfl (pt bo0 0) rfl (fun w' h' => x_load (cls_blk h' 2 rfl) ty54 rfl rfl) D1 (Wa_take (i := 2) rfl (by kernel_rfl) rfl rfl (pt bo0 0) rfl (fun w' h' => x_nilptr rfl) D1 (Wa_take (i := 3) rfl (by kernel_rfl) rfl rfl (pt bo0 12) rfl (fun w' h' => x_fieldAddr (o := 0) (off := 12) Tryd.underlying83 rfl ty3 rfl rfl) D1 (Wa_take (i := 4) rfl (by kernel_rfl) rfl rfl (.int .i64 a0.clock) rfl (fun w' h' => x_load (cls_blk h' 3 rfl) ty3 rfl rfl) D1 (Wa_take (i := 5) rfl (by kernel_rfl) rfl rfl (pt bo0 0) rfl (fun w' h' => x_nilptr rfl) D1 (Wa_take (i := 6) rfl (by kernel_rfl) rfl rfl (pt bo0 13) rfl (fun w' h' => x_fieldAddr (o := 0) (off := 13) Tryd.underlying83 rfl ty3 rfl rfl) D1 ?_))))))
  refine Wa_solo (i := 7) rfl (by kernel_rfl) ?_
  refine W_store S 3 rfl ty3 rfl rfl [.int .i64 a0.clock] rfl rfl rfl #[.int .i64 a0.c.Tasks, .int .i64 a0.c.Active, .int .i64 a0.c.Keys, .int .i64 a0.c.Depth, .int .i64 a0.c.TS, .int .i64 a0.c.KeyLen, .int .i64 a0.c.ValLen, .int .i64 a0.c.Fan, .map (mb A0_8), .map (mb A0_9), .slice A0_10 a0.txs.length c0_10, .map (mb A0_11), .int .i64 a0.clock, .int .i64 a0.clock] rfl rfl ?_
  intro w13 E' S
  replace E := E.trans E'
  refine Wl_nil (on_n ⟨.inl (by decide), ?_⟩)
  refine Wa_done (by kernel_rfl) ?_
  refine tn (Wp_seq (Wp_seq (Wp_region_lit (W_v (pt bo0 0) (x_load (S.blk 2 rfl) ty54 rfl rfl) rfl (W_v (pt bo0 0) (x_nilptr rfl) rfl (W_v (pt bo0 10) (x_fieldAddr (o := 0) (off := 10) Tryd.underlying83 rfl ty80 rfl rfl) rfl (W_v (.slice A0_10 a0.txs.length c0_10) (x_load (S.blk 3 rfl) ty80 rfl rfl) rfl (W_v (.int .i64 (a0.txs.length : Int)) (x_len_slice (n := a0.txs.length) Tryd.underlying80 rfl) rfl (W_v (.int .i64 0) (x_move rfl) rfl (Wl_nil (tn ?_)))))))))))
  obtain ⟨o225, o225h, o225H⟩ := bindS H
  refine Wp_blockJ (fun ρ w' => ∃ (x224 : Int), (x224) = o225 ∧ Agree ρ [(4, pt b1 0), (8, pt b7 0)] ∧ Ext w w' ∧ St w' M F [Blk b7 (.cells #[.int .i64 0, .bool false, .string (bs ([] : Str)), .slice none 0 0] 36 (0, 0)), Blk b1 (.cells #[pt bo0 0] 54 (0, 0)), Blk bo0 (.cells #[.int .i64 a0.c.Tasks, .int .i64 a0.c.Active, .int .i64 a0.c.Keys, .int .i64 a0.c.Depth, .int .i64 a0.c.TS, .int .i64 a0.c.KeyLen, .int .i64 a0.c.ValLen, .int .i64 a0.c.Fan, .map (mb A0_8), .map (mb A0_9), .slice A0_10 a0.txs.length c0_10, .map (mb A0_11), .int .i64 a0.clock, .int .i64 x224] 83 (0, 0)), MapC enc_model_name (Value.int .i64) A0_8 a0.names, MapC (Value.int .i64) (Value.int .i64) A0_9 a0.many, Row r_model_tx 109 (.slice A0_10 a0.txs.length c0_10) a0.txs, MapC encS (fun v : Value => v) A0_11 vs0_11]) ?_ ?_
  · skip
    refine Wp_loop (fun n ρ w' => ∃ (x154 : Int) (x155 : Int), model_Model_vacuum_POOOO_l0 a0 n x154 x155 = some o225 ∧ Agree ρ [(4, pt b1 0), (8, pt b7 0), (21, .slice A0_10 a0.txs.length c0_10), (22, .int .i64 (a0.txs.length : Int)), (23, .int .i64 x154)] ∧ Ext w w' ∧ St w' M F [Blk b7 (.cells #[.int .i64 0, .bool false, .string (bs ([] : Str)), .slice none 0 0] 36 (0, 0)), Blk b1 (.cells #[pt bo0 0] 54 (0, 0)), Blk bo0 (.cells #[.int .i64 a0.c.Tasks, .int .i64 a0.c.Active, .int .i64 a0.c.Keys, .int .i64 a0.c.Depth, .int .i64 a0.c.TS, .int .i64 a0.c.KeyLen, .int .i64 a0.c.ValLen, .int .i64 a0.c.Fan, .map (mb A0_8), .map (mb A0_9), .slice A0_10 a0.txs.length c0_10, .map (mb A0_11), .int .i64 a0.clock, .int .i64 x155] 83 (0, 0)), MapC enc_model_name (Value.int .i64) A0_8 a0.names, MapC (Value.int .i64) (Value.int .i64) A0_9 a0.many, Row r_model_tx 109 (.slice A0_10 a0.txs.length c0_10) a0.txs, MapC encS (fun v : Value => v) A0_11 vs0_11]) k ?_ ?_
    · skip
      exact ⟨(0 : Int), a0.clock, o225h, ⟨rfl, rfl, rfl, rfl, rfl, trivial⟩, E, S.pick [0, 2, 3, 4, 5, 6, 7] (by decide)⟩
    · intro n
      rintro ρ w226 ⟨x154, x155, H, hρ, E, S⟩
      rw [agree_eta hρ]
      cases n with
      | zero => cases H
      | succ k =>
        rw [model_Model_vacuum_POOOO_l0.eq_2] at H
        refine Wp_seq (Wp_region_lit (W_v (.bool (decide (x154 < (a0.txs.length : Int)))) (x_ibin rfl rfl rfl rfl) rfl (Wl_nil (tn (Wp_seq ?_)))))
        rcases iteS H with ⟨hb227, H⟩ | ⟨hb227, H⟩
        · refine Wp_cond_true (congrArg Value.bool hb227) ?_
          refine Wp_skip (tn (Wp_seq ?_))
          obtain ⟨o261, o261h, o261H⟩ := bindS H
          refine Wp_cut (fun ρ w' => ∃ (x260 : Int), (x260) = o261 ∧ Agree ρ [(4, pt b1 0), (8, pt b7 0), (21, .slice A0_10 a0.txs.length c0_10), (22, .int .i64 (a0.txs.length : Int)), (23, .int .i64 x154)] ∧ Ext w w' ∧ St w' M F [Blk b7 (.cells #[.int .i64 0, .bool false, .string (bs ([] : Str)), .slice none 0 0] 36 (0, 0)), Blk b1 (.cells #[pt bo0 0] 54 (0, 0)), Blk bo0 (.cells #[.int .i64 a0.c.Tasks, .int .i64 a0.c.Active, .int .i64 a0.c.Keys, .int .i64 a0.c.Depth, .int .i64 a0.c.TS, .int .i64 a0.c.KeyLen, .int .i64 a0.c.ValLen, .int .i64 a0.c.Fan, .map (mb A0_8), .map (mb A0_9), .slice A0_10 a0.txs.length c0_10, .map (mb A0_11), .int .i64 a0.clock, .int .i64 x260] 83 (0, 0)), MapC enc_model_name (Value.int .i64) A0_8 a0.names, MapC (Value.int .i64) (Value.int .i64) A0_9 a0.many, Row r_model_tx 109 (.slice A0_10 a0.txs.length c0_10) a0.txs, MapC encS (fun v : Value => v) A0_11 vs0_11]) ?_ ?_
          · as_aux_lemma =>
              clear o261H
              have H := o261h
              refine Wp_block ?_
              refine Wp_seq (Wp_region_lit ?_)
              obtain ⟨⟨p262, p263⟩, H⟩ := chkS H
              obtain ⟨b264, o265, cs266, _, _, ee271, hb267, vs268, hR269, hc270⟩ := SlW.at' (S.row_read 5 rfl) p262 p263
              obtain rfl : vs268 = _ := hR269
              refine W_v (.pointer (some ⟨b264, o265 + x154.toNat * 2, none⟩)) (x_indexAddr Tryd.underlying80 ty109 (slA ee271) rfl p262 p263) rfl (W_v (.agg #[.int .u8 ((rd a0.txs x154).state), .int .i64 ((rd a0.txs x154).snapshot)]) (x_loadA (Hp.of_get hb267) ty109 rfl (sub_el hc270 0 rfl) rfl rfl) rfl ?_)
              refine W_alloc S #[.int .u8 0, .int .i64 0] ty109 rfl rfl ?_
              intro b272 w273 E' S
              replace E := E.trans E'
              refine W_store S 0 rfl ty109 rfl rfl [.int .u8 ((rd a0.txs x154).state), .int .i64 ((rd a0.txs x154).snapshot)] rfl rfl rfl #[.int .u8 ((rd a0.txs x154).state), .int .i64 ((rd a0.txs x154).snapshot)] rfl rfl ?_
              intro w275 E' S
              replace E := E.trans E'
              refine Wl_nil (tn (Wp_seq (Wp_region_lit (W_v (pt b272 0) (x_fieldAddr (o := 0) (off := 0) Tryd.underlying109 rfl ty5 rfl rfl) rfl (W_v (.int .u8 ((rd a0.txs x154).state)) (x_load (S.blk 0 rfl) ty5 rfl rfl) rfl (W_v (.bool ((rd a0.txs x154).state == (1 : Int))) (x_ibin rfl rfl rfl rfl) rfl (Wl_nil (tn ?_))))))))
              obtain ⟨o287, o287h, o287H⟩ := bindS H
              refine Wp_cut (fun ρ w' => ∃ (x286 : Int), (x286) = o287 ∧ Agree ρ [(4, pt b1 0), (8, pt b7 0), (21, .slice A0_10 a0.txs.length c0_10), (22, .int .i64 (a0.txs.length : Int)), (23, .int .i64 x154)] ∧ Ext w w' ∧ St w' M F [Blk b7 (.cells #[.int .i64 0, .bool false, .string (bs ([] : Str)), .slice none 0 0] 36 (0, 0)), Blk b1 (.cells #[pt bo0 0] 54 (0, 0)), Blk bo0 (.cells #[.int .i64 a0.c.Tasks, .int .i64 a0.c.Active, .int .i64 a0.c.Keys, .int .i64 a0.c.Depth, .int .i64 a0.c.TS, .int .i64 a0.c.KeyLen, .int .i64 a0.c.ValLen, .int .i64 a0.c.Fan, .map (mb A0_8), .map (mb A0_9), .slice A0_10 a0.txs.length c0_10, .map (mb A0_11), .int .i64 a0.clock, .int .i64 x286] 83 (0, 0)), MapC enc_model_name (Value.int .i64) A0_8 a0.names, MapC (Value.int .i64) (Value.int .i64) A0_9 a0.many, Row r_model_tx 109 (.slice A0_10 a0.txs.length c0_10) a0.txs, MapC encS (fun v : Value => v) A0_11 vs0_11]) ?_ ?_
              · clear o287H
                have H := o287h
                rcases iteS H with ⟨hb288, H⟩ | ⟨hb288, H⟩
                · refine Wp_cond_true (congrArg Value.bool hb288) ?_
                  refine Wp_region_any (S := fun w' => ∃ Mx, M.le Mx ∧ St w' Mx F [Blk b272 (.cells #[.int .u8 ((rd a0.txs x154).state), .int .i64 ((rd a0.txs x154).snapshot)] 109 (0, 0)), Blk b7 (.cells #[.int .i64 0, .bool false, .string (bs ([] : Str)), .slice none 0 0] 36 (0, 0)), Blk b1 (.cells #[pt bo0 0] 54 (0, 0)), Blk bo0 (.cells #[.int .i64 a0.c.Tasks, .int .i64 a0.c.Active, .int .i64 a0.c.Keys, .int .i64 a0.c.Depth, .int .i64 a0.c.TS, .int .i64 a0.c.KeyLen, .int .i64 a0.c.ValLen, .int .i64 a0.c.Fan, .map (mb A0_8), .map (mb A0_9), .slice A0_10 a0.txs.length c0_10, .map (mb A0_11), .int .i64 a0.clock, .int .i64 x155] 83 (0, 0)), MapC enc_model_name (Value.int .i64) A0_8 a0.names, MapC (Value.int .i64) (Value.int .i64) A0_9 a0.many, Row r_model_tx 109 (.slice A0_10 a0.txs.length c0_10) a0.txs, MapC encS (fun v : Value => v) A0_11 vs0_11]) (L := 10) mixed ?_
                  intro w290 hw291 E'
                  replace S := S.heap hw291
                  replace E := E.trans E'
                  have D2 : ∃ Mx, Hp.le M Mx ∧ St _ Mx F [_, _, _, _, _, _, _, _] := ⟨_, Hp.le_refl _, S.pick [0, 1, 2, 3, 4, 5, 6, 7] (by decide)⟩
                  refine Wa_take (i := 0) rfl (by kernel_rfl) rfl rfl (pt bo0 0) rfl (fun w' h' => x_load (cls_blk h' 2 rfl) ty54 rfl rfl) D2 (Wa_take (i := 1) rfl (by kernel_rfl) rfl rfl (pt bo0 0) rfl (fun w' h' => x_load (cls_blk h' 2 rfl) ty54 rfl rfl) D2 (Wa_take (i := 2) rfl (by kernel_rfl) rfl rfl (pt bo0 0) rfl (fun w' h' => x_nilptr rfl) D2 (Wa_take (i := 3) rfl (by kernel_rfl) rfl rfl (pt bo0 13) rfl (fun w' h' => x_fieldAddr (o := 0) (off := 13) Tryd.underlying83 rfl ty3 rfl rfl) D2 (Wa_take (i := 4) rfl (by kernel_rfl) rfl rfl (.int .i64 x155) rfl (fun w' h' => x_load (cls_blk h' 3 rfl) ty3 rfl rfl) D2 (Wa_take (i := 5) rfl (by kernel_rfl) rfl rfl (pt b272 1) rfl (fun w' h' => x_fieldAddr (o := 0) (off := 1) Tryd.underlying109 rfl ty3 rfl rfl) D2 (Wa_take (i := 6) rfl (by kernel_rfl) rfl rfl (.int .i64 ((rd a0.txs x154).snapshot)) rfl (fun w' h' => x_load (cls_blk h' 0 rfl) ty3 rfl rfl) D2 (Wa_take (i := 7) rfl (by kernel_rfl) rfl rfl (.int .i64 (imin x155 ((rd a0.txs x154).snapshot))) rfl (fun w' h' => x_min2 rfl rfl) D2 (Wa_take (i := 8) rfl (by kernel_rfl) rfl rfl (pt bo0 0) rfl (fun w' h' => x_nilptr rfl) D2 (Wa_take (i := 9) rfl (by kernel_rfl) rfl rfl (pt bo0 13) rfl (fun w' h' => x_fieldAddr (o := 0) (off := 13) Tryd.underlying83 rfl ty3 rfl rfl) D2 ?_)))))))))
                  refine Wa_solo (i := 10) rfl (by kernel_rfl) ?_
                  refine W_store S 3 rfl ty3 rfl rfl [.int .i64 (imin x155 ((rd a0.txs x154).snapshot))] rfl rfl rfl #[.int .i64 a0.c.Tasks, .int .i64 a0.c.Active, .int .i64 a0.c.Keys, .int .i64 a0.c.Depth, .int .i64 a0.c.TS, .int .i64 a0.c.KeyLen, .int .i64 a0.c.ValLen, .int .i64 a0.c.Fan, .map (mb A0_8), .map (mb A0_9), .slice A0_10 a0.txs.length c0_10, .map (mb A0_11), .int .i64 a0.clock, .int .i64 (imin x155 ((rd a0.txs x154).snapshot))] rfl rfl ?_
                  intro w292 E' S
                  replace E := E.trans E'
                  refine Wl_nil (on_n ⟨.inl (by decide), ?_⟩)
                  refine Wa_done (by kernel_rfl) ?_
                  refine tn ?_
                  exact ⟨(imin x155 ((rd a0.txs x154).snapshot)), Option.some.inj H, ⟨rfl, rfl, rfl, rfl, rfl, trivial⟩, E, S.pick [1, 2, 3, 4, 5, 6, 7] (by decide)⟩
                refine Wp_cond_false (congrArg Value.bool hb288) (Wp_skip (tn ?_))
                exact ⟨x155, Option.some.inj H, ⟨rfl, rfl, rfl, rfl, rfl, trivial⟩, E, S.pick [1, 2, 3, 4, 5, 6, 7] (by decide)⟩
              rintro ρ w293 ⟨x286, rfl, hρ, E, S⟩
              rw [agree_eta hρ]
              have H := o287H
              refine bn (tn ?_)
              exact ⟨x286, Option.some.inj H, ⟨rfl, rfl, rfl, rfl, rfl, trivial⟩, E, S.pick [0, 1, 2, 3, 4, 5, 6] (by decide)⟩
          rintro ρ w294 ⟨x260, rfl, hρ, E, S⟩
          rw [agree_eta hρ]
          have H := o261H
          refine tn (Wp_region_lit (W_v (.int .i64 (IntKind.i64.wrap (x154 + (1 : Int)))) (x_ibin rfl rfl rfl rfl) rfl (W_v (.int .i64 (IntKind.i64.wrap (x154 + (1 : Int)))) (x_move rfl) rfl (Wl_nil (tn ?_)))))
          exact ⟨k, Nat.lt_succ_self k, ⟨(IntKind.i64.wrap (x154 + (1 : Int))), x260, H, ⟨rfl, rfl, rfl, rfl, rfl, trivial⟩, E, S.pick [0, 1, 2, 3, 4, 5, 6] (by decide)⟩⟩
        refine Wp_cond_false (congrArg Value.bool hb227) ?_
        refine Wp_exit ?_
        refine tx (tx (bsm (?_)))
        refine tn ?_
        exact ⟨x155, Option.some.inj H, ⟨rfl, rfl, trivial⟩, E, S.pick [0, 1, 2, 3, 4, 5, 6] (by decide)⟩
  rintro ρ w295 ⟨x224, rfl, hρ, E, S⟩
  rw [agree_eta hρ]
  have H := o225H
  refine tn ?_
  as_aux_lemma =>
  refine Wp_seq (Wp_region_lit (W_v (pt bo0 0) (x_load (S.blk 1 rfl) ty54 rfl rfl) rfl (W_v (.func (.func 106) #[] #[pt b1 0]) (x_makeFunc rfl) rfl ?_)))
  obtain ⟨t296, ht297, H⟩ := bindS H
  replace S : St w295 M F [_, _, _, _, _, _, _] := S.pick [2, 3, 4, 5, 6, 1, 0] (by decide)
  refine W_call fn105 (model_Model_each_POOOO_Model_vacuum_1_Q.con k M A0_8 c0_8 A0_9 c0_9 A0_10 c0_10 A0_11 c0_11 vs0_11 (⟨⟨a0.c.Tasks, a0.c.Active, a0.c.Keys, a0.c.Depth, a0.c.TS, a0.c.KeyLen, a0.c.ValLen, a0.c.Fan⟩, a0.names, a0.many, a0.txs, a0.rows, a0.clock, x224⟩ : model_Model) bo0 b1 t296 hm0_11 ht297) (Γ1 := [_, _, _, _, _, _]) (Γ2 := [_]) S rfl rfl ?_
  rintro _ w312 M313 Γ' hM314 E' S ⟨A298, c299, A301, c302, A304, c305, A307, c308, vs310, rfl, hm311, rfl⟩
  replace HM := Hp.le_trans HM hM314
  replace hm0_11 := MRel.mono hm0_11 hM314
  replace E := E.trans E'
  replace S : St w312 M313 F [_, _, _, _, _, _, _] := S
  refine Wl_nil (tn (Wp_seq (Wp_region_lit (W_v (.agg #[.int .i64 0, .bool false, .string (bs ([] : Str)), .slice none 0 0]) (x_build2 (pl := [(0, 1), (1, 1), (2, 1), (3, 1)]) #[.int .i64 0, .bool false, .string (bs ([] : Str)), .slice none 0 0] Tryd.underlying36 ty36 (by as_aux_lemma => kernel_rfl) rfl (by as_aux_lemma => kernel_rfl)) rfl ?_))))
  refine W_store S 6 rfl ty36 rfl rfl [.int .i64 0, .bool false, .string (bs ([] : Str)), .slice none 0 0] rfl rfl rfl #[.int .i64 0, .bool false, .string (bs ([] : Str)), .slice none 0 0] rfl rfl ?_
  intro w315 E' S
  replace E := E.trans E'
  refine Wl_nil (tn ?_)
  refine Wp_ret ?_
  obtain rfl := Option.some.inj H
  replace S := S.row_nil r_api_Pair 133
  exact ⟨_, _, _, fun w1 e1 => run_resR (vs := [.agg #[.int .i64 0, .bool false, .string (bs ([] : Str)), .slice none ([] : List api_Pair).length 0]]) (FA.cons (⟨_, rfl, run_loadVar_agg ty36 ((S.of_eq e1).blk 7 rfl) (sub_of_extract rfl) rfl (by decide)⟩) (FA.nil)), HM, E, S.pick [0, 1, 2, 3, 4, 5] (by decide), ⟨none, 0, A298, c299, A301, c302, A304, c305, A307, c308, vs310, rfl, hm311, rfl⟩⟩
def model_Model_migrate_POOOO (k : Nat) (a0 : model_Model) (a1 : Int) (a2 : Int) (a3 : api_Call) : Option (api_Answer) :=
  some (⟨(0 : Int), false, ([] : Str), ([] : List api_Pair)⟩ : api_Answer)
set_option maxHeartbeats 2000000 in
theorem model_Model_migrate_POOOO.mono {k : Nat} {a0 : model_Model} {a1 : Int} {a2 : Int} {a3 : api_Call} : OLe (model_Model_migrate_POOOO k a0 a1 a2 a3) (model_Model_migrate_POOOO (k + 1) a0 a1 a2 a3) := by
  unfold model_Model_migrate_POOOO
  repeat' (first | with_reducible exact OLe.none | with_reducible exact OLe.some | with_reducible refine OLe.ite ?_ ?_ | with_reducible refine OLe.bind ?_ (fun _ => ?_) | refine OLe.bind ?_ (fun _ => ?_) | refine OLe.ite ?_ ?_ | refine OLe.elim (fun _ => ?_) (fun _ => ?_) | split)
set_option maxHeartbeats 4000000 in
set_option maxRecDepth 100000 in
theorem model_Model_migrate_POOOO.con (k : Nat) (M : Hp) (A0_8 : Option Addr) (c0_8 : Nat) (A0_9 : Option Addr) (c0_9 : Nat) (A0_10 : Option Addr) (c0_10 : Nat) (A0_11 : Option Addr) (c0_11 : Nat) (vs0_11 : List (Str × Value)) (a0 : model_Model) (a1 : Int) (a2 : Int) (a3 : api_Call) (bo0 : Nat) (r : api_Answer) (hm0_11 : MRel r_model_row M a0.rows vs0_11) (h : model_Model_migrate_POOOO k a0 a1 a2 a3 = some r) : Con Tryd.prog 100 #[pt bo0 0, .int .i64 a1, .int .i64 a2, .agg #[.int .u8 a3.Kind, .int .i64 a3.Tx, .string (bs a3.Key), .string (bs a3.End), .string (bs a3.Value), .int .i64 a3.Limit, .int .u8 a3.Engine]] M [B83 bo0 a0 A0_8 A0_9 A0_10 c0_10 A0_11, MapC enc_model_name (Value.int .i64) A0_8 a0.names, MapC (Value.int .i64) (Value.int .i64) A0_9 a0.many, Row r_model_tx 109 (.slice A0_10 a0.txs.length c0_10) a0.txs, MapC encS (fun v : Value => v) A0_11 vs0_11] (fun v M' Γ' => ∃ (Aq1 : Option Addr) (cq2 : Nat), v = .agg #[.int .i64 r.Err, .bool r.Found, .string (bs r.Value), .slice Aq1 r.Pairs.length cq2] ∧ Γ' = [Row r_api_Pair 133 (.slice Aq1 r.Pairs.length cq2) r.Pairs, B83 bo0 a0 A0_8 A0_9 A0_10 c0_10 A0_11, MapC enc_model_name (Value.int .i64) A0_8 a0.names, MapC (Value.int .i64) (Value.int .i64) A0_9 a0.many, Row r_model_tx 109 (.slice A0_10 a0.txs.length c0_10) a0.txs, MapC encS (fun v : Value => v) A0_11 vs0_11]) := by
  refine con_of_wp Tryd.func100 rfl Tryd.ntmps100 Tryd.results100 rfl ?_
  intro w F rn S hrn
  have E := Ext.refl w
  have HM := Hp.le_refl M
  have H := h
  unfold model_Model_migrate_POOOO at H
  refine Wp_seq (Wp_region_lit ?_)
  refine W_box S #[.int .u8 a3.Kind, .int .i64 a3.Tx, .string (bs a3.Key), .string (bs a3.End), .string (bs a3.Value), .int .i64 a3.Limit, .int .u8 a3.Engine] rfl rfl rfl ?_
  intro b1 w2 E' S
  replace E := E.trans E'
  refine W_alloc S #[.int .i64 0, .bool false, .string (bs ([] : Str)), .slice none 0 0] ty36 rfl rfl ?_
  intro b4 w5 E' S
  replace E := E.trans E'
  refine Wl_nil (tn (Wp_seq (Wp_region_lit (W_v (.agg #[.int .i64 0, .bool false, .string (bs ([] : Str)), .slice none 0 0]) (x_build2 (pl := [(0, 1), (1, 1), (2, 1), (3, 1)]) #[.int .i64 0, .bool false, .string (bs ([] : Str)), .slice none 0 0] Tryd.underlying36 ty36 (by as_aux_lemma => kernel_rfl) rfl (by as_aux_lemma => kernel_rfl)) rfl ?_))))
  refine W_store S 0 rfl ty36 rfl rfl [.int .i64 0, .bool false, .string (bs ([] : Str)), .slice none 0 0] rfl rfl rfl #[.int .i64 0, .bool false, .string (bs ([] : Str)), .slice none 0 0] rfl rfl ?_
  intro w7 E' S
  replace E := E.trans E'
  refine Wl_nil (tn ?_)
  refine Wp_ret ?_
  obtain rfl := Option.some.inj H
  replace S := S.row_nil r_api_Pair 133
  exact ⟨_, _, _, fun w1 e1 => run_resR (vs := [.agg #[.int .i64 0, .bool false, .string (bs ([] : Str)), .slice none ([] : List api_Pair).length 0]]) (FA.cons (⟨_, rfl, run_loadVar_agg ty36 ((S.of_eq e1).blk 1 rfl) (sub_of_extract rfl) rfl (by decide)⟩) (FA.nil)), HM, E, S.pick [0, 3, 4, 5, 6, 7] (by decide), ⟨none, 0, rfl, rfl⟩⟩
def model_Model_Do_POOOO (k : Nat) (a0 : model_Model) (a1 : Int) (a2 : api_Call) : Option (api_Answer × model_Model) :=
  (Option.bind (model_Model_Refused_POOOO k a0 a1 a2) (fun t7 => (if (t7 != (0 : Int)) = true then some ((⟨t7, false, ([] : Str), ([] : List api_Pair)⟩ : api_Answer), a0) else (Option.bind (model_Model_Tx_POOOO k a0 a1 a2.Tx) (fun t15 => (if 0 ≤ a2.Kind ∧ a2.Kind < (10 : Int) then (if (a2.Kind == (1 : Int)) = true then (Option.bind (model_Model_begin_POOOO k a0 t15.1 a1 a2) (fun t206 => some (t206.1, t206.2))) else (if (a2.Kind == (2 : Int)) = true then (Option.bind (model_Model_get_POOOO k a0 t15.1 a1 a2) (fun t230 => some (t230, a0))) else (if (a2.Kind == (3 : Int)) = true then (Option.bind (model_Model_put_POOOO k a0 t15.1 a1 a2) (fun t240 => some (t240.1, t240.2))) else (if (a2.Kind == (4 : Int)) = true then (Option.bind (model_Model_del_POOOO k a0 t15.1 a1 a2) (fun t264 => some (t264.1, t264.2))) else (if (a2.Kind == (5 : Int)) = true then (Option.bind (model_Model_scan_POOOO k a0 t15.1 a1 a2) (fun t288 => some (t288, a0))) else (if (a2.Kind == (6 : Int)) = true then (Option.bind (model_Model_commit_POOOO k a0 t15.1 a1 a2) (fun t298 => some (t298.1, t298.2))) else (if (a2.Kind == (7 : Int)) = true then (Option.bind (model_Model_abort_POOOO k a0 t15.1 a1 a2) (fun t322 => some (t322.1, t322.2))) else (if (a2.Kind == (8 : Int)) = true then (Option.bind (model_Model_vacuum_POOOO k a0 t15.1 a1 a2) (fun t346 => some (t346.1, t346.2))) else (if (a2.Kind == (9 : Int)) = true then (Option.bind (model_Model_migrate_POOOO k a0 t15.1 a1 a2) (fun t370 => some (t370, a0))) else none))))))))) else none))))))
set_option maxHeartbeats 2000000 in
theorem model_Model_Do_POOOO.mono {k : Nat} {a0 : model_Model} {a1 : Int} {a2 : api_Call} : OLe (model_Model_Do_POOOO k a0 a1 a2) (model_Model_Do_POOOO (k + 1) a0 a1 a2) := by
  unfold model_Model_Do_POOOO
  repeat' (first | with_reducible exact OLe.none | with_reducible exact OLe.some | with_reducible refine OLe.ite ?_ ?_ | with_reducible refine OLe.bind ?_ (fun _ => ?_) | with_reducible exact model_Model_Refused_POOOO.mono | with_reducible exact model_Model_Tx_POOOO.mono | with_reducible exact model_Model_abort_POOOO.mono | with_reducible exact model_Model_begin_POOOO.mono | with_reducible exact model_Model_commit_POOOO.mono | with_reducible exact model_Model_del_POOOO.mono | with_reducible exact model_Model_get_POOOO.mono | with_reducible exact model_Model_migrate_POOOO.mono | with_reducible exact model_Model_put_POOOO.mono | with_reducible exact model_Model_scan_POOOO.mono | with_reducible exact model_Model_vacuum_POOOO.mono | refine OLe.bind ?_ (fun _ => ?_) | refine OLe.ite ?_ ?_ | refine OLe.elim (fun _ => ?_) (fun _ => ?_) | split)
set_option maxHeartbeats 4000000 in
set_option maxRecDepth 100000 in
theorem model_Model_Do_POOOO.con (k : Nat) (M : Hp) (A0_8 : Option Addr) (c0_8 : Nat) (A0_9 : Option Addr) (c0_9 : Nat) (A0_10 : Option Addr) (c0_10 : Nat) (A0_11 : Option Addr) (c0_11 : Nat) (vs0_11 : List (Str × Value)) (a0 : model_Model) (a1 : Int) (a2 : api_Call) (bo0 : Nat) (r : api_Answer × model_Model) (hm0_11 : MRel r_model_row M a0.rows vs0_11) (hg0 : ∃ gt fr, M 0 = some (.cells #[.nilFunc, .func (.func 92) #[] #[], .func (.func 93) #[] #[], .func (.func 94) #[] #[], .func (.func 95) #[] #[], .func (.func 96) #[] #[], .func (.func 97) #[] #[], .func (.func 98) #[] #[], .func (.func 99) #[] #[], .func (.func 100) #[] #[]] gt fr)) (hg1 : ∃ gt fr, M 1 = some (.cells #[.nilFunc, .func (.func 114) #[] #[], .func (.func 116) #[] #[], .func (.func 118) #[] #[]] gt fr)) (h : model_Model_Do_POOOO k a0 a1 a2 = some r) : Con Tryd.prog 24 #[pt bo0 0, .int .i64 a1, .agg #[.int .u8 a2.Kind, .int .i64 a2.Tx, .string (bs a2.Key), .string (bs a2.End), .string (bs a2.Value), .int .i64 a2.Limit, .int .u8 a2.Engine]] M [B83 bo0 a0 A0_8 A0_9 A0_10 c0_10 A0_11, MapC enc_model_name (Value.int .i64) A0_8 a0.names, MapC (Value.int .i64) (Value.int .i64) A0_9 a0.many, Row r_model_tx 109 (.slice A0_10 a0.txs.length c0_10) a0.txs, MapC encS (fun v : Value => v) A0_11 vs0_11] (fun v M' Γ' => ∃ (Aq1 : Option Addr) (cq2 : Nat) (Aq4 : Option Addr) (cq5 : Nat) (Aq7 : Option Addr) (cq8 : Nat) (Aq10 : Option Addr) (cq11 : Nat) (Aq13 : Option Addr) (cq14 : Nat) (vsq16 : List (Str × Value)), v = .agg #[.int .i64 r.1.Err, .bool r.1.Found, .string (bs r.1.Value), .slice Aq1 r.1.Pairs.length cq2] ∧ MRel r_model_row M' r.2.rows vsq16 ∧ Γ' = [Row r_api_Pair 133 (.slice Aq1 r.1.Pairs.length cq2) r.1.Pairs, B83 bo0 r.2 Aq4 Aq7 Aq10 cq11 Aq13, MapC enc_model_name (Value.int .i64) Aq4 r.2.names, MapC (Value.int .i64) (Value.int .i64) Aq7 r.2.many, Row r_model_tx 109 (.slice Aq10 r.2.txs.length cq11) r.2.txs, MapC encS (fun v : Value => v) Aq13 vsq16]) := by
  refine con_of_wp Tryd.func24 rfl Tryd.ntmps24 Tryd.results24 rfl ?_
  intro w F rn S hrn
  have E := Ext.refl w
  have HM := Hp.le_refl M
  have H := h
  unfold model_Model_Do_POOOO at H
  refine Wp_seq (Wp_region_lit ?_)
  refine W_box S #[.int .u8 a2.Kind, .int .i64 a2.Tx, .string (bs a2.Key), .string (bs a2.End), .string (bs a2.Value), .int .i64 a2.Limit, .int .u8 a2.Engine] rfl rfl rfl ?_
  intro b1 w2 E' S
  replace E := E.trans E'
  refine W_alloc S #[.int .i64 0, .bool false, .string (bs ([] : Str)), .slice none 0 0] ty36 rfl rfl ?_
  intro b4 w5 E' S
  replace E := E.trans E'
  refine Wl_nil (tn (Wp_seq (Wp_seq (Wp_region_lit (W_v (pt bo0 0) (x_move rfl) rfl (W_v (.int .i64 a1) (x_move rfl) rfl (W_v (.agg #[.int .u8 a2.Kind, .int .i64 a2.Tx, .string (bs a2.Key), .string (bs a2.End), .string (bs a2.Value), .int .i64 a2.Limit, .int .u8 a2.Engine]) (x_loadA (S.blk 1 rfl) ty42 rfl (sub_of_extract rfl) rfl rfl) rfl ?_)))))))
  obtain ⟨t7, ht8, H⟩ := bindS H
  replace S : St w5 M F [_, _, _, _, _, _, _] := S.pick [2, 3, 4, 5, 6, 0, 1] (by decide)
  refine W_callF2 fn29 (model_Model_Refused_POOOO.con k M A0_8 c0_8 A0_9 c0_9 A0_10 c0_10 A0_11 c0_11 vs0_11 a0 a1 a2 bo0 t7 hm0_11 ht8) (Γ1 := [_, _, _, _, _]) (Γ2 := [_, _]) S rfl rfl (by rintro _ _ _ ⟨rfl, rfl⟩; exact (flat_cons flat_blk (flat_cons flat_map (flat_cons flat_map (flat_cons (flat_row (fun _ _ _ _ h => h)) (flat_cons flat_map flat_nil)))))) ?_
  rintro _ w9 _ Γ' E' S ⟨rfl, rfl⟩
  replace E := E.trans E'
  replace S : St w9 M F [_, _, _, _, _, _, _] := S
  refine W_v (.int .i64 t7) (x_assign rfl) rfl (Wl_nil (tn (Wp_seq (Wp_region_lit (W_v (.int .i64 t7) (x_move rfl) rfl (W_v (.bool (t7 != (0 : Int))) (x_ibin rfl rfl rfl rfl) rfl (Wl_nil (tn ?_))))))))
  rcases iteS H with ⟨hb12, H⟩ | ⟨hb12, H⟩
  · refine Wp_cond_true (congrArg Value.bool hb12) ?_
    refine Wp_seq (Wp_region_lit (W_v (.int .i64 t7) (x_move rfl) rfl (W_v (.agg #[.int .i64 t7, .bool false, .string (bs ([] : Str)), .slice none 0 0]) (x_build2 (pl := [(0, 1), (1, 1), (2, 1), (3, 1)]) #[.int .i64 t7, .bool false, .string (bs ([] : Str)), .slice none 0 0] Tryd.underlying36 ty36 (by as_aux_lemma => kernel_rfl) rfl (by as_aux_lemma => kernel_rfl)) rfl ?_)))
    refine W_store S 5 rfl ty36 rfl rfl [.int .i64 t7, .bool false, .string (bs ([] : Str)), .slice none 0 0] rfl rfl rfl #[.int .i64 t7, .bool false, .string (bs ([] : Str)), .slice none 0 0] rfl rfl ?_
    intro w13 E' S
    replace E := E.trans E'
    refine Wl_nil (tn ?_)
    refine Wp_ret ?_
    refine tr (?_)
    obtain rfl := Option.some.inj H
    replace S := S.row_nil r_api_Pair 133
    exact ⟨_, _, _, fun w1 e1 => run_resR (vs := [.agg #[.int .i64 t7, .bool false, .string (bs ([] : Str)), .slice none ([] : List api_Pair).length 0]]) (FA.cons (⟨_, rfl, run_loadVar_agg ty36 ((S.of_eq e1).blk 6 rfl) (sub_of_extract rfl) rfl (by decide)⟩) (FA.nil)), HM, E, S.pick [0, 1, 2, 3, 4, 5] (by decide), ⟨none, 0, A0_8, c0_8, A0_9, c0_9, A0_10, c0_10, A0_11, c0_11, vs0_11, rfl, hm0_11, rfl⟩⟩
  refine Wp_cond_false (congrArg Value.bool hb12) (Wp_skip (tn ?_))
  as_aux_lemma =>
  refine Wp_seq (Wp_region_lit (W_v (pt bo0 0) (x_move rfl) rfl (W_v (.int .i64 a1) (x_move rfl) rfl (W_v (pt b1 1) (x_fieldAddr (o := 0) (off := 1) Tryd.underlying42 rfl ty3 rfl rfl) rfl (W_v (.int .i64 a2.Tx) (x_load (S.blk 6 rfl) ty3 rfl rfl) rfl ?_)))))
  obtain ⟨t15, ht16, H⟩ := bindS H
  refine W_callF2 fn30 (model_Model_Tx_POOOO.con k M A0_8 c0_8 A0_9 c0_9 A0_10 c0_10 A0_11 c0_11 vs0_11 a0 a1 a2.Tx bo0 t15 hm0_11 ht16) (Γ1 := [_, _, _, _, _]) (Γ2 := [_, _]) S rfl rfl (by rintro _ _ _ ⟨rfl, rfl⟩; exact (flat_cons flat_blk (flat_cons flat_map (flat_cons flat_map (flat_cons (flat_row (fun _ _ _ _ h => h)) (flat_cons flat_map flat_nil)))))) ?_
  rintro _ w17 _ Γ' E' S ⟨rfl, rfl⟩
  replace E := E.trans E'
  replace S : St w17 M F [_, _, _, _, _, _, _] := S
  refine W_v (.tuple #[.int .i64 t15.1, .int .u8 t15.2.1, .int .i64 t15.2.2]) (x_move rfl) rfl (W_v (.int .i64 t15.1) (x_extract rfl rfl) rfl (W_v (.int .u8 t15.2.1) (x_extract rfl rfl) rfl (W_v (.int .i64 t15.2.2) (x_extract rfl rfl) rfl (W_v (.int .i64 t15.1) (x_assign rfl) rfl (W_v (.int .u8 t15.2.1) (x_assign rfl) rfl (W_v (.int .i64 t15.2.2) (x_assign rfl) rfl (Wl_nil (tn (Wp_seq ?_)))))))))
  have LE198 := Hp.le_refl M
  refine Wp_region_any (S := fun w' => ∃ Mx, M.le Mx ∧ St w' Mx F [Blk b4 (.cells #[.int .i64 0, .bool false, .string (bs ([] : Str)), .slice none 0 0] 36 (0, 0)), B42 b1 a2]) (L := 9) mixed ?_
  intro w199 hw200 E'
  replace S := S.heap hw200
  replace E := E.trans E'
  have D1 : ∃ Mx, Hp.le M Mx ∧ St _ Mx F [_, _] := ⟨_, Hp.le_refl _, S.pick [5, 6] (by decide)⟩
  refine Wa_take (i := 0) rfl (by kernel_rfl) rfl rfl (pt b1 0) rfl (fun w' h' => x_fieldAddr (o := 0) (off := 0) Tryd.underlying42 rfl ty5 rfl rfl) D1 (Wa_take (i := 1) rfl (by kernel_rfl) rfl rfl (.int .u8 a2.Kind) rfl (fun w' h' => x_load (cls_blk h' 1 rfl) ty5 rfl rfl) D1 ?_)
  obtain ⟨⟨p201, p202⟩, H⟩ := chkS H
  refine Wa_take (i := 2) rfl (by kernel_rfl) rfl rfl (.pointer (some ⟨0, 0 + a2.Kind.toNat * 1, none⟩)) rfl (fun w' h' => x_indexArr Tryd.underlying96 ty95 rfl rfl p201 p202) D1 ?_
  obtain ⟨gtfr203, fr203, hgx204⟩ := hg0
  have hg0 : ∃ gt fr, _ := ⟨gtfr203, fr203, hgx204⟩
  rcases iteS H with ⟨hb205, H⟩ | ⟨hb205, H⟩
  · skip
    refine Wa_take (i := 3) rfl (by kernel_rfl) rfl rfl (.func (.func 92) #[] #[]) rfl (fun w' h' => x_load (cls_frz h' hgx204) ty95 rfl (by rw [show a2.Kind = (1 : Int) from eq_of_beq hb205]; rfl)) D1 (Wa_take (i := 4) rfl (by kernel_rfl) rfl rfl (pt bo0 0) rfl (fun w' h' => x_move rfl) D1 (Wa_take (i := 5) rfl (by kernel_rfl) rfl rfl (.int .i64 t15.1) rfl (fun w' h' => x_move rfl) D1 (Wa_take (i := 6) rfl (by kernel_rfl) rfl rfl (.int .i64 a1) rfl (fun w' h' => x_move rfl) D1 (Wa_take (i := 7) rfl (by kernel_rfl) rfl rfl (.agg #[.int .u8 a2.Kind, .int .i64 a2.Tx, .string (bs a2.Key), .string (bs a2.End), .string (bs a2.Value), .int .i64 a2.Limit, .int .u8 a2.Engine]) rfl (fun w' h' => x_loadA (cls_blk h' 1 rfl) ty42 rfl (sub_of_extract rfl) rfl rfl) D1 ?_))))
    refine Wa_solo (i := 8) rfl (by kernel_rfl) ?_
    obtain ⟨t206, ht207, H⟩ := bindS H
    refine W_callv (fs := []) (cap := []) fn92 rfl (model_Model_begin_POOOO.con k M A0_8 c0_8 A0_9 c0_9 A0_10 c0_10 A0_11 c0_11 vs0_11 a0 t15.1 a1 a2 bo0 t206 hm0_11 ht207) (Γ1 := [_, _, _, _, _]) (Γ2 := [_, _]) S rfl rfl ?_
    rintro _ w225 M226 Γ' hM227 E' S ⟨A208, c209, A211, c212, A214, c215, A217, c218, A220, c221, vs223, rfl, hm224, rfl⟩
    replace hg0 : ∃ gt fr, _ := (let ⟨gt, fr, h8⟩ := hg0; ⟨gt, fr, hM227 _ _ h8⟩)
    replace hg1 : ∃ gt fr, _ := (let ⟨gt, fr, h8⟩ := hg1; ⟨gt, fr, hM227 _ _ h8⟩)
    replace HM := Hp.le_trans HM hM227
    replace LE198 := Hp.le_trans LE198 hM227
    replace hm0_11 := MRel.mono hm0_11 hM227
    replace E := E.trans E'
    replace S : St w225 M226 F [_, _, _, _, _, _, _, _] := S
    refine Wl_nil (on_n ⟨.inr ⟨M226, LE198, (S.pick [6, 7] (by decide))⟩, ?_⟩)
    refine Wa_solo (i := 9) rfl (by kernel_rfl) ?_
    refine W_store S 6 rfl ty36 rfl rfl [.int .i64 t206.1.Err, .bool t206.1.Found, .string (bs t206.1.Value), .slice A208 t206.1.Pairs.length c209] rfl rfl rfl #[.int .i64 t206.1.Err, .bool t206.1.Found, .string (bs t206.1.Value), .slice A208 t206.1.Pairs.length c209] rfl rfl ?_
    intro w228 E' S
    replace E := E.trans E'
    refine Wl_nil (on_n ⟨.inl (by decide), ?_⟩)
    refine Wa_done (by kernel_rfl) ?_
    refine tn ?_
    refine Wp_ret ?_
    obtain rfl := Option.some.inj H
    exact ⟨_, _, _, fun w1 e1 => run_resR (vs := [.agg #[.int .i64 t206.1.Err, .bool t206.1.Found, .string (bs t206.1.Value), .slice A208 t206.1.Pairs.length c209]]) (FA.cons (⟨_, rfl, run_loadVar_agg ty36 ((S.of_eq e1).blk 6 rfl) (sub_of_extract rfl) rfl (by decide)⟩) (FA.nil)), HM, E, S.pick [0, 1, 2, 3, 4, 5] (by decide), ⟨A208, c209, A211, c212, A214, c215, A217, c218, A220, c221, vs223, rfl, hm224, rfl⟩⟩
  rcases iteS H with ⟨hb229, H⟩ | ⟨hb229, H⟩
  · skip
    have D2 : ∃ Mx, Hp.le M Mx ∧ St _ Mx F [_, _] := ⟨_, Hp.le_refl _, S.pick [5, 6] (by decide)⟩
    refine Wa_take (i := 3) rfl (by kernel_rfl) rfl rfl (.func (.func 93) #[] #[]) rfl (fun w' h' => x_load (cls_frz h' hgx204) ty95 rfl (by rw [show a2.Kind = (2 : Int) from eq_of_beq hb229]; rfl)) D2 (Wa_take (i := 4) rfl (by kernel_rfl) rfl rfl (pt bo0 0) rfl (fun w' h' => x_move rfl) D2 (Wa_take (i := 5) rfl (by kernel_rfl) rfl rfl (.int .i64 t15.1) rfl (fun w' h' => x_move rfl) D2 (Wa_take (i := 6) rfl (by kernel_rfl) rfl rfl (.int .i64 a1) rfl (fun w' h' => x_move rfl) D2 (Wa_take (i := 7) rfl (by kernel_rfl) rfl rfl (.agg #[.int .u8 a2.Kind, .int .i64 a2.Tx, .string (bs a2.Key), .string (bs a2.End), .string (bs a2.Value), .int .i64 a2.Limit, .int .u8 a2.Engine]) rfl (fun w' h' => x_loadA (cls_blk h' 1 rfl) ty42 rfl (sub_of_extract rfl) rfl rfl) D2 ?_))))
    refine Wa_solo (i := 8) rfl (by kernel_rfl) ?_
    obtain ⟨t230, ht231, H⟩ := bindS H
    refine W_callvF2 (fs := []) (cap := []) fn93 rfl (model_Model_get_POOOO.con k M A0_8 c0_8 A0_9 c0_9 A0_10 c0_10 A0_11 c0_11 vs0_11 a0 t15.1 a1 a2 bo0 t230 hm0_11 ht231) (Γ1 := [_, _, _, _, _]) (Γ2 := [_, _]) S rfl rfl (by rintro _ _ _ ⟨_, _, rfl, rfl⟩; exact (flat_cons (flat_row (fun _ _ _ _ h => h)) (flat_cons flat_blk (flat_cons flat_map (flat_cons flat_map (flat_cons (flat_row (fun _ _ _ _ h => h)) (flat_cons flat_map flat_nil))))))) ?_
    rintro _ w235 _ Γ' E' S ⟨A232, c233, rfl, rfl⟩
    replace E := E.trans E'
    replace S : St w235 M F [_, _, _, _, _, _, _, _] := S
    refine Wl_nil (on_n ⟨.inr ⟨M, Hp.le_refl M, (S.pick [6, 7] (by decide))⟩, ?_⟩)
    refine Wa_solo (i := 9) rfl (by kernel_rfl) ?_
    refine W_store S 6 rfl ty36 rfl rfl [.int .i64 t230.Err, .bool t230.Found, .string (bs t230.Value), .slice A232 t230.Pairs.length c233] rfl rfl rfl #[.int .i64 t230.Err, .bool t230.Found, .string (bs t230.Value), .slice A232 t230.Pairs.length c233] rfl rfl ?_
    intro w238 E' S
    replace E := E.trans E'
    refine Wl_nil (on_n ⟨.inl (by decide), ?_⟩)
    refine Wa_done (by kernel_rfl) ?_
    refine tn ?_
    refine Wp_ret ?_
    obtain rfl := Option.some.inj H
    exact ⟨_, _, _, fun w1 e1 => run_resR (vs := [.agg #[.int .i64 t230.Err, .bool t230.Found, .string (bs t230.Value), .slice A232 t230.Pairs.length c233]]) (FA.cons (⟨_, rfl, run_loadVar_agg ty36 ((S.of_eq e1).blk 6 rfl) (sub_of_extract rfl) rfl (by decide)⟩) (FA.nil)), HM, E, S.pick [0, 1, 2, 3, 4, 5] (by decide), ⟨A232, c233, A0_8, c0_8, A0_9, c0_9, A0_10, c0_10, A0_11, c0_11, vs0_11, rfl, hm0_11, rfl⟩⟩
  rcases iteS H with ⟨hb239, H⟩ | ⟨hb239, H⟩
  · skip
    have D3 : ∃ Mx, Hp.le M Mx ∧ St _ Mx F [_, _] := ⟨_, Hp.le_refl _, S.pick [5, 6] (by decide)⟩
    refine Wa_take (i := 3) rfl (by kernel_rfl) rfl rfl (.func (.func 94) #[] #[]) rfl (fun w' h' => x_load (cls_frz h' hgx204) ty95 rfl (by rw [show a2.Kind = (3 : Int) from eq_of_beq hb239]; rfl)) D3 (Wa_take (i := 4) rfl (by kernel_rfl) rfl rfl (pt bo0 0) rfl (fun w' h' => x_move rfl) D3 (Wa_take (i := 5) rfl (by kernel_rfl) rfl rfl (.int .i64 t15.1) rfl (fun w' h' => x_move rfl) D3 (Wa_take (i := 6) rfl (by kernel_rfl) rfl rfl (.int .i64 a1) rfl (fun w' h' => x_move rfl) D3 (Wa_take (i := 7) rfl (by kernel_rfl) rfl rfl (.agg #[.int .u8 a2.Kind, .int .i64 a2.Tx, .string (bs a2.Key), .string (bs a2.End), .string (bs a2.Value), .int .i64 a2.Limit, .int .u8 a2.Engine]) rfl (fun w' h' => x_loadA (cls_blk h' 1 rfl) ty42 rfl (sub_of_extract rfl) rfl rfl) D3 ?_))))
    refine Wa_solo (i := 8) rfl (by kernel_rfl) ?_
    obtain ⟨t240, ht241, H⟩ := bindS H
    refine W_callv (fs := []) (cap := []) fn94 rfl (model_Model_put_POOOO.con k M A0_8 c0_8 A0_9 c0_9 A0_10 c0_10 A0_11 c0_11 vs0_11 a0 t15.1 a1 a2 bo0 t240 hm0_11 ht241) (Γ1 := [_, _, _, _, _]) (Γ2 := [_, _]) S rfl rfl ?_
    rintro _ w259 M260 Γ' hM261 E' S ⟨A242, c243, A245, c246, A248, c249, A251, c252, A254, c255, vs257, rfl, hm258, rfl⟩
    replace hg0 : ∃ gt fr, _ := (let ⟨gt, fr, h8⟩ := hg0; ⟨gt, fr, hM261 _ _ h8⟩)
    replace hg1 : ∃ gt fr, _ := (let ⟨gt, fr, h8⟩ := hg1; ⟨gt, fr, hM261 _ _ h8⟩)
    replace HM := Hp.le_trans HM hM261
    replace LE198 := Hp.le_trans LE198 hM261
    replace hm0_11 := MRel.mono hm0_11 hM261
    replace E := E.trans E'
    replace S : St w259 M260 F [_, _, _, _, _, _, _, _] := S
    refine Wl_nil (on_n ⟨.inr ⟨M260, LE198, (S.pick [6, 7] (by decide))⟩, ?_⟩)
    refine Wa_solo (i := 9) rfl (by kernel_rfl) ?_
    refine W_store S 6 rfl ty36 rfl rfl [.int .i64 t240.1.Err, .bool t240.1.Found, .string (bs t240.1.Value), .slice A242 t240.1.Pairs.length c243] rfl rfl rfl #[.int .i64 t240.1.Err, .bool t240.1.Found, .string (bs t240.1.Value), .slice A242 t240.1.Pairs.length c243] rfl rfl ?_
    intro w262 E' S
    replace E := E.trans E'
    refine Wl_nil (on_n ⟨.inl (by decide), ?_⟩)
    refine Wa_done (by kernel_rfl) ?_
    refine tn ?_
    refine Wp_ret ?_
    obtain rfl := Option.some.inj H
    exact ⟨_, _, _, fun w1 e1 => run_resR (vs := [.agg #[.int .i64 t240.1.Err, .bool t240.1.Found, .string (bs t240.1.Value), .slice A242 t240.1.Pairs.length c243]]) (FA.cons (⟨_, rfl, run_loadVar_agg ty36 ((S.of_eq e1).blk 6 rfl) (sub_of_extract rfl) rfl (by decide)⟩) (FA.nil)), HM, E, S.pick [0, 1, 2, 3, 4, 5] (by decide), ⟨A242, c243, A245, c246, A248, c249, A251, c252, A254, c255, vs257, rfl, hm258, rfl⟩⟩
  rcases iteS H with ⟨hb263, H⟩ | ⟨hb263, H⟩
  · skip
    have D4 : ∃ Mx, Hp.le M Mx ∧ St _ Mx F [_, _] := ⟨_, Hp.le_refl _, S.pick [5, 6] (by decide)⟩
    refine Wa_take (i := 3) rfl (by kernel_rfl) rfl rfl (.func (.func 95) #[] #[]) rfl (fun w' h' => x_load (cls_frz h' hgx204) ty95 rfl (by rw [show a2.Kind = (4 : Int) from eq_of_beq hb263]; rfl)) D4 (Wa_take (i := 4) rfl (by kernel_rfl) rfl rfl (pt bo0 0) rfl (fun w' h' => x_move rfl) D4 (Wa_take (i := 5) rfl (by kernel_rfl) rfl rfl (.int .i64 t15.1) rfl (fun w' h' => x_move rfl) D4 (Wa_take (i := 6) rfl (by kernel_rfl) rfl rfl (.int .i64 a1) rfl (fun w' h' => x_move rfl) D4 (Wa_take (i := 7) rfl (by kernel_rfl) rfl rfl (.agg #[.int .u8 a2.Kind, .int .i64 a2.Tx, .string (bs a2.Key), .string (bs a2.End), .string (bs a2.Value), .int .i64 a2.Limit, .int .u8 a2.Engine]) rfl (fun w' h' => x_loadA (cls_blk h' 1 rfl) ty42 rfl (sub_of_extract rfl) rfl rfl) D4 ?_))))
    refine Wa_solo (i := 8) rfl (by kernel_rfl) ?_
    obtain ⟨t264, ht265, H⟩ := bindS H
    refine W_callv (fs := []) (cap := []) fn95 rfl (model_Model_del_POOOO.con k M A0_8 c0_8 A0_9 c0_9 A0_10 c0_10 A0_11 c0_11 vs0_11 a0 t15.1 a1 a2 bo0 t264 hm0_11 ht265) (Γ1 := [_, _, _, _, _]) (Γ2 := [_, _]) S rfl rfl ?_
    rintro _ w283 M284 Γ' hM285 E' S ⟨A266, c267, A269, c270, A272, c273, A275, c276, A278, c279, vs281, rfl, hm282, rfl⟩
    replace hg0 : ∃ gt fr, _ := (let ⟨gt, fr, h8⟩ := hg0; ⟨gt, fr, hM285 _ _ h8⟩)
    replace hg1 : ∃ gt fr, _ := (let ⟨gt, fr, h8⟩ := hg1; ⟨gt, fr, hM285 _ _ h8⟩)
    replace HM := Hp.le_trans HM hM285
    replace LE198 := Hp.le_trans LE198 hM285
    replace hm0_11 := MRel.mono hm0_11 hM285
    replace E := E.trans E'
    replace S : St w283 M284 F [_, _, _, _, _, _, _, _] := S
    refine Wl_nil (on_n ⟨.inr ⟨M284, LE198, (S.pick [6, 7] (by decide))⟩, ?_⟩)
    refine Wa_solo (i := 9) rfl (by kernel_rfl) ?_
    refine W_store S 6 rfl ty36 rfl rfl [.int .i64 t264.1.Err, .bool t264.1.Found, .string (bs t264.1.Value), .slice A266 t264.1.Pairs.length c267] rfl rfl rfl #[.int .i64 t264.1.Err, .bool t264.1.Found, .string (bs t264.1.Value), .slice A266 t264.1.Pairs.length c267] rfl rfl ?_
    intro w286 E' S
    replace E := E.trans E'
    refine Wl_nil (on_n ⟨.inl (by decide), ?_⟩)
    refine Wa_done (by kernel_rfl) ?_
    refine tn ?_
    refine Wp_ret ?_
    obtain rfl := Option.some.inj H
    exact ⟨_, _, _, fun w1 e1 => run_resR (vs := [.agg #[.int .i64 t264.1.Err, .bool t264.1.Found, .string (bs t264.1.Value), .slice A266 t264.1.Pairs.length c267]]) (FA.cons (⟨_, rfl, run_loadVar_agg ty36 ((S.of_eq e1).blk 6 rfl) (sub_of_extract rfl) rfl (by decide)⟩) (FA.nil)), HM, E, S.pick [0, 1, 2, 3, 4, 5] (by decide), ⟨A266, c267, A269, c270, A272, c273, A275, c276, A278, c279, vs281, rfl, hm282, rfl⟩⟩
  rcases iteS H with ⟨hb287, H⟩ | ⟨hb287, H⟩
  · skip
    have D5 : ∃ Mx, Hp.le M Mx ∧ St _ Mx F [_, _] := ⟨_, Hp.le_refl _, S.pick [5, 6] (by decide)⟩
    refine Wa_take (i := 3) rfl (by kernel_rfl) rfl rfl (.func (.func 96) #[] #[]) rfl (fun w' h' => x_load (cls_frz h' hgx204) ty95 rfl (by rw [show a2.Kind = (5 : Int) from eq_of_beq hb287]; rfl)) D5 (Wa_take (i := 4) rfl (by kernel_rfl) rfl rfl (pt bo0 0) rfl (fun w' h' => x_move rfl) D5 (Wa_take (i := 5) rfl (by kernel_rfl) rfl rfl (.int .i64 t15.1) rfl (fun w' h' => x_move rfl) D5 (Wa_take (i := 6) rfl (by kernel_rfl) rfl rfl (.int .i64 a1) rfl (fun w' h' => x_move rfl) D5 (Wa_take (i := 7) rfl (by kernel_rfl) rfl rfl (.agg #[.int .u8 a2.Kind, .int .i64 a2.Tx, .string (bs a2.Key), .string (bs a2.End), .string (bs a2.Value), .int .i64 a2.Limit, .int .u8 a2.Engine]) rfl (fun w' h' => x_loadA (cls_blk h' 1 rfl) ty42 rfl (sub_of_extract rfl) rfl rfl) D5 ?_))))
    refine Wa_solo (i := 8) rfl (by kernel_rfl) ?_
    obtain ⟨t288, ht289, H⟩ := bindS H
    refine W_callvF2 (fs := []) (cap := []) fn96 rfl (model_Model_scan_POOOO.con k M A0_8 c0_8 A0_9 c0_9 A0_10 c0_10 A0_11 c0_11 vs0_11 a0 t15.1 a1 a2 bo0 t288 hm0_11 ht289) (Γ1 := [_, _, _, _, _]) (Γ2 := [_, _]) S rfl rfl (by rintro _ _ _ ⟨_, _, rfl, rfl⟩; exact (flat_cons (flat_row (fun _ _ _ _ h => h)) (flat_cons flat_blk (flat_cons flat_map (flat_cons flat_map (flat_cons (flat_row (fun _ _ _ _ h => h)) (flat_cons flat_map flat_nil))))))) ?_
    rintro _ w293 _ Γ' E' S ⟨A290, c291, rfl, rfl⟩
    replace E := E.trans E'
    replace S : St w293 M F [_, _, _, _, _, _, _, _] := S
    refine Wl_nil (on_n ⟨.inr ⟨M, Hp.le_refl M, (S.pick [6, 7] (by decide))⟩, ?_⟩)
    refine Wa_solo (i := 9) rfl (by kernel_rfl) ?_
    refine W_store S 6 rfl ty36 rfl rfl [.int .i64 t288.Err, .bool t288.Found, .string (bs t288.Value), .slice A290 t288.Pairs.length c291] rfl rfl rfl #[.int .i64 t288.Err, .bool t288.Found, .string (bs t288.Value), .slice A290 t288.Pairs.length c291] rfl rfl ?_
    intro w296 E' S
    replace E := E.trans E'
    refine Wl_nil (on_n ⟨.inl (by decide), ?_⟩)
    refine Wa_done (by kernel_rfl) ?_
    refine tn ?_
    refine Wp_ret ?_
    obtain rfl := Option.some.inj H
    exact ⟨_, _, _, fun w1 e1 => run_resR (vs := [.agg #[.int .i64 t288.Err, .bool t288.Found, .string (bs t288.Value), .slice A290 t288.Pairs.length c291]]) (FA.cons (⟨_, rfl, run_loadVar_agg ty36 ((S.of_eq e1).blk 6 rfl) (sub_of_extract rfl) rfl (by decide)⟩) (FA.nil)), HM, E, S.pick [0, 1, 2, 3, 4, 5] (by decide), ⟨A290, c291, A0_8, c0_8, A0_9, c0_9, A0_10, c0_10, A0_11, c0_11, vs0_11, rfl, hm0_11, rfl⟩⟩
  rcases iteS H with ⟨hb297, H⟩ | ⟨hb297, H⟩
  · skip
    have D6 : ∃ Mx, Hp.le M Mx ∧ St _ Mx F [_, _] := ⟨_, Hp.le_refl _, S.pick [5, 6] (by decide)⟩
    refine Wa_take (i := 3) rfl (by kernel_rfl) rfl rfl (.func (.func 97) #[] #[]) rfl (fun w' h' => x_load (cls_frz h' hgx204) ty95 rfl (by rw [show a2.Kind = (6 : Int) from eq_of_beq hb297]; rfl)) D6 (Wa_take (i := 4) rfl (by kernel_rfl) rfl rfl (pt bo0 0) rfl (fun w' h' => x_move rfl) D6 (Wa_take (i := 5) rfl (by kernel_rfl) rfl rfl (.int .i64 t15.1) rfl (fun w' h' => x_move rfl) D6 (Wa_take (i := 6) rfl (by kernel_rfl) rfl rfl (.int .i64 a1) rfl (fun w' h' => x_move rfl) D6 (Wa_take (i := 7) rfl (by kernel_rfl) rfl rfl (.agg #[.int .u8 a2.Kind, .int .i64 a2.Tx, .string (bs a2.Key), .string (bs a2.End), .string (bs a2.Value), .int .i64 a2.Limit, .int .u8 a2.Engine]) rfl (fun w' h' => x_loadA (cls_blk h' 1 rfl) ty42 rfl (sub_of_extract rfl) rfl rfl) D6 ?_))))
    refine Wa_solo (i := 8) rfl (by kernel_rfl) ?_
    obtain ⟨t298, ht299, H⟩ := bindS H
    refine W_callv (fs := []) (cap := []) fn97 rfl (model_Model_commit_POOOO.con k M A0_8 c0_8 A0_9 c0_9 A0_10 c0_10 A0_11 c0_11 vs0_11 a0 t15.1 a1 a2 bo0 t298 hm0_11 ht299) (Γ1 := [_, _, _, _, _]) (Γ2 := [_, _]) S rfl rfl ?_
    rintro _ w317 M318 Γ' hM319 E' S ⟨A300, c301, A303, c304, A306, c307, A309, c310, A312, c313, vs315, rfl, hm316, rfl⟩
    replace hg0 : ∃ gt fr, _ := (let ⟨gt, fr, h8⟩ := hg0; ⟨gt, fr, hM319 _ _ h8⟩)
    replace hg1 : ∃ gt fr, _ := (let ⟨gt, fr, h8⟩ := hg1; ⟨gt, fr, hM319 _ _ h8⟩)
    replace HM := Hp.le_trans HM hM319
    replace LE198 := Hp.le_trans LE198 hM319
    replace hm0_11 := MRel.mono hm0_11 hM319
    replace E := E.trans E'
    replace S : St w317 M318 F [_, _, _, _, _, _, _, _] := S
    refine Wl_nil (on_n ⟨.inr ⟨M318, LE198, (S.pick [6, 7] (by decide))⟩, ?_⟩)
    refine Wa_solo (i := 9) rfl (by kernel_rfl) ?_
    refine W_store S 6 rfl ty36 rfl rfl [.int .i64 t298.1.Err, .bool t298.1.Found, .string (bs t298.1.Value), .slice A300 t298.1.Pairs.length c301] rfl rfl rfl #[.int .i64 t298.1.Err, .bool t298.1.Found, .string (bs t298.1.Value), .slice A300 t298.1.Pairs.length c301] rfl rfl ?_
    intro w320 E' S
    replace E := E.trans E'
    refine Wl_nil (on_n ⟨.inl (by decide), ?_⟩)
    refine Wa_done (by kernel_rfl) ?_
    refine tn ?_
    refine Wp_ret ?_
    obtain rfl := Option.some.inj H
    exact ⟨_, _, _, fun w1 e1 => run_resR (vs := [.agg #[.int .i64 t298.1.Err, .bool t298.1.Found, .string (bs t298.1.Value), .slice A300 t298.1.Pairs.length c301]]) (FA.cons (⟨_, rfl, run_loadVar_agg ty36 ((S.of_eq e1).blk 6 rfl) (sub_of_extract rfl) rfl (by decide)⟩) (FA.nil)), HM, E, S.pick [0, 1, 2, 3, 4, 5] (by decide), ⟨A300, c301, A303, c304, A306, c307, A309, c310, A312, c313, vs315, rfl, hm316, rfl⟩⟩
  rcases iteS H with ⟨hb321, H⟩ | ⟨hb321, H⟩
  · skip
    have D7 : ∃ Mx, Hp.le M Mx ∧ St _ Mx F [_, _] := ⟨_, Hp.le_refl _, S.pick [5, 6] (by decide)⟩
    refine Wa_take (i := 3) rfl (by kernel_rfl) rfl rfl (.func (.func 98) #[] #[]) rfl (fun w' h' => x_load (cls_frz h' hgx204) ty95 rfl (by rw [show a2.Kind = (7 : Int) from eq_of_beq hb321]; rfl)) D7 (Wa_take (i := 4) rfl (by kernel_rfl) rfl rfl (pt bo0 0) rfl (fun w' h' => x_move rfl) D7 (Wa_take (i := 5) rfl (by kernel_rfl) rfl rfl (.int .i64 t15.1) rfl (fun w' h' => x_move rfl) D7 (Wa_take (i := 6) rfl (by kernel_rfl) rfl rfl (.int .i64 a1) rfl (fun w' h' => x_move rfl) D7 (Wa_take (i := 7) rfl (by kernel_rfl) rfl rfl (.agg #[.int .u8 a2.Kind, .int .i64 a2.Tx, .string (bs a2.Key), .string (bs a2.End), .string (bs a2.Value), .int .i64 a2.Limit, .int .u8 a2.Engine]) rfl (fun w' h' => x_loadA (cls_blk h' 1 rfl) ty42 rfl (sub_of_extract rfl) rfl rfl) D7 ?_))))
    refine Wa_solo (i := 8) rfl (by kernel_rfl) ?_
    obtain ⟨t322, ht323, H⟩ := bindS H
    refine W_callv (fs := []) (cap := []) fn98 rfl (model_Model_abort_POOOO.con k M A0_8 c0_8 A0_9 c0_9 A0_10 c0_10 A0_11 c0_11 vs0_11 a0 t15.1 a1 a2 bo0 t322 hm0_11 ht323) (Γ1 := [_, _, _, _, _]) (Γ2 := [_, _]) S rfl rfl ?_
    rintro _ w341 M342 Γ' hM343 E' S ⟨A324, c325, A327, c328, A330, c331, A333, c334, A336, c337, vs339, rfl, hm340, rfl⟩
    replace hg0 : ∃ gt fr, _ := (let ⟨gt, fr, h8⟩ := hg0; ⟨gt, fr, hM343 _ _ h8⟩)
    replace hg1 : ∃ gt fr, _ := (let ⟨gt, fr, h8⟩ := hg1; ⟨gt, fr, hM343 _ _ h8⟩)
    replace HM := Hp.le_trans HM hM343
    replace LE198 := Hp.le_trans LE198 hM343
    replace hm0_11 := MRel.mono hm0_11 hM343
    replace E := E.trans E'
    replace S : St w341 M342 F [_, _, _, _, _, _, _, _] := S
    refine Wl_nil (on_n ⟨.inr ⟨M342, LE198, (S.pick [6, 7] (by decide))⟩, ?_⟩)
    refine Wa_solo (i := 9) rfl (by kernel_rfl) ?_
    refine W_store S 6 rfl ty36 rfl rfl [.int .i64 t322.1.Err, .bool t322.1.Found, .string (bs t322.1.Value), .slice A324 t322.1.Pairs.length c325] rfl rfl rfl #[.int .i64 t322.1.Err, .bool t322.1.Found, .string (bs t322.1.Value), .slice A324 t322.1.Pairs.length c325] rfl rfl ?_
    intro w344 E' S
    replace E := E.trans E'
    refine Wl_nil (on_n ⟨.inl (by decide), ?_⟩)
    refine Wa_done (by kernel_rfl) ?_
    refine tn ?_
    refine Wp_ret ?_
    obtain rfl := Option.some.inj H
    exact ⟨_, _, _, fun w1 e1 => run_resR (vs := [.agg #[.int .i64 t322.1.Err, .bool t322.1.Found, .string (bs t322.1.Value), .slice A324 t322.1.Pairs.length c325]]) (FA.cons (⟨_, rfl, run_loadVar_agg ty36 ((S.of_eq e1).blk 6 rfl) (sub_of_extract rfl) rfl (by decide)⟩) (FA.nil)), HM, E, S.pick [0, 1, 2, 3, 4, 5] (by decide), ⟨A324, c325, A327, c328, A330, c331, A333, c334, A336, c337, vs339, rfl, hm340, rfl⟩⟩
  rcases iteS H with ⟨hb345, H⟩ | ⟨hb345, H⟩
  · skip
    have D8 : ∃ Mx, Hp.le M Mx ∧ St _ Mx F [_, _] := ⟨_, Hp.le_refl _, S.pick [5, 6] (by decide)⟩
    refine Wa_take (i := 3) rfl (by kernel_rfl) rfl rfl (.func (.func 99) #[] #[]) rfl (fun w' h' => x_load (cls_frz h' hgx204) ty95 rfl (by rw [show a2.Kind = (8 : Int) from eq_of_beq hb345]; rfl)) D8 (Wa_take (i := 4) rfl (by kernel_rfl) rfl rfl (pt bo0 0) rfl (fun w' h' => x_move rfl) D8 (Wa_take (i := 5) rfl (by kernel_rfl) rfl rfl (.int .i64 t15.1) rfl (fun w' h' => x_move rfl) D8 (Wa_take (i := 6) rfl (by kernel_rfl) rfl rfl (.int .i64 a1) rfl (fun w' h' => x_move rfl) D8 (Wa_take (i := 7) rfl (by kernel_rfl) rfl rfl (.agg #[.int .u8 a2.Kind, .int .i64 a2.Tx, .string (bs a2.Key), .string (bs a2.End), .string (bs a2.Value), .int .i64 a2.Limit, .int .u8 a2.Engine]) rfl (fun w' h' => x_loadA (cls_blk h' 1 rfl) ty42 rfl (sub_of_extract rfl) rfl rfl) D8 ?_))))
    refine Wa_solo (i := 8) rfl (by kernel_rfl) ?_
    obtain ⟨t346, ht347, H⟩ := bindS H
    refine W_callv (fs := []) (cap := []) fn99 rfl (model_Model_vacuum_POOOO.con k M A0_8 c0_8 A0_9 c0_9 A0_10 c0_10 A0_11 c0_11 vs0_11 a0 t15.1 a1 a2 bo0 t346 hm0_11 ht347) (Γ1 := [_, _, _, _, _]) (Γ2 := [_, _]) S rfl rfl ?_
    rintro _ w365 M366 Γ' hM367 E' S ⟨A348, c349, A351, c352, A354, c355, A357, c358, A360, c361, vs363, rfl, hm364, rfl⟩
    replace hg0 : ∃ gt fr, _ := (let ⟨gt, fr, h8⟩ := hg0; ⟨gt, fr, hM367 _ _ h8⟩)
    replace hg1 : ∃ gt fr, _ := (let ⟨gt, fr, h8⟩ := hg1; ⟨gt, fr, hM367 _ _ h8⟩)
    replace HM := Hp.le_trans HM hM367
    replace LE198 := Hp.le_trans LE198 hM367
    replace hm0_11 := MRel.mono hm0_11 hM367
    replace E := E.trans E'
    replace S : St w365 M366 F [_, _, _, _, _, _, _, _] := S
    refine Wl_nil (on_n ⟨.inr ⟨M366, LE198, (S.pick [6, 7] (by decide))⟩, ?_⟩)
    refine Wa_solo (i := 9) rfl (by kernel_rfl) ?_
    refine W_store S 6 rfl ty36 rfl rfl [.int .i64 t346.1.Err, .bool t346.1.Found, .string (bs t346.1.Value), .slice A348 t346.1.Pairs.length c349] rfl rfl rfl #[.int .i64 t346.1.Err, .bool t346.1.Found, .string (bs t346.1.Value), .slice A348 t346.1.Pairs.length c349] rfl rfl ?_
    intro w368 E' S
    replace E := E.trans E'
    refine Wl_nil (on_n ⟨.inl (by decide), ?_⟩)
    refine Wa_done (by kernel_rfl) ?_
    refine tn ?_
    refine Wp_ret ?_
    obtain rfl := Option.some.inj H
    exact ⟨_, _, _, fun w1 e1 => run_resR (vs := [.agg #[.int .i64 t346.1.Err, .bool t346.1.Found, .string (bs t346.1.Value), .slice A348 t346.1.Pairs.length c349]]) (FA.cons (⟨_, rfl, run_loadVar_agg ty36 ((S.of_eq e1).blk 6 rfl) (sub_of_extract rfl) rfl (by decide)⟩) (FA.nil)), HM, E, S.pick [0, 1, 2, 3, 4, 5] (by decide), ⟨A348, c349, A351, c352, A354, c355, A357, c358, A360, c361, vs363, rfl, hm364, rfl⟩⟩
  rcases iteS H with ⟨hb369, H⟩ | ⟨hb369, H⟩
  · skip
    have D9 : ∃ Mx, Hp.le M Mx ∧ St _ Mx F [_, _] := ⟨_, Hp.le_refl _, S.pick [5, 6] (by decide)⟩
    refine Wa_take (i := 3) rfl (by kernel_rfl) rfl rfl (.func (.func 100) #[] #[]) rfl (fun w' h' => x_load (cls_frz h' hgx204) ty95 rfl (by rw [show a2.Kind = (9 : Int) from eq_of_beq hb369]; rfl)) D9 (Wa_take (i := 4) rfl (by kernel_rfl) rfl rfl (pt bo0 0) rfl (fun w' h' => x_move rfl) D9 (Wa_take (i := 5) rfl (by kernel_rfl) rfl rfl (.int .i64 t15.1) rfl (fun w' h' => x_move rfl) D9 (Wa_take (i := 6) rfl (by kernel_rfl) rfl rfl (.int .i64 a1) rfl (fun w' h' => x_move rfl) D9 (Wa_take (i := 7) rfl (by kernel_rfl) rfl rfl (.agg #[.int .u8 a2.Kind, .int .i64 a2.Tx, .string (bs a2.Key), .string (bs a2.End), .string (bs a2.Value), .int .i64 a2.Limit, .int .u8 a2.Engine]) rfl (fun w' h' => x_loadA (cls_blk h' 1 rfl) ty42 rfl (sub_of_extract rfl) rfl rfl) D9 ?_))))
    refine Wa_solo (i := 8) rfl (by kernel_rfl) ?_
    obtain ⟨t370, ht371, H⟩ := bindS H
    refine W_callvF2 (fs := []) (cap := []) fn100 rfl (model_Model_migrate_POOOO.con k M A0_8 c0_8 A0_9 c0_9 A0_10 c0_10 A0_11 c0_11 vs0_11 a0 t15.1 a1 a2 bo0 t370 hm0_11 ht371) (Γ1 := [_, _, _, _, _]) (Γ2 := [_, _]) S rfl rfl (by rintro _ _ _ ⟨_, _, rfl, rfl⟩; exact (flat_cons (flat_row (fun _ _ _ _ h => h)) (flat_cons flat_blk (flat_cons flat_map (flat_cons flat_map (flat_cons (flat_row (fun _ _ _ _ h => h)) (flat_cons flat_map flat_nil))))))) ?_
    rintro _ w375 _ Γ' E' S ⟨A372, c373, rfl, rfl⟩
    replace E := E.trans E'
    replace S : St w375 M F [_, _, _, _, _, _, _, _] := S
    refine Wl_nil (on_n ⟨.inr ⟨M, Hp.le_refl M, (S.pick [6, 7] (by decide))⟩, ?_⟩)
    refine Wa_solo (i := 9) rfl (by kernel_rfl) ?_
    refine W_store S 6 rfl ty36 rfl rfl [.int .i64 t370.Err, .bool t370.Found, .string (bs t370.Value), .slice A372 t370.Pairs.length c373] rfl rfl rfl #[.int .i64 t370.Err, .bool t370.Found, .string (bs t370.Value), .slice A372 t370.Pairs.length c373] rfl rfl ?_
    intro w378 E' S
    replace E := E.trans E'
    refine Wl_nil (on_n ⟨.inl (by decide), ?_⟩)
    refine Wa_done (by kernel_rfl) ?_
    refine tn ?_
    refine Wp_ret ?_
    obtain rfl := Option.some.inj H
    exact ⟨_, _, _, fun w1 e1 => run_resR (vs := [.agg #[.int .i64 t370.Err, .bool t370.Found, .string (bs t370.Value), .slice A372 t370.Pairs.length c373]]) (FA.cons (⟨_, rfl, run_loadVar_agg ty36 ((S.of_eq e1).blk 6 rfl) (sub_of_extract rfl) rfl (by decide)⟩) (FA.nil)), HM, E, S.pick [0, 1, 2, 3, 4, 5] (by decide), ⟨A372, c373, A0_8, c0_8, A0_9, c0_9, A0_10, c0_10, A0_11, c0_11, vs0_11, rfl, hm0_11, rfl⟩⟩
  cases H
def replay_run_step_PRpoo_poooo_OO (k : Nat) (a0 : replay_run) (a1 : Int) (a2 : api_Event) : Option (Int × replay_run) :=
  (Option.bind (replay_run_call_PRpoo_poooo_OO k a0 a2) (fun t4 => (Option.bind (α := Bool) (if (((!t4.2) || (decide (a2.What < (1 : Int)))) || (decide (a2.What > (3 : Int)))) = true then some (true) else (Option.bind (α := Bool) (if (a2.What != (3 : Int)) = true then (Option.bind (model_Same k a2.Answer (⟨(0 : Int), false, ([] : Str), ([] : (List api_Pair))⟩ : api_Answer)) (fun t53 => some ((!t53)))) else some (false)) (fun x51 => some (x51)))) (fun x42 => (if x42 = true then some ((4 : Int), a0) else (Option.bind (event_Recorder_Under_POO k a0.r a2.Task) (fun t67 => (Option.bind (α := Bool × List event_task × List api_Event) (if ((a2.What != (1 : Int)) && ((!t67.2.2) || (t67.1 != a2.Call))) = true then some (true, a0.r.tasks, a0.r.l) else (if 0 ≤ a2.What ∧ a2.What < (4 : Int) then (if (a2.What == (1 : Int)) = true then (Option.bind (replay_steps_1_POO k a0.r a2) (fun t231 => some ((t231.1 != (0 : Int)), t231.2.tasks, t231.2.l))) else (if (a2.What == (2 : Int)) = true then (Option.bind (replay_steps_2_POO k a0.r a2) (fun t243 => some ((t243.1 != (0 : Int)), t243.2.tasks, t243.2.l))) else (if (a2.What == (3 : Int)) = true then (Option.bind (replay_steps_3_POO k a0.r a2) (fun t255 => some ((t255.1 != (0 : Int)), t255.2.tasks, t255.2.l))) else none))) else none)) (fun ⟨x216, x217, x221⟩ => (if x216 = true then some ((4 : Int), (⟨a0.programs, (⟨x217, x221⟩ : event_Recorder), a0.m, a0.done, a0.last⟩ : replay_run)) else (if (a2.What == (1 : Int)) = true then (Option.bind (event_Recorder_Under_POO k (⟨x217, x221⟩ : event_Recorder) a2.Task) (fun t279 => (if (t279.1 != a2.Call) = true then some ((4 : Int), (⟨a0.programs, (⟨x217, x221⟩ : event_Recorder), a0.m, a0.done, a0.last⟩ : replay_run)) else some ((0 : Int), (⟨a0.programs, (⟨x217, x221⟩ : event_Recorder), a0.m, a0.done, a0.last⟩ : replay_run))))) else (if (a2.What == (2 : Int)) = true then (if 0 ≤ a2.Task ∧ a2.Task < (a0.last.length : Int) then (Option.bind (α := List Int) (some (List.set a0.last a2.Task.toNat (a0.done.length : Int))) (fun x304 => (Option.bind (model_Model_Do_POOOO k a0.m a2.Task t4.1) (fun t348 => (if a0.done.length + ([(⟨(a2.Task), (a2.Call), ⟨t348.1.Err, t348.1.Found, t348.1.Value, t348.1.Pairs⟩, a1, (-1 : Int)⟩ : replay_Done)] : List replay_Done).length ≤ 1599289640401 then some ((0 : Int), (⟨a0.programs, (⟨x217, x221⟩ : event_Recorder), t348.2, (a0.done ++ ([(⟨(a2.Task), (a2.Call), ⟨t348.1.Err, t348.1.Found, t348.1.Value, t348.1.Pairs⟩, a1, (-1 : Int)⟩ : replay_Done)] : List replay_Done)), x304⟩ : replay_run)) else none))))) else none) else (if (a2.What == (3 : Int)) = true then (if 0 ≤ a2.Task ∧ a2.Task < (a0.last.length : Int) then (if 0 ≤ (rd a0.last a2.Task) ∧ (rd a0.last a2.Task) < (a0.done.length : Int) then (Option.bind (α := List replay_Done) (some (List.set a0.done (rd a0.last a2.Task).toNat (⟨(rd a0.done (rd a0.last a2.Task)).Task, (rd a0.done (rd a0.last a2.Task)).Call, ⟨(rd a0.done (rd a0.last a2.Task)).Answer.Err, (rd a0.done (rd a0.last a2.Task)).Answer.Found, (rd a0.done (rd a0.last a2.Task)).Answer.Value, (rd a0.done (rd a0.last a2.Task)).Answer.Pairs⟩, (rd a0.done (rd a0.last a2.Task)).Mark, a1⟩ : replay_Done))) (fun x427 => (Option.bind (model_Same k ((rd x427 (rd a0.last a2.Task)).Answer) a2.Answer) (fun t460 => (if (!t460) = true then some ((7 : Int), (⟨a0.programs, (⟨x217, x221⟩ : event_Recorder), a0.m, x427, a0.last⟩ : replay_run)) else some ((0 : Int), (⟨a0.programs, (⟨x217, x221⟩ : event_Recorder), a0.m, x427, a0.last⟩ : replay_run))))))) else none) else none) else some ((0 : Int), (⟨a0.programs, (⟨x217, x221⟩ : event_Recorder), a0.m, a0.done, a0.last⟩ : replay_run)))))))))))))))
set_option maxHeartbeats 2000000 in
theorem replay_run_step_PRpoo_poooo_OO.mono {k : Nat} {a0 : replay_run} {a1 : Int} {a2 : api_Event} : OLe (replay_run_step_PRpoo_poooo_OO k a0 a1 a2) (replay_run_step_PRpoo_poooo_OO (k + 1) a0 a1 a2) := by
  unfold replay_run_step_PRpoo_poooo_OO
  repeat' (first | with_reducible exact OLe.none | with_reducible exact OLe.some | with_reducible refine OLe.ite ?_ ?_ | with_reducible refine OLe.bind ?_ (fun _ => ?_) | with_reducible exact event_Recorder_Under_POO.mono | with_reducible exact model_Model_Do_POOOO.mono | with_reducible exact model_Same.mono | with_reducible exact replay_run_call_PRpoo_poooo_OO.mono | with_reducible exact replay_steps_1_POO.mono | with_reducible exact replay_steps_2_POO.mono | with_reducible exact replay_steps_3_POO.mono | refine OLe.bind ?_ (fun _ => ?_) | refine OLe.ite ?_ ?_ | refine OLe.elim (fun _ => ?_) (fun _ => ?_) | split)
set_option maxHeartbeats 8000000 in
set_option maxRecDepth 100000 in
theorem replay_run_step_PRpoo_poooo_OO.con (k : Nat) (M : Hp) (A0_0 : Option Addr) (c0_0 : Nat) (A0_1_0 : Option Addr) (c0_1_0 : Nat) (A0_1_1 : Option Addr) (c0_1_1 : Nat) (A0_2_8 : Option Addr) (c0_2_8 : Nat) (A0_2_9 : Option Addr) (c0_2_9 : Nat) (A0_2_10 : Option Addr) (c0_2_10 : Nat) (A0_2_11 : Option Addr) (c0_2_11 : Nat) (vs0_2_11 : List (Str × Value)) (A0_3 : Option Addr) (c0_3 : Nat) (A0_4 : Option Addr) (c0_4 : Nat) (a0 : replay_run) (a1 : Int) (A2_0 : Option Addr) (c2_0 : Nat) (a2 : api_Event) (bo0_1 : Nat) (bo0_2 : Nat) (bo0 : Nat) (r : Int × replay_run) (hr0_0 : SlR (rSl r_api_Call) M (.slice A0_0 a0.programs.length c0_0) a0.programs) (hm0_2_11 : MRel r_model_row M a0.m.rows vs0_2_11) (hr2_0 : SlR r_api_Pair M (.slice A2_0 a2.Answer.Pairs.length c2_0) a2.Answer.Pairs) (hg0 : ∃ gt fr, M 0 = some (.cells #[.nilFunc, .func (.func 92) #[] #[], .func (.func 93) #[] #[], .func (.func 94) #[] #[], .func (.func 95) #[] #[], .func (.func 96) #[] #[], .func (.func 97) #[] #[], .func (.func 98) #[] #[], .func (.func 99) #[] #[], .func (.func 100) #[] #[]] gt fr)) (hg1 : ∃ gt fr, M 1 = some (.cells #[.nilFunc, .func (.func 114) #[] #[], .func (.func 116) #[] #[], .func (.func 118) #[] #[]] gt fr)) (h : replay_run_step_PRpoo_poooo_OO k a0 a1 a2 = some r) : Con Tryd.prog 32 #[pt bo0 0, .int .i64 a1, .agg #[.int .u8 a2.What, .int .i64 a2.Task, .int .i64 a2.Call, .int .i64 a2.Answer.Err, .bool a2.Answer.Found, .string (bs a2.Answer.Value), .slice A2_0 a2.Answer.Pairs.length c2_0]] M [B72 bo0 a0 A0_0 c0_0 bo0_1 bo0_2 A0_3 c0_3 A0_4 c0_4, Blk bo0_1 (.cells #[.slice A0_1_0 a0.r.tasks.length c0_1_0, .slice A0_1_1 a0.r.l.length c0_1_1] 130 (0, 0)), Row r_event_task 135 (.slice A0_1_0 a0.r.tasks.length c0_1_0) a0.r.tasks, Row r_api_Event 38 (.slice A0_1_1 a0.r.l.length c0_1_1) a0.r.l, B83 bo0_2 a0.m A0_2_8 A0_2_9 A0_2_10 c0_2_10 A0_2_11, MapC enc_model_name (Value.int .i64) A0_2_8 a0.m.names, MapC (Value.int .i64) (Value.int .i64) A0_2_9 a0.m.many, Row r_model_tx 109 (.slice A0_2_10 a0.m.txs.length c0_2_10) a0.m.txs, MapC encS (fun v : Value => v) A0_2_11 vs0_2_11, Row r_replay_Done 53 (.slice A0_3 a0.done.length c0_3) a0.done, Row (rInt .i64) 3 (.slice A0_4 a0.last.length c0_4) a0.last] (fun v M' Γ' => ∃ (Aq1 : Option Addr) (cq2 : Nat) (Aq4 : Option Addr) (cq5 : Nat) (Aq7 : Option Addr) (cq8 : Nat) (Aq10 : Option Addr) (cq11 : Nat) (Aq13 : Option Addr) (cq14 : Nat) (Aq16 : Option Addr) (cq17 : Nat) (Aq19 : Option Addr) (cq20 : Nat) (vsq22 : List (Str × Value)) (Aq24 : Option Addr) (cq25 : Nat) (Aq27 : Option Addr) (cq28 : Nat), v = .int .i64 r.1 ∧ SlR (rSl r_api_Call) M' (.slice Aq1 r.2.programs.length cq2) r.2.programs ∧ MRel r_model_row M' r.2.m.rows vsq22 ∧ Γ' = [B72 bo0 r.2 Aq1 cq2 bo0_1 bo0_2 Aq24 cq25 Aq27 cq28, Blk bo0_1 (.cells #[.slice Aq4 r.2.r.tasks.length cq5, .slice Aq7 r.2.r.l.length cq8] 130 (0, 0)), Row r_event_task 135 (.slice Aq4 r.2.r.tasks.length cq5) r.2.r.tasks, Row r_api_Event 38 (.slice Aq7 r.2.r.l.length cq8) r.2.r.l, B83 bo0_2 r.2.m Aq10 Aq13 Aq16 cq17 Aq19, MapC enc_model_name (Value.int .i64) Aq10 r.2.m.names, MapC (Value.int .i64) (Value.int .i64) Aq13 r.2.m.many, Row r_model_tx 109 (.slice Aq16 r.2.m.txs.length cq17) r.2.m.txs, MapC encS (fun v : Value => v) Aq19 vsq22, Row r_replay_Done 53 (.slice Aq24 r.2.done.length cq25) r.2.done, Row (rInt .i64) 3 (.slice Aq27 r.2.last.length cq28) r.2.last]) := by
  refine con_of_wp Tryd.func32 rfl Tryd.ntmps32 Tryd.results32 rfl ?_
  intro w F rn S hrn
  have E := Ext.refl w
  have HM := Hp.le_refl M
  have H := h
  unfold replay_run_step_PRpoo_poooo_OO at H
  refine Wp_seq (Wp_region_lit ?_)
  refine W_box S #[.int .u8 a2.What, .int .i64 a2.Task, .int .i64 a2.Call, .int .i64 a2.Answer.Err, .bool a2.Answer.Found, .string (bs a2.Answer.Value), .slice A2_0 a2.Answer.Pairs.length c2_0] rfl rfl rfl ?_
  intro b1 w2 E' S
  replace E := E.trans E'
  refine W_v (.int .i64 0) (x_assign rfl) rfl (Wl_nil (tn (Wp_seq (Wp_region_lit (W_v (pt bo0 0) (x_move rfl) rfl (W_v (.agg #[.int .u8 a2.What, .int .i64 a2.Task, .int .i64 a2.Call, .int .i64 a2.Answer.Err, .bool a2.Answer.Found, .string (bs a2.Answer.Value), .slice A2_0 a2.Answer.Pairs.length c2_0]) (x_loadA (S.blk 0 rfl) ty38 rfl (sub_of_extract rfl) rfl rfl) rfl ?_))))))
  obtain ⟨t4, ht5, H⟩ := bindS H
  replace S : St w2 M F [_, _, _, _, _, _, _, _, _, _, _, _] := S.pick [1, 2, 3, 4, 5, 6, 7, 8, 9, 10, 11, 0] (by decide)
  refine W_call fn41 (replay_run_call_PRpoo_poooo_OO.con k M A0_0 c0_0 A0_1_0 c0_1_0 A0_1_1 c0_1_1 A0_2_8 c0_2_8 A0_2_9 c0_2_9 A0_2_10 c0_2_10 A0_2_11 c0_2_11 vs0_2_11 A0_3 c0_3 A0_4 c0_4 a0 A2_0 c2_0 a2 bo0_1 bo0_2 bo0 t4 hr0_0 hm0_2_11 hr2_0 ht5) (Γ1 := [_, _, _, _, _, _, _, _, _, _, _]) (Γ2 := [_]) S rfl rfl ?_
  rintro _ w6 M7 Γ' hM8 E' S ⟨rfl, rfl⟩
  replace hg0 : ∃ gt fr, _ := (let ⟨gt, fr, h8⟩ := hg0; ⟨gt, fr, hM8 _ _ h8⟩)
  replace hg1 : ∃ gt fr, _ := (let ⟨gt, fr, h8⟩ := hg1; ⟨gt, fr, hM8 _ _ h8⟩)
  replace HM := Hp.le_trans HM hM8
  replace hr0_0 := SlR.mono hr0_0 hM8
  replace hm0_2_11 := MRel.mono hm0_2_11 hM8
  replace hr2_0 := SlR.mono hr2_0 hM8
  replace E := E.trans E'
  replace S : St w6 M7 F [_, _, _, _, _, _, _, _, _, _, _, _] := S
  refine W_v (.tuple #[.agg #[.int .u8 t4.1.Kind, .int .i64 t4.1.Tx, .string (bs t4.1.Key), .string (bs t4.1.End), .string (bs t4.1.Value), .int .i64 t4.1.Limit, .int .u8 t4.1.Engine], .bool t4.2]) (x_move rfl) rfl (W_v (.agg #[.int .u8 t4.1.Kind, .int .i64 t4.1.Tx, .string (bs t4.1.Key), .string (bs t4.1.End), .string (bs t4.1.Value), .int .i64 t4.1.Limit, .int .u8 t4.1.Engine]) (x_extract rfl rfl) rfl (W_v (.bool t4.2) (x_extract rfl rfl) rfl ?_))
  refine W_alloc S #[.int .u8 0, .int .i64 0, .string (bs ([] : Str)), .string (bs ([] : Str)), .string (bs ([] : Str)), .int .i64 0, .int .u8 0] ty42 rfl rfl ?_
  intro b9 w10 E' S
  replace E := E.trans E'
  refine W_store S 0 rfl ty42 rfl rfl [.int .u8 t4.1.Kind, .int .i64 t4.1.Tx, .string (bs t4.1.Key), .string (bs t4.1.End), .string (bs t4.1.Value), .int .i64 t4.1.Limit, .int .u8 t4.1.Engine] rfl rfl rfl #[.int .u8 t4.1.Kind, .int .i64 t4.1.Tx, .string (bs t4.1.Key), .string (bs t4.1.End), .string (bs t4.1.Value), .int .i64 t4.1.Limit, .int .u8 t4.1.Engine] (by as_aux_lemma => kernel_rfl) rfl ?_
  intro w12 E' S
  replace E := E.trans E'
  refine W_v (.bool t4.2) (x_assign rfl) rfl (Wl_nil (tn (Wp_seq (Wp_seq (Wp_region_lit (W_v (.bool t4.2) (x_move rfl) rfl (W_v (.bool (!t4.2)) (x_not (b := t4.2) rfl) rfl (W_v (.bool (!t4.2)) (x_move rfl) rfl ?_))))))))
  refine Wl_cutN 4 (fun ρ w' => Agree ρ [(0, pt bo0 0), (1, .int .i64 a1), (5, pt b1 0), (7, pt b9 0), (25, .bool ((!t4.2) || (decide (a2.What < (1 : Int)))))] ∧ w12 = w') ?_ ?_
  · rcases boolCases (!t4.2) with hb13 | hb13
    · skip
      refine W_yes (congrArg some hb13) (W_v (pt b1 0) (x_fieldAddr (o := 0) (off := 0) Tryd.underlying38 rfl ty5 rfl rfl) rfl (W_yes (congrArg some hb13) (W_v (.int .u8 a2.What) (x_load (S.blk 12 rfl) ty5 rfl rfl) rfl (W_yes (congrArg some hb13) (W_v (.bool (decide (a2.What < (1 : Int)))) (x_ibin rfl rfl rfl rfl) rfl (W_v (.bool (decide (a2.What < (1 : Int)))) (x_pick (k := false) (congrArg Value.bool hb13) rfl) rfl (Wl_nil ?_)))))))
      exact ⟨⟨rfl, rfl, rfl, rfl, (by first | rfl | (rw [hb13]; rfl) | (simp only [hb13]; rfl)), trivial⟩, rfl⟩
    · skip
      refine W_no (skF hb13) rfl (W_no (skF hb13) rfl (W_no (skF hb13) rfl (W_v (.bool true) (x_pick (k := true) (congrArg Value.bool hb13) rfl) rfl (Wl_nil ?_))))
      exact ⟨⟨rfl, rfl, rfl, rfl, (by first | rfl | (rw [hb13]; rfl) | (simp only [hb13]; rfl)), trivial⟩, rfl⟩
  as_aux_lemma =>
  rintro ρ _ ⟨hρ, rfl⟩
  rw [agree_eta hρ]
  refine W_v (.bool ((!t4.2) || (decide (a2.What < (1 : Int))))) (x_move rfl) rfl ?_
  refine Wl_cutN 4 (fun ρ w' => Agree ρ [(0, pt bo0 0), (1, .int .i64 a1), (5, pt b1 0), (7, pt b9 0), (30, .bool (((!t4.2) || (decide (a2.What < (1 : Int)))) || (decide (a2.What > (3 : Int)))))] ∧ w12 = w') ?_ ?_
  · rcases boolCases ((!t4.2) || (decide (a2.What < (1 : Int)))) with hb14 | hb14
    · skip
      refine W_yes (congrArg some hb14) (W_v (pt b1 0) (x_fieldAddr (o := 0) (off := 0) Tryd.underlying38 rfl ty5 rfl rfl) rfl (W_yes (congrArg some hb14) (W_v (.int .u8 a2.What) (x_load (S.blk 12 rfl) ty5 rfl rfl) rfl (W_yes (congrArg some hb14) (W_v (.bool (decide (a2.What > (3 : Int)))) (x_ibin rfl rfl rfl rfl) rfl (W_v (.bool (decide (a2.What > (3 : Int)))) (x_pick (k := false) (congrArg Value.bool hb14) rfl) rfl (Wl_nil ?_)))))))
      exact ⟨⟨rfl, rfl, rfl, rfl, (by first | rfl | (rw [hb14]; rfl) | (simp only [hb14]; rfl)), trivial⟩, rfl⟩
    · skip
      refine W_no (skF hb14) rfl (W_no (skF hb14) rfl (W_no (skF hb14) rfl (W_v (.bool true) (x_pick (k := true) (congrArg Value.bool hb14) rfl) rfl (Wl_nil ?_))))
      exact ⟨⟨rfl, rfl, rfl, rfl, (by first | rfl | (rw [hb14]; rfl) | (simp only [hb14]; rfl)), trivial⟩, rfl⟩
  as_aux_lemma =>
  rintro ρ _ ⟨hρ, rfl⟩
  rw [agree_eta hρ]
  refine W_v (.bool (((!t4.2) || (decide (a2.What < (1 : Int)))) || (decide (a2.What > (3 : Int))))) (x_move rfl) rfl ?_
  obtain ⟨o43, o43h, o43H⟩ := bindS H
  refine Wl_cutN 11 (fun ρ w' => ∃ (x42 : Bool), (x42) = o43 ∧ Agree ρ [(0, pt bo0 0), (1, .int .i64 a1), (5, pt b1 0), (7, pt b9 0), (42, .bool x42)] ∧ Ext w w' ∧ St w' M7 F [B42 b9 t4.1, B72 bo0 a0 A0_0 c0_0 bo0_1 bo0_2 A0_3 c0_3 A0_4 c0_4, Blk bo0_1 (.cells #[.slice A0_1_0 a0.r.tasks.length c0_1_0, .slice A0_1_1 a0.r.l.length c0_1_1] 130 (0, 0)), Row r_event_task 135 (.slice A0_1_0 a0.r.tasks.length c0_1_0) a0.r.tasks, Row r_api_Event 38 (.slice A0_1_1 a0.r.l.length c0_1_1) a0.r.l, B83 bo0_2 a0.m A0_2_8 A0_2_9 A0_2_10 c0_2_10 A0_2_11, MapC enc_model_name (Value.int .i64) A0_2_8 a0.m.names, MapC (Value.int .i64) (Value.int .i64) A0_2_9 a0.m.many, Row r_model_tx 109 (.slice A0_2_10 a0.m.txs.length c0_2_10) a0.m.txs, MapC encS (fun v : Value => v) A0_2_11 vs0_2_11, Row r_replay_Done 53 (.slice A0_3 a0.done.length c0_3) a0.done, Row (rInt .i64) 3 (.slice A0_4 a0.last.length c0_4) a0.last, B38 b1 a2 A2_0 c2_0]) ?_ ?_
  · as_aux_lemma =>
      have H := o43h
      rcases iteS H with ⟨hb41, H⟩ | ⟨hb41, H⟩
      · skip
        refine W_no (skF hb41) rfl (W_no (skF hb41) rfl (W_no (skF hb41) rfl (W_no (skF hb41) rfl (W_no (rfl) rfl (W_no (rfl) rfl (W_no (rfl) rfl (W_no (rfl) rfl (W_no (rfl) rfl (W_no (skF hb41) rfl (W_v (.bool true) (x_pick (k := true) (congrArg Value.bool hb41) rfl) rfl (Wl_nil ?_)))))))))))
        exact ⟨true, Option.some.inj H, ⟨rfl, rfl, rfl, rfl, rfl, trivial⟩, E, S.pick [0, 1, 2, 3, 4, 5, 6, 7, 8, 9, 10, 11, 12] (by decide)⟩
      · skip
        refine W_yes (congrArg some hb41) (W_v (pt b1 0) (x_fieldAddr (o := 0) (off := 0) Tryd.underlying38 rfl ty5 rfl rfl) rfl (W_yes (congrArg some hb41) (W_v (.int .u8 a2.What) (x_load (S.blk 12 rfl) ty5 rfl rfl) rfl (W_yes (congrArg some hb41) (W_v (.bool (a2.What != (3 : Int))) (x_ibin rfl rfl rfl rfl) rfl (W_yes (congrArg some hb41) (W_v (.bool (a2.What != (3 : Int))) (x_move rfl) rfl ?_)))))))
        obtain ⟨o52, o52h, o52H⟩ := bindS H
        refine Wl_cutN 6 (fun ρ w' => ∃ (x51 : Bool), (x51) = o52 ∧ Agree ρ [(0, pt bo0 0), (1, .int .i64 a1), (5, pt b1 0), (7, pt b9 0), (31, .bool (((!t4.2) || (decide (a2.What < (1 : Int)))) || (decide (a2.What > (3 : Int))))), (41, .bool x51)] ∧ Ext w w' ∧ St w' M7 F [B42 b9 t4.1, B72 bo0 a0 A0_0 c0_0 bo0_1 bo0_2 A0_3 c0_3 A0_4 c0_4, Blk bo0_1 (.cells #[.slice A0_1_0 a0.r.tasks.length c0_1_0, .slice A0_1_1 a0.r.l.length c0_1_1] 130 (0, 0)), Row r_event_task 135 (.slice A0_1_0 a0.r.tasks.length c0_1_0) a0.r.tasks, Row r_api_Event 38 (.slice A0_1_1 a0.r.l.length c0_1_1) a0.r.l, B83 bo0_2 a0.m A0_2_8 A0_2_9 A0_2_10 c0_2_10 A0_2_11, MapC enc_model_name (Value.int .i64) A0_2_8 a0.m.names, MapC (Value.int .i64) (Value.int .i64) A0_2_9 a0.m.many, Row r_model_tx 109 (.slice A0_2_10 a0.m.txs.length c0_2_10) a0.m.txs, MapC encS (fun v : Value => v) A0_2_11 vs0_2_11, Row r_replay_Done 53 (.slice A0_3 a0.done.length c0_3) a0.done, Row (rInt .i64) 3 (.slice A0_4 a0.last.length c0_4) a0.last, B38 b1 a2 A2_0 c2_0]) ?_ ?_
        · have H := o52h
          rcases iteS H with ⟨hb50, H⟩ | ⟨hb50, H⟩
          · skip
            refine W_yes (congrArg some hb50) (W_v (pt b1 3) (x_fieldAddr (o := 0) (off := 3) Tryd.underlying38 rfl ty36 rfl rfl) rfl (W_yes (congrArg some hb50) (W_v (.agg #[.int .i64 a2.Answer.Err, .bool a2.Answer.Found, .string (bs a2.Answer.Value), .slice A2_0 a2.Answer.Pairs.length c2_0]) (x_loadA (S.blk 12 rfl) ty36 rfl (sub_of_extract rfl) rfl rfl) rfl (W_yes (congrArg some hb50) (W_v (.agg #[.int .i64 0, .bool false, .string (bs ([] : Str)), .slice none 0 0]) (x_build2 (pl := [(0, 1), (1, 1), (2, 1), (3, 1)]) #[.int .i64 0, .bool false, .string (bs ([] : Str)), .slice none 0 0] Tryd.underlying36 ty36 (by as_aux_lemma => kernel_rfl) rfl (by as_aux_lemma => kernel_rfl)) rfl (W_yes (congrArg some hb50) ?_))))))
            obtain ⟨t53, ht54, H⟩ := bindS H
            refine W_callF fn42 (model_Same.con k M7 A2_0 c2_0 a2.Answer none 0 (⟨(0 : Int), false, ([] : Str), ([] : (List api_Pair))⟩ : api_Answer) t53 hr2_0 (SlW.nil _ _) ht54) S rfl rfl (by rintro _ _ _ ⟨_, rfl⟩; exact flat_nil) ?_
            rintro _ w55 _ Γ' E' S ⟨rfl, rfl⟩
            replace E := E.trans E'
            refine W_yes (congrArg some hb50) (W_v (.bool (!t53)) (x_not (b := t53) rfl) rfl (W_yes (congrArg some hb41) (W_v (.bool (!t53)) (x_pick (k := true) (congrArg Value.bool hb50) rfl) rfl (Wl_nil ?_))))
            exact ⟨(!t53), Option.some.inj H, ⟨rfl, rfl, rfl, rfl, rfl, rfl, trivial⟩, E, S.pick [0, 1, 2, 3, 4, 5, 6, 7, 8, 9, 10, 11, 12] (by decide)⟩
          · skip
            refine W_no (skT hb50) rfl (W_no (skT hb50) rfl (W_no (skT hb50) rfl (W_no (skT hb50) rfl (W_no (skT hb50) rfl (W_yes (congrArg some hb41) (W_v (.bool false) (x_pick (k := false) (congrArg Value.bool hb50) rfl) rfl (Wl_nil ?_)))))))
            exact ⟨false, Option.some.inj H, ⟨rfl, rfl, rfl, rfl, rfl, rfl, trivial⟩, E, S.pick [0, 1, 2, 3, 4, 5, 6, 7, 8, 9, 10, 11, 12] (by decide)⟩
        rintro ρ w56 ⟨x51, rfl, hρ, E, S⟩
        rw [agree_eta hρ]
        have H := o52H
        refine W_v (.bool x51) (x_pick (k := false) (congrArg Value.bool hb41) rfl) rfl (Wl_nil ?_)
        exact ⟨x51, Option.some.inj H, ⟨rfl, rfl, rfl, rfl, rfl, trivial⟩, E, S.pick [0, 1, 2, 3, 4, 5, 6, 7, 8, 9, 10, 11, 12] (by decide)⟩
  as_aux_lemma =>
  rintro ρ w57 ⟨x42, rfl, hρ, E, S⟩
  rw [agree_eta hρ]
  have H := o43H
  refine Wl_nil (tn ?_)
  rcases iteS H with ⟨hb58, H⟩ | ⟨hb58, H⟩
  · refine Wp_cond_true (congrArg Value.bool hb58) ?_
    refine Wp_seq (Wp_region_lit (W_v (.int .i64 4) (x_assign rfl) rfl (Wl_nil (tn ?_))))
    refine Wp_ret ?_
    refine tr (?_)
    obtain rfl := Option.some.inj H
    exact ⟨_, _, _, fun w1 e1 => run_resR (vs := [.int .i64 4]) (FA.cons (rfl) (FA.nil)), HM, E, S.pick [1, 2, 3, 4, 5, 6, 7, 8, 9, 10, 11] (by decide), ⟨A0_0, c0_0, A0_1_0, c0_1_0, A0_1_1, c0_1_1, A0_2_8, c0_2_8, A0_2_9, c0_2_9, A0_2_10, c0_2_10, A0_2_11, c0_2_11, vs0_2_11, A0_3, c0_3, A0_4, c0_4, rfl, hr0_0, hm0_2_11, rfl⟩⟩
  refine Wp_cond_false (congrArg Value.bool hb58) (Wp_skip (tn (Wp_seq ?_)))
  have LE64 := Hp.le_refl M7
  refine Wp_region_any (S := fun w' => ∃ Mx, M7.le Mx ∧ St w' Mx F [B42 b9 t4.1, B72 bo0 a0 A0_0 c0_0 bo0_1 bo0_2 A0_3 c0_3 A0_4 c0_4, Blk bo0_1 (.cells #[.slice A0_1_0 a0.r.tasks.length c0_1_0, .slice A0_1_1 a0.r.l.length c0_1_1] 130 (0, 0)), Row r_event_task 135 (.slice A0_1_0 a0.r.tasks.length c0_1_0) a0.r.tasks, Row r_api_Event 38 (.slice A0_1_1 a0.r.l.length c0_1_1) a0.r.l, B83 bo0_2 a0.m A0_2_8 A0_2_9 A0_2_10 c0_2_10 A0_2_11, MapC enc_model_name (Value.int .i64) A0_2_8 a0.m.names, MapC (Value.int .i64) (Value.int .i64) A0_2_9 a0.m.many, Row r_model_tx 109 (.slice A0_2_10 a0.m.txs.length c0_2_10) a0.m.txs, MapC encS (fun v : Value => v) A0_2_11 vs0_2_11, Row r_replay_Done 53 (.slice A0_3 a0.done.length c0_3) a0.done, Row (rInt .i64) 3 (.slice A0_4 a0.last.length c0_4) a0.last, B38 b1 a2 A2_0 c2_0]) (L := 14) mixed ?_
  intro w65 hw66 E'
  replace S := S.heap hw66
  replace E := E.trans E'
  have hr0_0z := hr0_0
  have hr2_0z := hr2_0
  have D1 : ∃ Mx, Hp.le M7 Mx ∧ St _ Mx F [_, _, _, _, _, _, _, _, _, _, _, _, _] := ⟨_, Hp.le_refl _, S.pick [0, 1, 2, 3, 4, 5, 6, 7, 8, 9, 10, 11, 12] (by decide)⟩
  refine Wa_take (i := 0) rfl (by kernel_rfl) rfl rfl (pt bo0 0) rfl (fun w' h' => x_move rfl) D1 (Wa_take (i := 1) rfl (by kernel_rfl) rfl rfl (pt bo0 0) rfl (fun w' h' => x_nilptr rfl) D1 (Wa_take (i := 2) rfl (by kernel_rfl) rfl rfl (pt bo0 1) rfl (fun w' h' => x_fieldAddr (o := 0) (off := 1) Tryd.underlying72 rfl ty70 rfl rfl) D1 (Wa_take (i := 3) rfl (by kernel_rfl) rfl rfl (pt bo0_1 0) rfl (fun w' h' => x_load (cls_blk h' 1 rfl) ty70 rfl rfl) D1 (Wa_take (i := 4) rfl (by kernel_rfl) rfl rfl (pt b1 1) rfl (fun w' h' => x_fieldAddr (o := 0) (off := 1) Tryd.underlying38 rfl ty3 rfl rfl) D1 (Wa_take (i := 5) rfl (by kernel_rfl) rfl rfl (.int .i64 a2.Task) rfl (fun w' h' => x_load (cls_blk h' 12 rfl) ty3 rfl rfl) D1 ?_)))))
  refine Wa_solo (i := 6) rfl (by kernel_rfl) ?_
  obtain ⟨t67, ht68, H⟩ := bindS H
  replace S : St w65 M7 F [_, _, _, _, _, _, _, _, _, _, _, _, _] := S.pick [2, 3, 4, 0, 1, 5, 6, 7, 8, 9, 10, 11, 12] (by decide)
  refine W_call fn43 (event_Recorder_Under_POO.con k M7 A0_1_0 c0_1_0 A0_1_1 c0_1_1 a0.r a2.Task bo0_1 t67  ht68) (Γ1 := [_, _, _]) (Γ2 := [_, _, _, _, _, _, _, _, _, _]) S rfl rfl ?_
  rintro _ w69 M70 Γ' hM71 E' S ⟨rfl, rfl⟩
  replace hg0 : ∃ gt fr, _ := (let ⟨gt, fr, h8⟩ := hg0; ⟨gt, fr, hM71 _ _ h8⟩)
  replace hg1 : ∃ gt fr, _ := (let ⟨gt, fr, h8⟩ := hg1; ⟨gt, fr, hM71 _ _ h8⟩)
  replace HM := Hp.le_trans HM hM71
  replace LE64 := Hp.le_trans LE64 hM71
  replace hr0_0 := SlR.mono hr0_0 hM71
  replace hm0_2_11 := MRel.mono hm0_2_11 hM71
  replace hr2_0 := SlR.mono hr2_0 hM71
  replace E := E.trans E'
  replace S : St w69 M70 F [_, _, _, _, _, _, _, _, _, _, _, _, _] := S
  refine Wl_nil (on_n ⟨.inr ⟨M70, LE64, (S.pick [3, 4, 0, 1, 2, 5, 6, 7, 8, 9, 10, 11, 12] (by decide))⟩, ?_⟩)
  refine Wa_take (i := 7) rfl (by kernel_rfl) rfl rfl (.tuple #[.int .i64 t67.1, .bool t67.2.1, .bool t67.2.2]) rfl (fun w' h' => x_move rfl) (⟨M70, LE64, (S.pick [3, 4, 0, 1, 2, 5, 6, 7, 8, 9, 10, 11, 12] (by decide))⟩) (Wa_take (i := 8) rfl (by kernel_rfl) rfl rfl (.int .i64 t67.1) rfl (fun w' h' => x_extract rfl rfl) (⟨M70, LE64, (S.pick [3, 4, 0, 1, 2, 5, 6, 7, 8, 9, 10, 11, 12] (by decide))⟩) (Wa_take (i := 9) rfl (by kernel_rfl) rfl rfl (.bool t67.2.1) rfl (fun w' h' => x_extract rfl rfl) (⟨M70, LE64, (S.pick [3, 4, 0, 1, 2, 5, 6, 7, 8, 9, 10, 11, 12] (by decide))⟩) (Wa_take (i := 10) rfl (by kernel_rfl) rfl rfl (.bool t67.2.2) rfl (fun w' h' => x_extract rfl rfl) (⟨M70, LE64, (S.pick [3, 4, 0, 1, 2, 5, 6, 7, 8, 9, 10, 11, 12] (by decide))⟩) (Wa_take (i := 11) rfl (by kernel_rfl) rfl rfl (.int .i64 t67.1) rfl (fun w' h' => x_assign rfl) (⟨M70, LE64, (S.pick [3, 4, 0, 1, 2, 5, 6, 7, 8, 9, 10, 11, 12] (by decide))⟩) (Wa_take (i := 12) rfl (by kernel_rfl) rfl rfl (.bool t67.2.1) rfl (fun w' h' => x_assign rfl) (⟨M70, LE64, (S.pick [3, 4, 0, 1, 2, 5, 6, 7, 8, 9, 10, 11, 12] (by decide))⟩) (Wa_take (i := 13) rfl (by kernel_rfl) rfl rfl (.bool t67.2.2) rfl (fun w' h' => x_assign rfl) (⟨M70, LE64, (S.pick [3, 4, 0, 1, 2, 5, 6, 7, 8, 9, 10, 11, 12] (by decide))⟩) ?_))))))
  refine Wa_done (by kernel_rfl) ?_
  refine tn ?_
  as_aux_lemma =>
  refine Wp_seq (Wp_seq ?_)
  have LE169 := Hp.le_refl M70
  refine Wp_region_any (S := fun w' => ∃ Mx, M70.le Mx ∧ St w' Mx F [B42 b9 t4.1, B72 bo0 a0 A0_0 c0_0 bo0_1 bo0_2 A0_3 c0_3 A0_4 c0_4, B83 bo0_2 a0.m A0_2_8 A0_2_9 A0_2_10 c0_2_10 A0_2_11, MapC enc_model_name (Value.int .i64) A0_2_8 a0.m.names, MapC (Value.int .i64) (Value.int .i64) A0_2_9 a0.m.many, Row r_model_tx 109 (.slice A0_2_10 a0.m.txs.length c0_2_10) a0.m.txs, MapC encS (fun v : Value => v) A0_2_11 vs0_2_11, Row r_replay_Done 53 (.slice A0_3 a0.done.length c0_3) a0.done, Row (rInt .i64) 3 (.slice A0_4 a0.last.length c0_4) a0.last, B38 b1 a2 A2_0 c2_0]) (L := 26) mixed ?_
  intro w170 hw171 E'
  replace S := S.heap hw171
  replace E := E.trans E'
  have hr0_0z := hr0_0
  have hr2_0z := hr2_0
  have D2 : ∃ Mx, Hp.le M70 Mx ∧ St _ Mx F [_, _, _, _, _, _, _, _, _, _] := ⟨_, Hp.le_refl _, S.pick [3, 4, 5, 6, 7, 8, 9, 10, 11, 12] (by decide)⟩
  refine Wa_take (i := 0) rfl (by kernel_rfl) rfl rfl (pt b1 0) rfl (fun w' h' => x_fieldAddr (o := 0) (off := 0) Tryd.underlying38 rfl ty5 rfl rfl) D2 (Wa_take (i := 1) rfl (by kernel_rfl) rfl rfl (.int .u8 a2.What) rfl (fun w' h' => x_load (cls_blk h' 9 rfl) ty5 rfl rfl) D2 (Wa_take (i := 2) rfl (by kernel_rfl) rfl rfl (.bool (a2.What != (1 : Int))) rfl (fun w' h' => x_ibin rfl rfl rfl rfl) D2 (Wa_take (i := 3) rfl (by kernel_rfl) rfl rfl (.bool (a2.What != (1 : Int))) rfl (fun w' h' => x_move rfl) D2 ?_)))
  refine Wa_join (fun ρ w' => Agree ρ [(0, pt bo0 0), (1, .int .i64 a1), (5, pt b1 0), (7, pt b9 0), (66, .bool ((a2.What != (1 : Int)) && ((!t67.2.2) || (t67.1 != a2.Call))))] ∧ w170 = w') 13 (Ls 26 [0, 1, 2, 3, 4, 5, 6, 7, 8, 9, 10, 11, 12]) ?_ ?_
  rotate_left
  · intro hrest
    rcases boolCases (a2.What != (1 : Int)) with hb173 | hb173
    · skip
      have D3 : ∃ Mx, Hp.le M70 Mx ∧ St _ Mx F [_, _, _, _, _, _, _, _, _, _] := ⟨_, Hp.le_refl _, S.pick [3, 4, 5, 6, 7, 8, 9, 10, 11, 12] (by decide)⟩
      refine Wa_takeN (i := 4) rfl (by kernel_rfl) rfl rfl rfl (skT hb173) D3 (Wa_takeN (i := 5) rfl (by kernel_rfl) rfl rfl rfl (skT hb173) D3 (Wa_takeN (i := 6) rfl (by kernel_rfl) rfl rfl rfl (skT hb173) D3 (Wa_takeN (i := 7) rfl (by kernel_rfl) rfl rfl rfl (rfl) D3 (Wa_takeN (i := 8) rfl (by kernel_rfl) rfl rfl rfl (rfl) D3 (Wa_takeN (i := 9) rfl (by kernel_rfl) rfl rfl rfl (rfl) D3 (Wa_takeN (i := 10) rfl (by kernel_rfl) rfl rfl rfl (rfl) D3 (Wa_takeN (i := 11) rfl (by kernel_rfl) rfl rfl rfl (skT hb173) D3 (Wa_take (i := 12) rfl (by kernel_rfl) rfl rfl (.bool false) rfl (fun w' h' => x_pick (k := false) (congrArg Value.bool hb173) rfl) D3 ?_))))))))
      exact hrest _ _ ⟨⟨rfl, rfl, rfl, rfl, (by first | rfl | (rw [hb173]; rfl) | (simp only [hb173]; rfl)), trivial⟩, rfl⟩
    · skip
      have D4 : ∃ Mx, Hp.le M70 Mx ∧ St _ Mx F [_, _, _, _, _, _, _, _, _, _] := ⟨_, Hp.le_refl _, S.pick [3, 4, 5, 6, 7, 8, 9, 10, 11, 12] (by decide)⟩
      refine Wa_takeY (i := 4) rfl (by kernel_rfl) rfl rfl (.bool t67.2.2) rfl (congrArg some hb173) (fun w' h' => x_move rfl) D4 (Wa_takeY (i := 5) rfl (by kernel_rfl) rfl rfl (.bool (!t67.2.2)) rfl (congrArg some hb173) (fun w' h' => x_not (b := t67.2.2) rfl) D4 (Wa_takeY (i := 6) rfl (by kernel_rfl) rfl rfl (.bool (!t67.2.2)) rfl (congrArg some hb173) (fun w' h' => x_move rfl) D4 ?_))
      refine Wa_join (fun ρ w' => Agree ρ [(0, pt bo0 0), (1, .int .i64 a1), (5, pt b1 0), (7, pt b9 0), (57, .bool (a2.What != (1 : Int))), (65, .bool ((!t67.2.2) || (t67.1 != a2.Call)))] ∧ w170 = w') 14 (Ls 26 [0, 1, 2, 3, 4, 5, 6, 7, 8, 9, 10, 11]) ?_ ?_
      rotate_left
      · intro hrest
        rcases boolCases (!t67.2.2) with hb174 | hb174
        · skip
          have D5 : ∃ Mx, Hp.le M70 Mx ∧ St _ Mx F [_, _, _, _, _, _, _, _, _, _] := ⟨_, Hp.le_refl _, S.pick [3, 4, 5, 6, 7, 8, 9, 10, 11, 12] (by decide)⟩
          refine Wa_takeY (i := 7) rfl (by kernel_rfl) rfl rfl (.int .i64 t67.1) rfl (congrArg some hb174) (fun w' h' => x_move rfl) D5 (Wa_takeY (i := 8) rfl (by kernel_rfl) rfl rfl (pt b1 2) rfl (congrArg some hb174) (fun w' h' => x_fieldAddr (o := 0) (off := 2) Tryd.underlying38 rfl ty3 rfl rfl) D5 (Wa_takeY (i := 9) rfl (by kernel_rfl) rfl rfl (.int .i64 a2.Call) rfl (congrArg some hb174) (fun w' h' => x_load (cls_blk h' 9 rfl) ty3 rfl rfl) D5 (Wa_takeY (i := 10) rfl (by kernel_rfl) rfl rfl (.bool (t67.1 != a2.Call)) rfl (congrArg some hb174) (fun w' h' => x_ibin rfl rfl rfl rfl) D5 (Wa_takeY (i := 11) rfl (by kernel_rfl) rfl rfl (.bool (t67.1 != a2.Call)) rfl (congrArg some hb173) (fun w' h' => x_pick (k := false) (congrArg Value.bool hb174) rfl) D5 ?_))))
          exact hrest _ _ ⟨⟨rfl, rfl, rfl, rfl, rfl, (by first | rfl | (rw [hb174]; rfl) | (simp only [hb174]; rfl)), trivial⟩, rfl⟩
        · skip
          have D6 : ∃ Mx, Hp.le M70 Mx ∧ St _ Mx F [_, _, _, _, _, _, _, _, _, _] := ⟨_, Hp.le_refl _, S.pick [3, 4, 5, 6, 7, 8, 9, 10, 11, 12] (by decide)⟩
          refine Wa_takeN (i := 7) rfl (by kernel_rfl) rfl rfl rfl (skF hb174) D6 (Wa_takeN (i := 8) rfl (by kernel_rfl) rfl rfl rfl (skF hb174) D6 (Wa_takeN (i := 9) rfl (by kernel_rfl) rfl rfl rfl (skF hb174) D6 (Wa_takeN (i := 10) rfl (by kernel_rfl) rfl rfl rfl (skF hb174) D6 (Wa_takeY (i := 11) rfl (by kernel_rfl) rfl rfl (.bool true) rfl (congrArg some hb173) (fun w' h' => x_pick (k := true) (congrArg Value.bool hb174) rfl) D6 ?_))))
          exact hrest _ _ ⟨⟨rfl, rfl, rfl, rfl, rfl, (by first | rfl | (rw [hb174]; rfl) | (simp only [hb174]; rfl)), trivial⟩, rfl⟩
      rintro ρ _ ⟨hρ, rfl⟩
      rw [agree_eta hρ]
      refine Wa_take (i := 12) rfl (by kernel_rfl) rfl rfl (.bool ((!t67.2.2) || (t67.1 != a2.Call))) rfl (fun w' h' => x_pick (k := true) (congrArg Value.bool hb173) rfl) (⟨M70, Hp.le_refl M70, (S.pick [3, 4, 5, 6, 7, 8, 9, 10, 11, 12] (by decide))⟩) ?_
      exact hrest _ _ ⟨⟨rfl, rfl, rfl, rfl, (by first | rfl | (rw [hb173]; rfl) | (simp only [hb173]; rfl)), trivial⟩, rfl⟩
  rintro ρ _ ⟨hρ, rfl⟩
  rw [agree_eta hρ]
  refine Wa_take (i := 13) rfl (by kernel_rfl) rfl rfl (.bool ((a2.What != (1 : Int)) && ((!t67.2.2) || (t67.1 != a2.Call)))) rfl (fun w' h' => x_move rfl) (⟨M70, Hp.le_refl M70, (S.pick [3, 4, 5, 6, 7, 8, 9, 10, 11, 12] (by decide))⟩) ?_
  obtain ⟨o225, o225h, o225H⟩ := bindS H
  refine Wa_join (fun ρ w' => ∃ (x216 : Bool) (x217 : List event_task) (x221 : List api_Event) (A218 : Option Addr) (c219 : Nat) (A222 : Option Addr) (c223 : Nat) (Mj : Hp), (x216, x217, x221) = o225 ∧ Agree ρ [(0, pt bo0 0), (1, .int .i64 a1), (5, pt b1 0), (7, pt b9 0), (79, .bool x216)] ∧ M70.le Mj ∧ Ext w w' ∧ St w' Mj F [Row r_api_Event 38 (.slice A222 x221.length c223) x221, Row r_event_task 135 (.slice A218 x217.length c219) x217, Blk bo0_1 (.cells #[.slice A218 x217.length c219, .slice A222 x221.length c223] 130 (0, 0)), B42 b9 t4.1, B72 bo0 a0 A0_0 c0_0 bo0_1 bo0_2 A0_3 c0_3 A0_4 c0_4, B83 bo0_2 a0.m A0_2_8 A0_2_9 A0_2_10 c0_2_10 A0_2_11, MapC enc_model_name (Value.int .i64) A0_2_8 a0.m.names, MapC (Value.int .i64) (Value.int .i64) A0_2_9 a0.m.many, Row r_model_tx 109 (.slice A0_2_10 a0.m.txs.length c0_2_10) a0.m.txs, MapC encS (fun v : Value => v) A0_2_11 vs0_2_11, Row r_replay_Done 53 (.slice A0_3 a0.done.length c0_3) a0.done, Row (rInt .i64) 3 (.slice A0_4 a0.last.length c0_4) a0.last, B38 b1 a2 A2_0 c2_0]) 0 (Ls 26 [0, 1, 2, 3, 4, 5, 6, 7, 8, 9, 10, 11, 12, 13, 14, 15, 16, 17, 18, 19, 20, 21, 22, 23, 24, 25]) ?_ ?_
  rotate_left
  · intro hrest
    have H := o225h
    rcases iteS H with ⟨hb215, H⟩ | ⟨hb215, H⟩
    · skip
      have D9 : ∃ Mx, Hp.le M70 Mx ∧ St _ Mx F [_, _, _, _, _, _, _, _, _, _] := ⟨_, Hp.le_refl _, S.pick [3, 4, 5, 6, 7, 8, 9, 10, 11, 12] (by decide)⟩
      refine Wa_takeN (i := 14) rfl (by kernel_rfl) rfl rfl rfl (skF hb215) D9 (Wa_takeN (i := 15) rfl (by kernel_rfl) rfl rfl rfl (skF hb215) D9 (Wa_takeN (i := 16) rfl (by kernel_rfl) rfl rfl rfl (skF hb215) D9 (Wa_takeN (i := 17) rfl (by kernel_rfl) rfl rfl rfl (skF hb215) D9 (Wa_takeN (i := 18) rfl (by kernel_rfl) rfl rfl rfl (skF hb215) D9 (Wa_takeN (i := 19) rfl (by kernel_rfl) rfl rfl rfl (skF hb215) D9 (Wa_takeN (i := 20) rfl (by kernel_rfl) rfl rfl rfl (skF hb215) D9 (Wa_takeN (i := 21) rfl (by kernel_rfl) rfl rfl rfl (skF hb215) D9 (Wa_takeN (i := 22) rfl (by kernel_rfl) rfl rfl rfl (skF hb215) D9 (Wa_takeN (i := 23) rfl (by kernel_rfl) rfl rfl rfl (skF hb215) D9 (Wa_takeN (i := 24) rfl (by kernel_rfl) rfl rfl rfl (skF hb215) D9 (Wa_take (i := 25) rfl (by kernel_rfl) rfl rfl (.bool true) rfl (fun w' h' => x_pick (k := true) (congrArg Value.bool hb215) rfl) D9 ?_)))))))))))
      exact hrest _ _ ⟨true, a0.r.tasks, a0.r.l, A0_1_0, c0_1_0, A0_1_1, c0_1_1, M70, Option.some.inj H, ⟨rfl, rfl, rfl, rfl, rfl, trivial⟩, (Hp.le_refl M70), E, S.pick [2, 1, 0, 3, 4, 5, 6, 7, 8, 9, 10, 11, 12] (by decide)⟩
    · skip
      have D10 : ∃ Mx, Hp.le M70 Mx ∧ St _ Mx F [_, _, _, _, _, _, _, _, _, _] := ⟨_, Hp.le_refl _, S.pick [3, 4, 5, 6, 7, 8, 9, 10, 11, 12] (by decide)⟩
      refine Wa_takeY (i := 14) rfl (by kernel_rfl) rfl rfl (pt b1 0) rfl (congrArg some hb215) (fun w' h' => x_fieldAddr (o := 0) (off := 0) Tryd.underlying38 rfl ty5 rfl rfl) D10 (Wa_takeY (i := 15) rfl (by kernel_rfl) rfl rfl (.int .u8 a2.What) rfl (congrArg some hb215) (fun w' h' => x_load (cls_blk h' 9 rfl) ty5 rfl rfl) D10 ?_)
      obtain ⟨⟨p226, p227⟩, H⟩ := chkS H
      refine Wa_takeY (i := 16) rfl (by kernel_rfl) rfl rfl (.pointer (some ⟨1, 0 + a2.What.toNat * 1, none⟩)) rfl (congrArg some hb215) (fun w' h' => x_indexArr Tryd.underlying119 ty118 rfl rfl p226 p227) D10 ?_
      obtain ⟨gtfr228, fr228, hgx229⟩ := hg1
      have hg1 : ∃ gt fr, _ := ⟨gtfr228, fr228, hgx229⟩
      rcases iteS H with ⟨hb230, H⟩ | ⟨hb230, H⟩
      · skip
        refine Wa_takeY (i := 17) rfl (by kernel_rfl) rfl rfl (.func (.func 114) #[] #[]) rfl (congrArg some hb215) (fun w' h' => x_load (cls_frz h' hgx229) ty118 rfl (by rw [show a2.What = (1 : Int) from eq_of_beq hb230]; rfl)) D10 (Wa_takeY (i := 18) rfl (by kernel_rfl) rfl rfl (pt bo0 0) rfl (congrArg some hb215) (fun w' h' => x_move rfl) D10 (Wa_takeY (i := 19) rfl (by kernel_rfl) rfl rfl (pt bo0 0) rfl (congrArg some hb215) (fun w' h' => x_nilptr rfl) D10 (Wa_takeY (i := 20) rfl (by kernel_rfl) rfl rfl (pt bo0 1) rfl (congrArg some hb215) (fun w' h' => x_fieldAddr (o := 0) (off := 1) Tryd.underlying72 rfl ty70 rfl rfl) D10 (Wa_takeY (i := 21) rfl (by kernel_rfl) rfl rfl (pt bo0_1 0) rfl (congrArg some hb215) (fun w' h' => x_load (cls_blk h' 1 rfl) ty70 rfl rfl) D10 (Wa_takeY (i := 22) rfl (by kernel_rfl) rfl rfl (.agg #[.int .u8 a2.What, .int .i64 a2.Task, .int .i64 a2.Call, .int .i64 a2.Answer.Err, .bool a2.Answer.Found, .string (bs a2.Answer.Value), .slice A2_0 a2.Answer.Pairs.length c2_0]) rfl (congrArg some hb215) (fun w' h' => x_loadA (cls_blk h' 9 rfl) ty38 rfl (sub_of_extract rfl) rfl rfl) D10 ?_)))))
        refine Wa_solo (i := 23) rfl (by kernel_rfl) ?_
        refine W_yes (congrArg some hb215) ?_
        obtain ⟨t231, ht232, H⟩ := bindS H
        refine W_callv (fs := []) (cap := []) fn114 rfl (replay_steps_1_POO.con k M70 A0_1_0 c0_1_0 A0_1_1 c0_1_1 a0.r A2_0 c2_0 a2 bo0_1 t231 hr2_0 ht232) (Γ1 := [_, _, _]) (Γ2 := [_, _, _, _, _, _, _, _, _, _]) S rfl rfl ?_
        rintro _ w239 M240 Γ' hM241 E' S ⟨A233, c234, A236, c237, rfl, rfl⟩
        replace hg0 : ∃ gt fr, _ := (let ⟨gt, fr, h8⟩ := hg0; ⟨gt, fr, hM241 _ _ h8⟩)
        replace hg1 : ∃ gt fr, _ := (let ⟨gt, fr, h8⟩ := hg1; ⟨gt, fr, hM241 _ _ h8⟩)
        replace HM := Hp.le_trans HM hM241
        replace LE64 := Hp.le_trans LE64 hM241
        replace LE169 := Hp.le_trans LE169 hM241
        replace hr0_0 := SlR.mono hr0_0 hM241
        replace hm0_2_11 := MRel.mono hm0_2_11 hM241
        replace hr2_0 := SlR.mono hr2_0 hM241
        replace E := E.trans E'
        replace S : St w239 M240 F [_, _, _, _, _, _, _, _, _, _, _, _, _] := S
        refine Wl_nil (on_n ⟨.inr ⟨M240, LE169, (S.pick [3, 4, 5, 6, 7, 8, 9, 10, 11, 12] (by decide))⟩, ?_⟩)
        refine Wa_takeY (i := 24) rfl (by kernel_rfl) rfl rfl (.bool (t231.1 != (0 : Int))) rfl (congrArg some hb215) (fun w' h' => x_ibin rfl rfl rfl rfl) (⟨M240, LE169, (S.pick [3, 4, 5, 6, 7, 8, 9, 10, 11, 12] (by decide))⟩) (Wa_take (i := 25) rfl (by kernel_rfl) rfl rfl (.bool (t231.1 != (0 : Int))) rfl (fun w' h' => x_pick (k := false) (congrArg Value.bool hb215) rfl) (⟨M240, LE169, (S.pick [3, 4, 5, 6, 7, 8, 9, 10, 11, 12] (by decide))⟩) ?_)
        exact hrest _ _ ⟨(t231.1 != (0 : Int)), t231.2.tasks, t231.2.l, A233, c234, A236, c237, M240, Option.some.inj H, ⟨rfl, rfl, rfl, rfl, rfl, trivial⟩, LE169, E, S.pick [2, 1, 0, 3, 4, 5, 6, 7, 8, 9, 10, 11, 12] (by decide)⟩
      rcases iteS H with ⟨hb242, H⟩ | ⟨hb242, H⟩
      · skip
        have D11 : ∃ Mx, Hp.le M70 Mx ∧ St _ Mx F [_, _, _, _, _, _, _, _, _, _] := ⟨_, Hp.le_refl _, S.pick [3, 4, 5, 6, 7, 8, 9, 10, 11, 12] (by decide)⟩
        refine Wa_takeY (i := 17) rfl (by kernel_rfl) rfl rfl (.func (.func 116) #[] #[]) rfl (congrArg some hb215) (fun w' h' => x_load (cls_frz h' hgx229) ty118 rfl (by rw [show a2.What = (2 : Int) from eq_of_beq hb242]; rfl)) D11 (Wa_takeY (i := 18) rfl (by kernel_rfl) rfl rfl (pt bo0 0) rfl (congrArg some hb215) (fun w' h' => x_move rfl) D11 (Wa_takeY (i := 19) rfl (by kernel_rfl) rfl rfl (pt bo0 0) rfl (congrArg some hb215) (fun w' h' => x_nilptr rfl) D11 (Wa_takeY (i := 20) rfl (by kernel_rfl) rfl rfl (pt bo0 1) rfl (congrArg some hb215) (fun w' h' => x_fieldAddr (o := 0) (off := 1) Tryd.underlying72 rfl ty70 rfl rfl) D11 (Wa_takeY (i := 21) rfl (by kernel_rfl) rfl rfl (pt bo0_1 0) rfl (congrArg some hb215) (fun w' h' => x_load (cls_blk h' 1 rfl) ty70 rfl rfl) D11 (Wa_takeY (i := 22) rfl (by kernel_rfl) rfl rfl (.agg #[.int .u8 a2.What, .int .i64 a2.Task, .int .i64 a2.Call, .int .i64 a2.Answer.Err, .bool a2.Answer.Found, .string (bs a2.Answer.Value), .slice A2_0 a2.Answer.Pairs.length c2_0]) rfl (congrArg some hb215) (fun w' h' => x_loadA (cls_blk h' 9 rfl) ty38 rfl (sub_of_extract rfl) rfl rfl) D11 ?_)))))
        refine Wa_solo (i := 23) rfl (by kernel_rfl) ?_
        refine W_yes (congrArg some hb215) ?_
        obtain ⟨t243, ht244, H⟩ := bindS H
        refine W_callv (fs := []) (cap := []) fn116 rfl (replay_steps_2_POO.con k M70 A0_1_0 c0_1_0 A0_1_1 c0_1_1 a0.r A2_0 c2_0 a2 bo0_1 t243 hr2_0 ht244) (Γ1 := [_, _, _]) (Γ2 := [_, _, _, _, _, _, _, _, _, _]) S rfl rfl ?_
        rintro _ w251 M252 Γ' hM253 E' S ⟨A245, c246, A248, c249, rfl, rfl⟩
        replace hg0 : ∃ gt fr, _ := (let ⟨gt, fr, h8⟩ := hg0; ⟨gt, fr, hM253 _ _ h8⟩)
        replace hg1 : ∃ gt fr, _ := (let ⟨gt, fr, h8⟩ := hg1; ⟨gt, fr, hM253 _ _ h8⟩)
        replace HM := Hp.le_trans HM hM253
        replace LE64 := Hp.le_trans LE64 hM253
        replace LE169 := Hp.le_trans LE169 hM253
        replace hr0_0 := SlR.mono hr0_0 hM253
        replace hm0_2_11 := MRel.mono hm0_2_11 hM253
        replace hr2_0 := SlR.mono hr2_0 hM253
        replace E := E.trans E'
        replace S : St w251 M252 F [_, _, _, _, _, _, _, _, _, _, _, _, _] := S
        refine Wl_nil (on_n ⟨.inr ⟨M252, LE169, (S.pick [3, 4, 5, 6, 7, 8, 9, 10, 11, 12] (by decide))⟩, ?_⟩)
        refine Wa_takeY (i := 24) rfl (by kernel_rfl) rfl rfl (.bool (t243.1 != (0 : Int))) rfl (congrArg some hb215) (fun w' h' => x_ibin rfl rfl rfl rfl) (⟨M252, LE169, (S.pick [3, 4, 5, 6, 7, 8, 9, 10, 11, 12] (by decide))⟩) (Wa_take (i := 25) rfl (by kernel_rfl) rfl rfl (.bool (t243.1 != (0 : Int))) rfl (fun w' h' => x_pick (k := false) (congrArg Value.bool hb215) rfl) (⟨M252, LE169, (S.pick [3, 4, 5, 6, 7, 8, 9, 10, 11, 12] (by decide))⟩) ?_)
        exact hrest _ _ ⟨(t243.1 != (0 : Int)), t243.2.tasks, t243.2.l, A245, c246, A248, c249, M252, Option.some.inj H, ⟨rfl, rfl, rfl, rfl, rfl, trivial⟩, LE169, E, S.pick [2, 1, 0, 3, 4, 5, 6, 7, 8, 9, 10, 11, 12] (by decide)⟩
      rcases iteS H with ⟨hb254, H⟩ | ⟨hb254, H⟩
      · skip
        have D12 : ∃ Mx, Hp.le M70 Mx ∧ St _ Mx F [_, _, _, _, _, _, _, _, _, _] := ⟨_, Hp.le_refl _, S.pick [3, 4, 5, 6, 7, 8, 9, 10, 11, 12] (by decide)⟩
        refine Wa_takeY (i := 17) rfl (by kernel_rfl) rfl rfl (.func (.func 118) #[] #[]) rfl (congrArg some hb215) (fun w' h' => x_load (cls_frz h' hgx229) ty118 rfl (by rw [show a2.What = (3 : Int) from eq_of_beq hb254]; rfl)) D12 (Wa_takeY (i := 18) rfl (by kernel_rfl) rfl rfl (pt bo0 0) rfl (congrArg some hb215) (fun w' h' => x_move rfl) D12 (Wa_takeY (i := 19) rfl (by kernel_rfl) rfl rfl (pt bo0 0) rfl (congrArg some hb215) (fun w' h' => x_nilptr rfl) D12 (Wa_takeY (i := 20) rfl (by kernel_rfl) rfl rfl (pt bo0 1) rfl (congrArg some hb215) (fun w' h' => x_fieldAddr (o := 0) (off := 1) Tryd.underlying72 rfl ty70 rfl rfl) D12 (Wa_takeY (i := 21) rfl (by kernel_rfl) rfl rfl (pt bo0_1 0) rfl (congrArg some hb215) (fun w' h' => x_load (cls_blk h' 1 rfl) ty70 rfl rfl) D12 (Wa_takeY (i := 22) rfl (by kernel_rfl) rfl rfl (.agg #[.int .u8 a2.What, .int .i64 a2.Task, .int .i64 a2.Call, .int .i64 a2.Answer.Err, .bool a2.Answer.Found, .string (bs a2.Answer.Value), .slice A2_0 a2.Answer.Pairs.length c2_0]) rfl (congrArg some hb215) (fun w' h' => x_loadA (cls_blk h' 9 rfl) ty38 rfl (sub_of_extract rfl) rfl rfl) D12 ?_)))))
        refine Wa_solo (i := 23) rfl (by kernel_rfl) ?_
        refine W_yes (congrArg some hb215) ?_
        obtain ⟨t255, ht256, H⟩ := bindS H
        refine W_callv (fs := []) (cap := []) fn118 rfl (replay_steps_3_POO.con k M70 A0_1_0 c0_1_0 A0_1_1 c0_1_1 a0.r A2_0 c2_0 a2 bo0_1 t255 hr2_0 ht256) (Γ1 := [_, _, _]) (Γ2 := [_, _, _, _, _, _, _, _, _, _]) S rfl rfl ?_
        rintro _ w263 M264 Γ' hM265 E' S ⟨A257, c258, A260, c261, rfl, rfl⟩
        replace hg0 : ∃ gt fr, _ := (let ⟨gt, fr, h8⟩ := hg0; ⟨gt, fr, hM265 _ _ h8⟩)
        replace hg1 : ∃ gt fr, _ := (let ⟨gt, fr, h8⟩ := hg1; ⟨gt, fr, hM265 _ _ h8⟩)
        replace HM := Hp.le_trans HM hM265
        replace LE64 := Hp.le_trans LE64 hM265
        replace LE169 := Hp.le_trans LE169 hM265
        replace hr0_0 := SlR.mono hr0_0 hM265
        replace hm0_2_11 := MRel.mono hm0_2_11 hM265
        replace hr2_0 := SlR.mono hr2_0 hM265
        replace E := E.trans E'
        replace S : St w263 M264 F [_, _, _, _, _, _, _, _, _, _, _, _, _] := S
        refine Wl_nil (on_n ⟨.inr ⟨M264, LE169, (S.pick [3, 4, 5, 6, 7, 8, 9, 10, 11, 12] (by decide))⟩, ?_⟩)
        refine Wa_takeY (i := 24) rfl (by kernel_rfl) rfl rfl (.bool (t255.1 != (0 : Int))) rfl (congrArg some hb215) (fun w' h' => x_ibin rfl rfl rfl rfl) (⟨M264, LE169, (S.pick [3, 4, 5, 6, 7, 8, 9, 10, 11, 12] (by decide))⟩) (Wa_take (i := 25) rfl (by kernel_rfl) rfl rfl (.bool (t255.1 != (0 : Int))) rfl (fun w' h' => x_pick (k := false) (congrArg Value.bool hb215) rfl) (⟨M264, LE169, (S.pick [3, 4, 5, 6, 7, 8, 9, 10, 11, 12] (by decide))⟩) ?_)
        exact hrest _ _ ⟨(t255.1 != (0 : Int)), t255.2.tasks, t255.2.l, A257, c258, A260, c261, M264, Option.some.inj H, ⟨rfl, rfl, rfl, rfl, rfl, trivial⟩, LE169, E, S.pick [2, 1, 0, 3, 4, 5, 6, 7, 8, 9, 10, 11, 12] (by decide)⟩
      cases H
  rintro ρ w266 ⟨x216, x217, x221, A218, c219, A222, c223, M267, rfl, hρ, hM268, E, S⟩
  rw [agree_eta hρ]
  replace hg0 : ∃ gt fr, _ := (let ⟨gt, fr, h8⟩ := hg0; ⟨gt, fr, hM268 _ _ h8⟩)
  replace hg1 : ∃ gt fr, _ := (let ⟨gt, fr, h8⟩ := hg1; ⟨gt, fr, hM268 _ _ h8⟩)
  replace HM := Hp.le_trans HM hM268
  replace LE64 := Hp.le_trans LE64 hM268
  replace LE169 := Hp.le_trans LE169 hM268
  replace hr0_0 := SlR.mono hr0_0 hM268
  replace hm0_2_11 := MRel.mono hm0_2_11 hM268
  replace hr2_0 := SlR.mono hr2_0 hM268
  have H := o225H
  refine Wa_done (by kernel_rfl) ?_
  refine tn ?_
  rcases iteS H with ⟨hb269, H⟩ | ⟨hb269, H⟩
  · refine Wp_cond_true (congrArg Value.bool hb269) ?_
    refine Wp_seq (Wp_region_lit (W_v (.int .i64 4) (x_assign rfl) rfl (Wl_nil (tn ?_))))
    refine Wp_ret ?_
    refine tr (?_)
    obtain rfl := Option.some.inj H
    exact ⟨_, _, _, fun w1 e1 => run_resR (vs := [.int .i64 4]) (FA.cons (rfl) (FA.nil)), HM, E, S.pick [4, 2, 1, 0, 5, 6, 7, 8, 9, 10, 11] (by decide), ⟨A0_0, c0_0, A218, c219, A222, c223, A0_2_8, c0_2_8, A0_2_9, c0_2_9, A0_2_10, c0_2_10, A0_2_11, c0_2_11, vs0_2_11, A0_3, c0_3, A0_4, c0_4, rfl, hr0_0, hm0_2_11, rfl⟩⟩
  refine Wp_cond_false (congrArg Value.bool hb269) (Wp_skip (tn ?_))
  as_aux_lemma =>
  refine Wp_seq (Wp_seq (Wp_region_lit (W_v (pt b1 0) (x_fieldAddr (o := 0) (off := 0) Tryd.underlying38 rfl ty5 rfl rfl) rfl (W_v (.int .u8 a2.What) (x_load (S.blk 12 rfl) ty5 rfl rfl) rfl (Wl_nil (tn ?_))))))
  refine Wp_block ?_
  refine Wp_seq (Wp_region_lit (W_v (.bool (a2.What == (1 : Int))) (x_ibin rfl rfl rfl rfl) rfl (W_v (.bool (a2.What == (1 : Int))) (x_assign rfl) rfl (Wl_nil (tn ?_)))))
  rcases iteS H with ⟨hb270, H⟩ | ⟨hb270, H⟩
  · refine Wp_cond_true (congrArg Value.bool hb270) ?_
    refine Wp_seq ?_
    have LE276 := Hp.le_refl M267
    refine Wp_region_any (S := fun w' => ∃ Mx, M267.le Mx ∧ St w' Mx F [Row r_api_Event 38 (.slice A222 x221.length c223) x221, Row r_event_task 135 (.slice A218 x217.length c219) x217, Blk bo0_1 (.cells #[.slice A218 x217.length c219, .slice A222 x221.length c223] 130 (0, 0)), B42 b9 t4.1, B72 bo0 a0 A0_0 c0_0 bo0_1 bo0_2 A0_3 c0_3 A0_4 c0_4, B83 bo0_2 a0.m A0_2_8 A0_2_9 A0_2_10 c0_2_10 A0_2_11, MapC enc_model_name (Value.int .i64) A0_2_8 a0.m.names, MapC (Value.int .i64) (Value.int .i64) A0_2_9 a0.m.many, Row r_model_tx 109 (.slice A0_2_10 a0.m.txs.length c0_2_10) a0.m.txs, MapC encS (fun v : Value => v) A0_2_11 vs0_2_11, Row r_replay_Done 53 (.slice A0_3 a0.done.length c0_3) a0.done, Row (rInt .i64) 3 (.slice A0_4 a0.last.length c0_4) a0.last, B38 b1 a2 A2_0 c2_0]) (L := 12) mixed ?_
    intro w277 hw278 E'
    replace S := S.heap hw278
    replace E := E.trans E'
    have hr0_0z := hr0_0
    have hr2_0z := hr2_0
    have D13 : ∃ Mx, Hp.le M267 Mx ∧ St _ Mx F [_, _, _, _, _, _, _, _, _, _, _, _, _] := ⟨_, Hp.le_refl _, S.pick [0, 1, 2, 3, 4, 5, 6, 7, 8, 9, 10, 11, 12] (by decide)⟩
    refine Wa_take (i := 0) rfl (by kernel_rfl) rfl rfl (pt bo0 0) rfl (fun w' h' => x_move rfl) D13 (Wa_take (i := 1) rfl (by kernel_rfl) rfl rfl (pt bo0 0) rfl (fun w' h' => x_nilptr rfl) D13 (Wa_take (i := 2) rfl (by kernel_rfl) rfl rfl (pt bo0 1) rfl (fun w' h' => x_fieldAddr (o := 0) (off := 1) Tryd.underlying72 rfl ty70 rfl rfl) D13 (Wa_take (i := 3) rfl (by kernel_rfl) rfl rfl (pt bo0_1 0) rfl (fun w' h' => x_load (cls_blk h' 4 rfl) ty70 rfl rfl) D13 (Wa_take (i := 4) rfl (by kernel_rfl) rfl rfl (pt b1 1) rfl (fun w' h' => x_fieldAddr (o := 0) (off := 1) Tryd.underlying38 rfl ty3 rfl rfl) D13 (Wa_take (i := 5) rfl (by kernel_rfl) rfl rfl (.int .i64 a2.Task) rfl (fun w' h' => x_load (cls_blk h' 12 rfl) ty3 rfl rfl) D13 ?_)))))
    refine Wa_solo (i := 6) rfl (by kernel_rfl) ?_
    obtain ⟨t279, ht280, H⟩ := bindS H
    replace S : St w277 M267 F [_, _, _, _, _, _, _, _, _, _, _, _, _] := S.pick [2, 1, 0, 3, 4, 5, 6, 7, 8, 9, 10, 11, 12] (by decide)
    refine W_call fn43 (event_Recorder_Under_POO.con k M267 A218 c219 A222 c223 (⟨x217, x221⟩ : event_Recorder) a2.Task bo0_1 t279  ht280) (Γ1 := [_, _, _]) (Γ2 := [_, _, _, _, _, _, _, _, _, _]) S rfl rfl ?_
    rintro _ w281 M282 Γ' hM283 E' S ⟨rfl, rfl⟩
    replace hg0 : ∃ gt fr, _ := (let ⟨gt, fr, h8⟩ := hg0; ⟨gt, fr, hM283 _ _ h8⟩)
    replace hg1 : ∃ gt fr, _ := (let ⟨gt, fr, h8⟩ := hg1; ⟨gt, fr, hM283 _ _ h8⟩)
    replace HM := Hp.le_trans HM hM283
    replace LE64 := Hp.le_trans LE64 hM283
    replace hM268 := Hp.le_trans hM268 hM283
    replace LE276 := Hp.le_trans LE276 hM283
    replace hr0_0 := SlR.mono hr0_0 hM283
    replace hm0_2_11 := MRel.mono hm0_2_11 hM283
    replace hr2_0 := SlR.mono hr2_0 hM283
    replace E := E.trans E'
    replace S : St w281 M282 F [_, _, _, _, _, _, _, _, _, _, _, _, _] := S
    refine Wl_nil (on_n ⟨.inr ⟨M282, LE276, (S.pick [2, 1, 0, 3, 4, 5, 6, 7, 8, 9, 10, 11, 12] (by decide))⟩, ?_⟩)
    refine Wa_take (i := 7) rfl (by kernel_rfl) rfl rfl (.tuple #[.int .i64 t279.1, .bool t279.2.1, .bool t279.2.2]) rfl (fun w' h' => x_move rfl) (⟨M282, LE276, (S.pick [2, 1, 0, 3, 4, 5, 6, 7, 8, 9, 10, 11, 12] (by decide))⟩) (Wa_take (i := 8) rfl (by kernel_rfl) rfl rfl (.int .i64 t279.1) rfl (fun w' h' => x_extract rfl rfl) (⟨M282, LE276, (S.pick [2, 1, 0, 3, 4, 5, 6, 7, 8, 9, 10, 11, 12] (by decide))⟩) (Wa_take (i := 9) rfl (by kernel_rfl) rfl rfl (.bool t279.2.1) rfl (fun w' h' => x_extract rfl rfl) (⟨M282, LE276, (S.pick [2, 1, 0, 3, 4, 5, 6, 7, 8, 9, 10, 11, 12] (by decide))⟩) (Wa_take (i := 10) rfl (by kernel_rfl) rfl rfl (.bool t279.2.2) rfl (fun w' h' => x_extract rfl rfl) (⟨M282, LE276, (S.pick [2, 1, 0, 3, 4, 5, 6, 7, 8, 9, 10, 11, 12] (by decide))⟩) (Wa_take (i := 11) rfl (by kernel_rfl) rfl rfl (.int .i64 t279.1) rfl (fun w' h' => x_assign rfl) (⟨M282, LE276, (S.pick [2, 1, 0, 3, 4, 5, 6, 7, 8, 9, 10, 11, 12] (by decide))⟩) ?_))))
    refine Wa_done (by kernel_rfl) ?_
    refine tn (Wp_seq (Wp_region_lit (W_v (.int .i64 t279.1) (x_move rfl) rfl (W_v (pt b1 2) (x_fieldAddr (o := 0) (off := 2) Tryd.underlying38 rfl ty3 rfl rfl) rfl (W_v (.int .i64 a2.Call) (x_load (S.blk 12 rfl) ty3 rfl rfl) rfl (W_v (.bool (t279.1 != a2.Call)) (x_ibin rfl rfl rfl rfl) rfl (Wl_nil (tn ?_))))))))
    rcases iteS H with ⟨hb284, H⟩ | ⟨hb284, H⟩
    · refine Wp_cond_true (congrArg Value.bool hb284) ?_
      refine Wp_seq (Wp_region_lit (W_v (.int .i64 4) (x_assign rfl) rfl (Wl_nil (tn ?_))))
      refine Wp_ret ?_
      refine br (tr (?_))
      obtain rfl := Option.some.inj H
      exact ⟨_, _, _, fun w1 e1 => run_resR (vs := [.int .i64 4]) (FA.cons (rfl) (FA.nil)), HM, E, S.pick [4, 0, 1, 2, 5, 6, 7, 8, 9, 10, 11] (by decide), ⟨A0_0, c0_0, A218, c219, A222, c223, A0_2_8, c0_2_8, A0_2_9, c0_2_9, A0_2_10, c0_2_10, A0_2_11, c0_2_11, vs0_2_11, A0_3, c0_3, A0_4, c0_4, rfl, hr0_0, hm0_2_11, rfl⟩⟩
    refine Wp_cond_false (congrArg Value.bool hb284) (Wp_skip (bn (tn (Wp_seq (Wp_region_lit (W_v (.int .i64 0) (x_assign rfl) rfl (Wl_nil (tn ?_))))))))
    refine Wp_ret ?_
    obtain rfl := Option.some.inj H
    exact ⟨_, _, _, fun w1 e1 => run_resR (vs := [.int .i64 0]) (FA.cons (rfl) (FA.nil)), HM, E, S.pick [4, 0, 1, 2, 5, 6, 7, 8, 9, 10, 11] (by decide), ⟨A0_0, c0_0, A218, c219, A222, c223, A0_2_8, c0_2_8, A0_2_9, c0_2_9, A0_2_10, c0_2_10, A0_2_11, c0_2_11, vs0_2_11, A0_3, c0_3, A0_4, c0_4, rfl, hr0_0, hm0_2_11, rfl⟩⟩
  refine Wp_cond_false (congrArg Value.bool hb270) ?_
  as_aux_lemma =>
  refine Wp_seq (Wp_region_lit (W_v (.bool (a2.What == (2 : Int))) (x_ibin rfl rfl rfl rfl) rfl (W_v (.bool (a2.What == (2 : Int))) (x_assign rfl) rfl (Wl_nil (tn ?_)))))
  rcases iteS H with ⟨hb285, H⟩ | ⟨hb285, H⟩
  · refine Wp_cond_true (congrArg Value.bool hb285) ?_
    refine Wp_seq ?_
    refine Wp_region_any (S := fun w' => ∃ Mx, M267.le Mx ∧ St w' Mx F [Row r_api_Event 38 (.slice A222 x221.length c223) x221, Row r_event_task 135 (.slice A218 x217.length c219) x217, Blk bo0_1 (.cells #[.slice A218 x217.length c219, .slice A222 x221.length c223] 130 (0, 0)), B42 b9 t4.1, B72 bo0 a0 A0_0 c0_0 bo0_1 bo0_2 A0_3 c0_3 A0_4 c0_4, B83 bo0_2 a0.m A0_2_8 A0_2_9 A0_2_10 c0_2_10 A0_2_11, MapC enc_model_name (Value.int .i64) A0_2_8 a0.m.names, MapC (Value.int .i64) (Value.int .i64) A0_2_9 a0.m.many, Row r_model_tx 109 (.slice A0_2_10 a0.m.txs.length c0_2_10) a0.m.txs, MapC encS (fun v : Value => v) A0_2_11 vs0_2_11, Row r_replay_Done 53 (.slice A0_3 a0.done.length c0_3) a0.done, Row (rInt .i64) 3 (.slice A0_4 a0.last.length c0_4) a0.last, B38 b1 a2 A2_0 c2_0]) (L := 12) mixed ?_
    intro w296 hw297 E'
    replace S := S.heap hw297
    replace E := E.trans E'
    have D14 : ∃ Mx, Hp.le M267 Mx ∧ St _ Mx F [_, _, _, _, _, _, _, _, _, _, _, _, _] := ⟨_, Hp.le_refl _, S.pick [0, 1, 2, 3, 4, 5, 6, 7, 8, 9, 10, 11, 12] (by decide)⟩
    refine Wa_take (i := 0) rfl (by kernel_rfl) rfl rfl (pt bo0 0) rfl (fun w' h' => x_move rfl) D14 (Wa_take (i := 1) rfl (by kernel_rfl) rfl rfl (pt bo0 0) rfl (fun w' h' => x_nilptr rfl) D14 (Wa_take (i := 2) rfl (by kernel_rfl) rfl rfl (pt bo0 4) rfl (fun w' h' => x_fieldAddr (o := 0) (off := 4) Tryd.underlying72 rfl ty30 rfl rfl) D14 (Wa_take (i := 3) rfl (by kernel_rfl) rfl rfl (.slice A0_4 a0.last.length c0_4) rfl (fun w' h' => x_load (cls_blk h' 4 rfl) ty30 rfl rfl) D14 (Wa_take (i := 4) rfl (by kernel_rfl) rfl rfl (pt b1 1) rfl (fun w' h' => x_fieldAddr (o := 0) (off := 1) Tryd.underlying38 rfl ty3 rfl rfl) D14 (Wa_take (i := 5) rfl (by kernel_rfl) rfl rfl (.int .i64 a2.Task) rfl (fun w' h' => x_load (cls_blk h' 12 rfl) ty3 rfl rfl) D14 (Wa_take (i := 6) rfl (by kernel_rfl) rfl rfl (pt bo0 0) rfl (fun w' h' => x_move rfl) D14 (Wa_take (i := 7) rfl (by kernel_rfl) rfl rfl (pt bo0 0) rfl (fun w' h' => x_nilptr rfl) D14 (Wa_take (i := 8) rfl (by kernel_rfl) rfl rfl (pt bo0 3) rfl (fun w' h' => x_fieldAddr (o := 0) (off := 3) Tryd.underlying72 rfl ty50 rfl rfl) D14 (Wa_take (i := 9) rfl (by kernel_rfl) rfl rfl (.slice A0_3 a0.done.length c0_3) rfl (fun w' h' => x_load (cls_blk h' 4 rfl) ty50 rfl rfl) D14 (Wa_take (i := 10) rfl (by kernel_rfl) rfl rfl (.int .i64 (a0.done.length : Int)) rfl (fun w' h' => x_len_slice (n := a0.done.length) Tryd.underlying50 rfl) D14 ?_))))))))))
    obtain ⟨⟨p298, p299⟩, H⟩ := chkS H
    obtain ⟨b300, o301, _, _, _, ee302, _⟩ := SlW.at' (S.row_read 11 rfl) p298 p299
    refine Wa_take (i := 11) rfl (by kernel_rfl) rfl rfl (.pointer (some ⟨b300, o301 + a2.Task.toNat * 1, none⟩)) rfl (fun w' h' => x_indexAddr Tryd.underlying30 ty3 (slA ee302) rfl p298 p299) D14 ?_
    refine Wa_solo (i := 12) rfl (by kernel_rfl) ?_
    obtain ⟨x304, he305, H⟩ := bindS H
    replace he305 := Option.some.inj he305
    refine W_rowstore S 11 rfl rfl ee302 (by first | exact p298 | simpa using p298) (by first | exact p299 | simpa using p299) 0 ty3 rfl rfl [.int .i64 (a0.done.length : Int)] rfl rfl rfl rfl (a0.done.length : Int) (by rintro _ rfl; rfl) he305 ?_
    intro w303 E' S
    replace E := E.trans E'
    have hs306 : Value.slice A0_4 a0.last.length c0_4 = Value.slice A0_4 x304.length c0_4 := by rw [← he305, List.length_set]
    try unfold B38 at S
    try unfold B42 at S
    try unfold B72 at S
    try unfold B83 at S
    try rw [hs306] at S
    try rw [hs306]
    have p307 : a2.Task < (x304.length : Int) := by rw [← he305, List.length_set]; exact p299
    refine Wl_nil (on_n ⟨.inl (by decide), ?_⟩)
    refine Wa_done (by kernel_rfl) ?_
    refine tn ?_
    have LE345 := Hp.le_refl M267
    refine Wp_region_any (S := fun w' => ∃ Mx, M267.le Mx ∧ St w' Mx F [Row r_api_Event 38 (.slice A222 x221.length c223) x221, Row r_event_task 135 (.slice A218 x217.length c219) x217, Blk bo0_1 (.cells #[.slice A218 x217.length c219, .slice A222 x221.length c223] 130 (0, 0)), B42 b9 t4.1, Blk bo0 (.cells #[.slice A0_0 a0.programs.length c0_0, pt bo0_1 0, pt bo0_2 0, .slice A0_3 a0.done.length c0_3, .slice A0_4 x304.length c0_4] 72 (0, 0)), Row (rInt .i64) 3 (.slice A0_4 x304.length c0_4) x304, B38 b1 a2 A2_0 c2_0]) (L := 23) mixed ?_
    intro w346 hw347 E'
    replace S := S.heap hw347
    replace E := E.trans E'
    have hr0_0z := hr0_0
    have hr2_0z := hr2_0
    have D15 : ∃ Mx, Hp.le M267 Mx ∧ St _ Mx F [_, _, _, _, _, _, _] := ⟨_, Hp.le_refl _, S.pick [0, 1, 2, 3, 4, 11, 12] (by decide)⟩
    refine Wa_take (i := 0) rfl (by kernel_rfl) rfl rfl (pt bo0 0) rfl (fun w' h' => x_move rfl) D15 (Wa_take (i := 1) rfl (by kernel_rfl) rfl rfl (pt bo0 0) rfl (fun w' h' => x_move rfl) D15 (Wa_take (i := 2) rfl (by kernel_rfl) rfl rfl (pt bo0 0) rfl (fun w' h' => x_nilptr rfl) D15 (Wa_take (i := 3) rfl (by kernel_rfl) rfl rfl (pt bo0 3) rfl (fun w' h' => x_fieldAddr (o := 0) (off := 3) Tryd.underlying72 rfl ty50 rfl rfl) D15 (Wa_take (i := 4) rfl (by kernel_rfl) rfl rfl (.slice A0_3 a0.done.length c0_3) rfl (fun w' h' => x_load (cls_blk h' 4 rfl) ty50 rfl rfl) D15 (Wa_take (i := 5) rfl (by kernel_rfl) rfl rfl (pt b1 1) rfl (fun w' h' => x_fieldAddr (o := 0) (off := 1) Tryd.underlying38 rfl ty3 rfl rfl) D15 (Wa_take (i := 6) rfl (by kernel_rfl) rfl rfl (.int .i64 a2.Task) rfl (fun w' h' => x_load (cls_blk h' 6 rfl) ty3 rfl rfl) D15 (Wa_take (i := 7) rfl (by kernel_rfl) rfl rfl (pt b1 2) rfl (fun w' h' => x_fieldAddr (o := 0) (off := 2) Tryd.underlying38 rfl ty3 rfl rfl) D15 (Wa_take (i := 8) rfl (by kernel_rfl) rfl rfl (.int .i64 a2.Call) rfl (fun w' h' => x_load (cls_blk h' 6 rfl) ty3 rfl rfl) D15 (Wa_take (i := 9) rfl (by kernel_rfl) rfl rfl (pt bo0 0) rfl (fun w' h' => x_move rfl) D15 (Wa_take (i := 10) rfl (by kernel_rfl) rfl rfl (pt bo0 0) rfl (fun w' h' => x_nilptr rfl) D15 (Wa_take (i := 11) rfl (by kernel_rfl) rfl rfl (pt bo0 2) rfl (fun w' h' => x_fieldAddr (o := 0) (off := 2) Tryd.underlying72 rfl ty54 rfl rfl) D15 (Wa_take (i := 12) rfl (by kernel_rfl) rfl rfl (pt bo0_2 0) rfl (fun w' h' => x_load (cls_blk h' 4 rfl) ty54 rfl rfl) D15 (Wa_take (i := 13) rfl (by kernel_rfl) rfl rfl (pt b1 1) rfl (fun w' h' => x_fieldAddr (o := 0) (off := 1) Tryd.underlying38 rfl ty3 rfl rfl) D15 (Wa_take (i := 14) rfl (by kernel_rfl) rfl rfl (.int .i64 a2.Task) rfl (fun w' h' => x_load (cls_blk h' 6 rfl) ty3 rfl rfl) D15 (Wa_take (i := 15) rfl (by kernel_rfl) rfl rfl (.agg #[.int .u8 t4.1.Kind, .int .i64 t4.1.Tx, .string (bs t4.1.Key), .string (bs t4.1.End), .string (bs t4.1.Value), .int .i64 t4.1.Limit, .int .u8 t4.1.Engine]) rfl (fun w' h' => x_loadA (cls_blk h' 3 rfl) ty42 rfl (sub_of_extract rfl) rfl rfl) D15 ?_)))))))))))))))
    refine Wa_take (i := 17) rfl (by kernel_rfl) rfl rfl (.int .i64 a1) rfl (fun w' h' => x_move rfl) D15 ?_
    refine Wa_solo (i := 16) rfl (by kernel_rfl) ?_
    obtain ⟨t348, ht349, H⟩ := bindS H
    replace S : St w346 M267 F [_, _, _, _, _, _, _, _, _, _, _, _, _] := S.pick [5, 6, 7, 8, 9, 0, 1, 2, 3, 4, 10, 11, 12] (by decide)
    refine W_call fn24 (model_Model_Do_POOOO.con k M267 A0_2_8 c0_2_8 A0_2_9 c0_2_9 A0_2_10 c0_2_10 A0_2_11 c0_2_11 vs0_2_11 a0.m a2.Task t4.1 bo0_2 t348 hm0_2_11 hg0 hg1 ht349) (Γ1 := [_, _, _, _, _]) (Γ2 := [_, _, _, _, _, _, _, _]) S rfl rfl ?_
    rintro _ w367 M368 Γ' hM369 E' S ⟨A350, c351, A353, c354, A356, c357, A359, c360, A362, c363, vs365, rfl, hm366, rfl⟩
    replace hg0 : ∃ gt fr, _ := (let ⟨gt, fr, h8⟩ := hg0; ⟨gt, fr, hM369 _ _ h8⟩)
    replace hg1 : ∃ gt fr, _ := (let ⟨gt, fr, h8⟩ := hg1; ⟨gt, fr, hM369 _ _ h8⟩)
    replace HM := Hp.le_trans HM hM369
    replace LE64 := Hp.le_trans LE64 hM369
    replace hM268 := Hp.le_trans hM268 hM369
    replace LE345 := Hp.le_trans LE345 hM369
    replace hr0_0 := SlR.mono hr0_0 hM369
    replace hm0_2_11 := MRel.mono hm0_2_11 hM369
    replace hr2_0 := SlR.mono hr2_0 hM369
    replace E := E.trans E'
    replace S : St w367 M368 F [_, _, _, _, _, _, _, _, _, _, _, _, _, _] := S
    refine Wl_nil (on_n ⟨.inr ⟨M368, LE345, (S.pick [6, 7, 8, 9, 10, 12, 13] (by decide))⟩, ?_⟩)
    refine Wa_take (i := 18) rfl (by kernel_rfl) rfl rfl (.agg #[.int .i64 (a2.Task), .int .i64 (a2.Call), .int .i64 t348.1.Err, .bool t348.1.Found, .string (bs t348.1.Value), .slice A350 t348.1.Pairs.length c351, .int .i64 a1, .int .i64 (-1)]) rfl (fun w' h' => x_build2 (pl := [(0, 1), (1, 1), (2, 4), (6, 1), (7, 1)]) #[.int .i64 (a2.Task), .int .i64 (a2.Call), .int .i64 t348.1.Err, .bool t348.1.Found, .string (bs t348.1.Value), .slice A350 t348.1.Pairs.length c351, .int .i64 a1, .int .i64 (-1)] Tryd.underlying53 ty53 (by as_aux_lemma => kernel_rfl) rfl (by as_aux_lemma => kernel_rfl)) (⟨M368, LE345, (S.pick [6, 7, 8, 9, 10, 12, 13] (by decide))⟩) ?_
    refine Wa_solo (i := 19) rfl (by kernel_rfl) ?_
    obtain ⟨M370, hM371, hf372, S⟩ := S.row_freeze 0 rfl
    replace hg0 : ∃ gt fr, _ := (let ⟨gt, fr, h8⟩ := hg0; ⟨gt, fr, hM371 _ _ h8⟩)
    replace hg1 : ∃ gt fr, _ := (let ⟨gt, fr, h8⟩ := hg1; ⟨gt, fr, hM371 _ _ h8⟩)
    replace HM := Hp.le_trans HM hM371
    replace LE64 := Hp.le_trans LE64 hM371
    replace hM268 := Hp.le_trans hM268 hM371
    replace LE345 := Hp.le_trans LE345 hM371
    replace hr0_0 := SlR.mono hr0_0 hM371
    replace hm0_2_11 := MRel.mono hm0_2_11 hM371
    replace hr2_0 := SlR.mono hr2_0 hM371
    replace hm366 := MRel.mono hm366 hM371
    refine W_bslice S #[.int .i64 (a2.Task), .int .i64 (a2.Call), .int .i64 t348.1.Err, .bool t348.1.Found, .string (bs t348.1.Value), .slice A350 t348.1.Pairs.length c351, .int .i64 a1, .int .i64 (-1)] Tryd.underlying50 ty53 rfl rfl #[.int .i64 0, .int .i64 0, .int .i64 0, .bool false, .string (bs ([] : Str)), .slice none 0 0, .int .i64 0, .int .i64 0] (by as_aux_lemma => kernel_rfl) (by as_aux_lemma => kernel_rfl) rfl ?_
    intro b373 w374 E' S
    replace E := E.trans E'
    replace S := S.blk_row (r := r_replay_Done) (l := ([(⟨(a2.Task), (a2.Call), ⟨t348.1.Err, t348.1.Found, t348.1.Value, t348.1.Pairs⟩, a1, (-1 : Int)⟩ : replay_Done)] : List replay_Done)) 0 rfl 1 (Nat.le_refl 1) rfl (Cells.cons (vs := [.int .i64 (a2.Task), .int .i64 (a2.Call), .int .i64 t348.1.Err, .bool t348.1.Found, .string (bs t348.1.Value), .slice A350 t348.1.Pairs.length c351, .int .i64 a1, .int .i64 (-1)]) (⟨_, hf372, rfl⟩) Cells.nil)
    refine Wl_nil (on_n ⟨.inr ⟨M370, LE345, (S.pick [6, 7, 8, 9, 10, 12, 13] (by decide))⟩, ?_⟩)
    refine Wa_solo (i := 20) rfl (by kernel_rfl) ?_
    obtain ⟨p376, H⟩ := chkS H
    obtain ⟨src377, hs378, hC379⟩ := src_of_read (P := Tryd.prog) (ρ := r_replay_Done) (l := ([(⟨(a2.Task), (a2.Call), ⟨t348.1.Err, t348.1.Found, t348.1.Value, t348.1.Pairs⟩, a1, (-1 : Int)⟩ : replay_Done)] : List replay_Done)) (S.row_read 0 rfl) (by decide)
    refine W_append S 11 rfl rfl rfl Tryd.underlying50 (.inl Tryd.underlying50) ty53 rfl (by decide) (by decide) hs378 hC379 rfl (by omega) rfl ?_
    intro v380 w381 E' S
    replace E := E.trans E'
    obtain ⟨A382, c383, rfl, _⟩ := (S.row_read 11 rfl).form
    refine Wl_nil (on_n ⟨.inr ⟨M370, LE345, (S.pick [6, 7, 8, 9, 10, 12, 13] (by decide))⟩, ?_⟩)
    refine Wa_take (i := 21) rfl (by kernel_rfl) rfl rfl (pt bo0 0) rfl (fun w' h' => x_nilptr rfl) (⟨M370, LE345, (S.pick [6, 7, 8, 9, 10, 12, 13] (by decide))⟩) (Wa_take (i := 22) rfl (by kernel_rfl) rfl rfl (pt bo0 3) rfl (fun w' h' => x_fieldAddr (o := 0) (off := 3) Tryd.underlying72 rfl ty50 rfl rfl) (⟨M370, LE345, (S.pick [6, 7, 8, 9, 10, 12, 13] (by decide))⟩) ?_)
    refine Wa_solo (i := 23) rfl (by kernel_rfl) ?_
    refine W_store S 10 rfl ty50 rfl rfl [.slice A382 (a0.done ++ ([(⟨(a2.Task), (a2.Call), ⟨t348.1.Err, t348.1.Found, t348.1.Value, t348.1.Pairs⟩, a1, (-1 : Int)⟩ : replay_Done)] : List replay_Done)).length c383] rfl rfl rfl #[.slice A0_0 a0.programs.length c0_0, pt bo0_1 0, pt bo0_2 0, .slice A382 (a0.done ++ ([(⟨(a2.Task), (a2.Call), ⟨t348.1.Err, t348.1.Found, t348.1.Value, t348.1.Pairs⟩, a1, (-1 : Int)⟩ : replay_Done)] : List replay_Done)).length c383, .slice A0_4 x304.length c0_4] rfl rfl ?_
    intro w384 E' S
    replace E := E.trans E'
    refine Wl_nil (on_n ⟨.inl (by decide), ?_⟩)
    refine Wa_done (by kernel_rfl) ?_
    refine bn (tn (Wp_seq (Wp_region_lit (W_v (.int .i64 0) (x_assign rfl) rfl (Wl_nil (tn ?_))))))
    refine Wp_ret ?_
    obtain rfl := Option.some.inj H
    exact ⟨_, _, _, fun w1 e1 => run_resR (vs := [.int .i64 0]) (FA.cons (rfl) (FA.nil)), HM, E, S.pick [10, 8, 7, 6, 1, 2, 3, 4, 5, 11, 12] (by decide), ⟨A0_0, c0_0, A218, c219, A222, c223, A353, c354, A356, c357, A359, c360, A362, c363, vs365, A382, c383, A0_4, c0_4, rfl, hr0_0, hm366, rfl⟩⟩
  refine Wp_cond_false (congrArg Value.bool hb285) ?_
  as_aux_lemma =>
  refine Wp_seq (Wp_region_lit (W_v (.bool (a2.What == (3 : Int))) (x_ibin rfl rfl rfl rfl) rfl (W_v (.bool (a2.What == (3 : Int))) (x_assign rfl) rfl (Wl_nil (tn ?_)))))
  rcases iteS H with ⟨hb385, H⟩ | ⟨hb385, H⟩
  · refine Wp_cond_true (congrArg Value.bool hb385) ?_
    refine Wp_seq ?_
    refine Wp_region_any (S := fun w' => ∃ Mx, M267.le Mx ∧ St w' Mx F [Row r_api_Event 38 (.slice A222 x221.length c223) x221, Row r_event_task 135 (.slice A218 x217.length c219) x217, Blk bo0_1 (.cells #[.slice A218 x217.length c219, .slice A222 x221.length c223] 130 (0, 0)), B42 b9 t4.1, B72 bo0 a0 A0_0 c0_0 bo0_1 bo0_2 A0_3 c0_3 A0_4 c0_4, B83 bo0_2 a0.m A0_2_8 A0_2_9 A0_2_10 c0_2_10 A0_2_11, MapC enc_model_name (Value.int .i64) A0_2_8 a0.m.names, MapC (Value.int .i64) (Value.int .i64) A0_2_9 a0.m.many, Row r_model_tx 109 (.slice A0_2_10 a0.m.txs.length c0_2_10) a0.m.txs, MapC encS (fun v : Value => v) A0_2_11 vs0_2_11, Row r_replay_Done 53 (.slice A0_3 a0.done.length c0_3) a0.done, Row (rInt .i64) 3 (.slice A0_4 a0.last.length c0_4) a0.last, B38 b1 a2 A2_0 c2_0]) (L := 14) mixed ?_
    intro w405 hw406 E'
    replace S := S.heap hw406
    replace E := E.trans E'
    have D16 : ∃ Mx, Hp.le M267 Mx ∧ St _ Mx F [_, _, _, _, _, _, _, _, _, _, _, _, _] := ⟨_, Hp.le_refl _, S.pick [0, 1, 2, 3, 4, 5, 6, 7, 8, 9, 10, 11, 12] (by decide)⟩
    refine Wa_take (i := 0) rfl (by kernel_rfl) rfl rfl (pt bo0 0) rfl (fun w' h' => x_move rfl) D16 (Wa_take (i := 1) rfl (by kernel_rfl) rfl rfl (pt bo0 0) rfl (fun w' h' => x_nilptr rfl) D16 (Wa_take (i := 2) rfl (by kernel_rfl) rfl rfl (pt bo0 3) rfl (fun w' h' => x_fieldAddr (o := 0) (off := 3) Tryd.underlying72 rfl ty50 rfl rfl) D16 (Wa_take (i := 3) rfl (by kernel_rfl) rfl rfl (.slice A0_3 a0.done.length c0_3) rfl (fun w' h' => x_load (cls_blk h' 4 rfl) ty50 rfl rfl) D16 (Wa_take (i := 4) rfl (by kernel_rfl) rfl rfl (pt bo0 0) rfl (fun w' h' => x_move rfl) D16 (Wa_take (i := 5) rfl (by kernel_rfl) rfl rfl (pt bo0 0) rfl (fun w' h' => x_nilptr rfl) D16 (Wa_take (i := 6) rfl (by kernel_rfl) rfl rfl (pt bo0 4) rfl (fun w' h' => x_fieldAddr (o := 0) (off := 4) Tryd.underlying72 rfl ty30 rfl rfl) D16 (Wa_take (i := 7) rfl (by kernel_rfl) rfl rfl (.slice A0_4 a0.last.length c0_4) rfl (fun w' h' => x_load (cls_blk h' 4 rfl) ty30 rfl rfl) D16 (Wa_take (i := 8) rfl (by kernel_rfl) rfl rfl (pt b1 1) rfl (fun w' h' => x_fieldAddr (o := 0) (off := 1) Tryd.underlying38 rfl ty3 rfl rfl) D16 (Wa_take (i := 9) rfl (by kernel_rfl) rfl rfl (.int .i64 a2.Task) rfl (fun w' h' => x_load (cls_blk h' 12 rfl) ty3 rfl rfl) D16 ?_)))))))))
    obtain ⟨⟨p407, p408⟩, H⟩ := chkS H
    obtain ⟨b409, o410, _, _, _, ee411, _⟩ := SlW.at' (S.row_read 11 rfl) p407 p408
    refine Wa_take (i := 10) rfl (by kernel_rfl) rfl rfl (.pointer (some ⟨b409, o410 + a2.Task.toNat * 1, none⟩)) rfl (fun w' h' => x_indexAddr Tryd.underlying30 ty3 (slA ee411) rfl p407 p408) D16 (Wa_take (i := 11) rfl (by kernel_rfl) rfl rfl (.int .i64 (rd a0.last a2.Task)) rfl (fun w' h' => x_load_cls h' 11 rfl ee411 p407 p408 0 (by rintro _ _ rfl; rfl) ty3 rfl) D16 ?_)
    obtain ⟨⟨p412, p413⟩, H⟩ := chkS H
    obtain ⟨b414, o415, cs416, _, _, ee421, hb417, vs418, hR419, hc420⟩ := SlW.at' (S.row_read 10 rfl) p412 p413
    obtain ⟨v425, hs424, rfl⟩ := hR419
    obtain ⟨A422, c423, rfl, _⟩ := hs424.form
    refine Wa_take (i := 12) rfl (by kernel_rfl) rfl rfl (.pointer (some ⟨b414, o415 + (rd a0.last a2.Task).toNat * 8, none⟩)) rfl (fun w' h' => x_indexAddr Tryd.underlying50 ty53 (slA ee421) rfl p412 p413) D16 (Wa_take (i := 13) rfl (by kernel_rfl) rfl rfl (.pointer (some ⟨b414, o415 + (rd a0.last a2.Task).toNat * 8, none⟩)) rfl (fun w' h' => x_assign rfl) D16 ?_)
    refine Wa_done (by kernel_rfl) ?_
    refine tn (Wp_seq (Wp_region_lit (W_v (.pointer (some ⟨b414, o415 + (rd a0.last a2.Task).toNat * 8, none⟩)) (x_move rfl) rfl (W_v (.int .i64 a1) (x_move rfl) rfl (W_v (.pointer (some ⟨b414, o415 + (rd a0.last a2.Task).toNat * 8, none⟩)) (x_nilptr rfl) rfl (W_v (.pointer (some ⟨b414, o415 + (rd a0.last a2.Task).toNat * 8 + 7, none⟩)) (x_fieldAddr (o := o415 + (rd a0.last a2.Task).toNat * 8) (off := 7) Tryd.underlying53 rfl ty3 rfl rfl) rfl ?_))))))
    obtain ⟨x427, he428, H⟩ := bindS H
    replace he428 := Option.some.inj he428
    refine W_rowstore S 10 rfl rfl ee421 (by first | exact p412 | simpa using p412) (by first | exact p413 | simpa using p413) 7 ty3 rfl rfl [.int .i64 a1] rfl rfl rfl rfl (⟨(rd a0.done (rd a0.last a2.Task)).Task, (rd a0.done (rd a0.last a2.Task)).Call, ⟨(rd a0.done (rd a0.last a2.Task)).Answer.Err, (rd a0.done (rd a0.last a2.Task)).Answer.Found, (rd a0.done (rd a0.last a2.Task)).Answer.Value, (rd a0.done (rd a0.last a2.Task)).Answer.Pairs⟩, (rd a0.done (rd a0.last a2.Task)).Mark, a1⟩ : replay_Done) (by rintro _ ⟨_, h5, rfl⟩; exact ⟨_, h5, rfl⟩) he428 ?_
    intro w426 E' S
    replace E := E.trans E'
    have hs429 : Value.slice A0_3 a0.done.length c0_3 = Value.slice A0_3 x427.length c0_3 := by rw [← he428, List.length_set]
    try unfold B38 at S
    try unfold B42 at S
    try unfold B72 at S
    try unfold B83 at S
    try rw [hs429] at S
    try rw [hs429]
    have p430 : (rd a0.last a2.Task) < (x427.length : Int) := by rw [← he428, List.length_set]; exact p413
    refine Wl_nil (tn (Wp_seq ?_))
    refine Wp_region_any (S := fun w' => ∃ Mx, M267.le Mx ∧ St w' Mx F [Row r_api_Event 38 (.slice A222 x221.length c223) x221, Row r_event_task 135 (.slice A218 x217.length c219) x217, Blk bo0_1 (.cells #[.slice A218 x217.length c219, .slice A222 x221.length c223] 130 (0, 0)), B42 b9 t4.1, Blk bo0 (.cells #[.slice A0_0 a0.programs.length c0_0, pt bo0_1 0, pt bo0_2 0, .slice A0_3 x427.length c0_3, .slice A0_4 a0.last.length c0_4] 72 (0, 0)), B83 bo0_2 a0.m A0_2_8 A0_2_9 A0_2_10 c0_2_10 A0_2_11, MapC enc_model_name (Value.int .i64) A0_2_8 a0.m.names, MapC (Value.int .i64) (Value.int .i64) A0_2_9 a0.m.many, Row r_model_tx 109 (.slice A0_2_10 a0.m.txs.length c0_2_10) a0.m.txs, MapC encS (fun v : Value => v) A0_2_11 vs0_2_11, Row r_replay_Done 53 (.slice A0_3 x427.length c0_3) x427, Row (rInt .i64) 3 (.slice A0_4 a0.last.length c0_4) a0.last, B38 b1 a2 A2_0 c2_0]) (L := 8) mixed ?_
    intro w446 hw447 E'
    replace S := S.heap hw447
    replace E := E.trans E'
    have D17 : ∃ Mx, Hp.le M267 Mx ∧ St _ Mx F [_, _, _, _, _, _, _, _, _, _, _, _, _] := ⟨_, Hp.le_refl _, S.pick [0, 1, 2, 3, 4, 5, 6, 7, 8, 9, 10, 11, 12] (by decide)⟩
    refine Wa_take (i := 0) rfl (by kernel_rfl) rfl rfl (.pointer (some ⟨b414, o415 + (rd a0.last a2.Task).toNat * 8, none⟩)) rfl (fun w' h' => x_move rfl) D17 (Wa_take (i := 1) rfl (by kernel_rfl) rfl rfl (.pointer (some ⟨b414, o415 + (rd a0.last a2.Task).toNat * 8, none⟩)) rfl (fun w' h' => x_nilptr rfl) D17 (Wa_take (i := 2) rfl (by kernel_rfl) rfl rfl (.pointer (some ⟨b414, o415 + (rd a0.last a2.Task).toNat * 8 + 2, none⟩)) rfl (fun w' h' => x_fieldAddr (o := o415 + (rd a0.last a2.Task).toNat * 8) (off := 2) Tryd.underlying53 rfl ty36 rfl rfl) D17 (Wa_take (i := 4) rfl (by kernel_rfl) rfl rfl (pt b1 3) rfl (fun w' h' => x_fieldAddr (o := 0) (off := 3) Tryd.underlying38 rfl ty36 rfl rfl) D17 (Wa_take (i := 5) rfl (by kernel_rfl) rfl rfl (.agg #[.int .i64 a2.Answer.Err, .bool a2.Answer.Found, .string (bs a2.Answer.Value), .slice A2_0 a2.Answer.Pairs.length c2_0]) rfl (fun w' h' => x_loadA (cls_blk h' 12 rfl) ty36 rfl (sub_of_extract rfl) rfl rfl) D17 ?_))))
    refine Wa_solo (i := 3) rfl (by kernel_rfl) ?_
    obtain ⟨b448, o449, cs450, _, _, ee455, hb451, vs452, hR453, hc454⟩ := SlW.at' (S.row_read 10 rfl) p412 p430
    obtain ⟨rfl, rfl⟩ : b448 = b414 ∧ o449 = o415 := by simpa using ee455.symm.trans ee421
    obtain ⟨v459, hs458, rfl⟩ := hR453
    obtain ⟨A456, c457, rfl, _⟩ := hs458.form
    refine W_v (.agg #[.int .i64 ((rd x427 (rd a0.last a2.Task)).Answer.Err), .bool ((rd x427 (rd a0.last a2.Task)).Answer.Found), .string (bs ((rd x427 (rd a0.last a2.Task)).Answer.Value)), .slice A456 ((rd x427 (rd a0.last a2.Task)).Answer.Pairs).length c457]) (x_loadA (Hp.of_get hb451) ty36 rfl (sub_el hc454 2 rfl) rfl rfl) rfl ?_
    refine Wl_nil (on_n ⟨.inr ⟨M267, Hp.le_refl M267, (S.pick [0, 1, 2, 3, 4, 5, 6, 7, 8, 9, 10, 11, 12] (by decide))⟩, ?_⟩)
    refine Wa_solo (i := 6) rfl (by kernel_rfl) ?_
    obtain ⟨t460, ht461, H⟩ := bindS H
    refine W_callF fn42 (model_Same.con k M267 A456 c457 ((rd x427 (rd a0.last a2.Task)).Answer) A2_0 c2_0 a2.Answer t460 hs458 hr2_0 ht461) S rfl rfl (by rintro _ _ _ ⟨_, rfl⟩; exact flat_nil) ?_
    rintro _ w462 _ Γ' E' S ⟨rfl, rfl⟩
    replace E := E.trans E'
    refine Wl_nil (on_n ⟨.inr ⟨M267, Hp.le_refl M267, (S.pick [0, 1, 2, 3, 4, 5, 6, 7, 8, 9, 10, 11, 12] (by decide))⟩, ?_⟩)
    refine Wa_take (i := 7) rfl (by kernel_rfl) rfl rfl (.bool (!t460)) rfl (fun w' h' => x_not (b := t460) rfl) (⟨M267, Hp.le_refl M267, (S.pick [0, 1, 2, 3, 4, 5, 6, 7, 8, 9, 10, 11, 12] (by decide))⟩) ?_
    refine Wa_done (by kernel_rfl) ?_
    refine tn ?_
    rcases iteS H with ⟨hb463, H⟩ | ⟨hb463, H⟩
    · refine Wp_cond_true (congrArg Value.bool hb463) ?_
      refine Wp_seq (Wp_region_lit (W_v (.int .i64 7) (x_assign rfl) rfl (Wl_nil (tn ?_))))
      refine Wp_ret ?_
      refine br (tr (?_))
      obtain rfl := Option.some.inj H
      exact ⟨_, _, _, fun w1 e1 => run_resR (vs := [.int .i64 7]) (FA.cons (rfl) (FA.nil)), HM, E, S.pick [4, 2, 1, 0, 5, 6, 7, 8, 9, 10, 11] (by decide), ⟨A0_0, c0_0, A218, c219, A222, c223, A0_2_8, c0_2_8, A0_2_9, c0_2_9, A0_2_10, c0_2_10, A0_2_11, c0_2_11, vs0_2_11, A0_3, c0_3, A0_4, c0_4, rfl, hr0_0, hm0_2_11, rfl⟩⟩
    refine Wp_cond_false (congrArg Value.bool hb463) (Wp_skip (bn (tn ?_)))
    as_aux_lemma =>
    refine Wp_seq (Wp_region_lit (W_v (.int .i64 0) (x_assign rfl) rfl (Wl_nil (tn ?_))))
    refine Wp_ret ?_
    obtain rfl := Option.some.inj H
    exact ⟨_, _, _, fun w1 e1 => run_resR (vs := [.int .i64 0]) (FA.cons (rfl) (FA.nil)), HM, E, S.pick [4, 2, 1, 0, 5, 6, 7, 8, 9, 10, 11] (by decide), ⟨A0_0, c0_0, A218, c219, A222, c223, A0_2_8, c0_2_8, A0_2_9, c0_2_9, A0_2_10, c0_2_10, A0_2_11, c0_2_11, vs0_2_11, A0_3, c0_3, A0_4, c0_4, rfl, hr0_0, hm0_2_11, rfl⟩⟩
  refine Wp_cond_false (congrArg Value.bool hb385) (Wp_skip (bn (tn ?_)))
  as_aux_lemma =>
  refine Wp_seq (Wp_region_lit (W_v (.int .i64 0) (x_assign rfl) rfl (Wl_nil (tn ?_))))
  refine Wp_ret ?_
  obtain rfl := Option.some.inj H
  exact ⟨_, _, _, fun w1 e1 => run_resR (vs := [.int .i64 0]) (FA.cons (rfl) (FA.nil)), HM, E, S.pick [4, 2, 1, 0, 5, 6, 7, 8, 9, 10, 11] (by decide), ⟨A0_0, c0_0, A218, c219, A222, c223, A0_2_8, c0_2_8, A0_2_9, c0_2_9, A0_2_10, c0_2_10, A0_2_11, c0_2_11, vs0_2_11, A0_3, c0_3, A0_4, c0_4, rfl, hr0_0, hm0_2_11, rfl⟩⟩
end Go.Proofs.YtkknoimjgifhlaaDoor
