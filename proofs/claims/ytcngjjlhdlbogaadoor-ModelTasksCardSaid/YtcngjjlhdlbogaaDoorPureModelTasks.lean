/-  The plain law ModelTasks. -/
import Derived.Test.YtcngjjlhdlbogaaDoorPureRun
import Derived.Test.YtcngjjlhdlbogaaDoorOpnm1
import Derived.Test.YtcngjjlhdlbogaaDoorGm1LModelTasks
namespace Go.Proofs.YtcngjjlhdlbogaaDoor
open Go Go.RowKit
set_option linter.unusedVariables false
set_option linter.unusedSimpArgs false
set_option maxRecDepth 100000
def rho (T d t : Int) : Int := if t + d < T then t + d else t + d - T
theorem rho_range {T d t : Int} (h0 : 0 ≤ t) (h1 : t < T) (d0 : 0 ≤ d) (d1 : d < T) : 0 ≤ rho T d t ∧ rho T d t < T := by unfold rho; split <;> omega
theorem rho_inj {T d s t : Int} (h0 : 0 ≤ t) (h1 : t < T) (g0 : 0 ≤ s) (g1 : s < T) (d0 : 0 ≤ d) (d1 : d < T) (e : rho T d s = rho T d t) : s = t := by unfold rho at e; split at e <;> split at e <;> omega
theorem tmod_rho {T d t : Int} (h0 : 0 ≤ t) (h1 : t < T) (d0 : 0 ≤ d) (d1 : d < T) : Int.tmod (t + d) T = rho T d t := by
  rw [Int.tmod_eq_emod_of_nonneg (by omega)]
  unfold rho
  split
  · exact Int.emod_eq_of_lt (by omega) (by assumption)
  · have : t + d = (t + d - T) + T := by omega
    rw [this, Int.add_emod_right]
    rw [Int.emod_eq_of_lt (by omega) (by omega)]; omega
/-- A model whose transactions are named otherwise. -/
def wN (N : List (model_name × Int)) (M : List (Int × Int)) (m : Mod) : Mod := { m with names := N, many := M }
def wA (N : List (model_name × Int)) (M : List (Int × Int)) (r : api_Answer × Mod) : api_Answer × Mod := (r.1, wN N M r.2)
theorem wA_ite {N : List (model_name × Int)} {M : List (Int × Int)} {p : Prop} [Decidable p] {a b : api_Answer × Mod} : wA N M (if p then a else b) = if p then wA N M a else wA N M b := by split <;> rfl
theorem writeS_w (N : List (model_name × Int)) (M : List (Int × Int)) (m : Mod) (k : Str) (v : api_Version) : writeS (wN N M m) k v = wA N M (writeS m k v) := by
  unfold writeS
  dsimp only
  rw [wA_ite, wA_ite, wA_ite]; rfl
theorem commitS_w (N : List (model_name × Int)) (M : List (Int × Int)) (m : Mod) (w : Int) : commitS (wN N M m) w = wA N M (commitS m w) := by
  unfold commitS
  rw [wA_ite, wA_ite]; rfl
theorem scanL_w (N : List (model_name × Int)) (M : List (Int × Int)) (m : Mod) (w : Int) (x : api_Call) : ∀ (L : List Str) (out : List api_Pair), scanL (wN N M m) w x L out = scanL m w x L out
  | [], _ => rfl
  | y :: t, out => by
    unfold scanL
    split
    · rfl
    · exact scanL_w N M m w x t _
structure Sim (T d : Int) (m n : Mod) : Prop where
  eq : n = wN n.names n.many m
  nm : ∀ t x, 0 ≤ t → t < T → mget n.names ⟨rho T d t, x⟩ = mget m.names ⟨t, x⟩
  mn : ∀ t, 0 ≤ t → t < T → (mget n.many (rho T d t)).getD 0 = (mget m.many t).getD 0
theorem Sim.tx {T d : Int} {m n : Mod} (S : Sim T d m n) {t : Int} (h0 : 0 ≤ t) (h1 : t < T) (x : Int) : txS n (rho T d t) x = txS m t x := by
  unfold txS
  rw [S.nm t x h0 h1, S.eq]; rfl
theorem Sim.bad {T d : Int} {m n : Mod} (S : Sim T d m n) (hT : m.c.Tasks = T) {t : Int} (h : ¬ (0 ≤ t ∧ t < T)) (x : api_Call) : doS m t x = (ans 1, m) ∧ doS n t x = (ans 1, n) := by
  have hn : n.c.Tasks = T := by rw [S.eq]; exact hT
  have e1 : refS m t x = 1 := by unfold refS; rw [if_pos (by omega)]
  have e2 : refS n t x = 1 := by unfold refS; rw [if_pos (by omega)]
  unfold doS
  rw [e1, e2]; exact ⟨rfl, rfl⟩
theorem Sim.good {T d : Int} {m n : Mod} (S : Sim T d m n) (hT : m.c.Tasks = T) (d0 : 0 ≤ d) (d1 : d < T) {t : Int} (h0 : 0 ≤ t) (h1 : t < T) (x : api_Call) :
    (doS n (rho T d t) x).1 = (doS m t x).1 ∧ Sim T d (doS m t x).2 (doS n (rho T d t) x).2 := by
  have hr := rho_range h0 h1 d0 d1
  have htx := S.tx h0 h1 x.Tx
  have hn : n.c = m.c := by rw [S.eq]; rfl
  have href : refS n (rho T d t) x = refS m t x := by
    unfold refS
    rw [htx, hn]
    have a : ¬ (rho T d t < 0 ∨ rho T d t ≥ m.c.Tasks) := by omega
    have b : ¬ (t < 0 ∨ t ≥ m.c.Tasks) := by omega
    have e : (rho T d t < 0 ∨ rho T d t ≥ m.c.Tasks ∨ x.Kind < 1 ∨ x.Kind > 9) ↔ (t < 0 ∨ t ≥ m.c.Tasks ∨ x.Kind < 1 ∨ x.Kind > 9) := by
      constructor
      · intro h; omega
      · intro h; omega
    by_cases c : t < 0 ∨ t ≥ m.c.Tasks ∨ x.Kind < 1 ∨ x.Kind > 9
    · rw [if_pos c, if_pos (e.2 c)]
    · rw [if_neg c, if_neg (fun h => c (e.1 h))]
  have keep : ∀ r : api_Answer × Mod, (r.2.names = m.names ∧ r.2.many = m.many) → (wA n.names n.many r).1 = r.1 ∧ Sim T d r.2 (wA n.names n.many r).2 := fun r hr => ⟨rfl, ⟨rfl, fun t x a b => by rw [hr.1]; exact S.nm t x a b, fun t a b => by rw [hr.2]; exact S.mn t a b⟩⟩
  have triv : (ans (refS m t x), n) = wA n.names n.many (ans (refS m t x), m) := by unfold wA; rw [← S.eq]
  unfold doS
  rw [href]
  by_cases c0 : refS m t x ≠ 0
  · rw [if_pos c0, if_pos c0, triv]; exact keep _ ⟨rfl, rfl⟩
  rw [if_neg c0, if_neg c0, htx]
  generalize (txS m t x.Tx).1 = w
  unfold actS
  by_cases c1 : x.Kind = 1
  · rw [if_pos c1, if_pos c1]
    have ha : activeN n = activeN m := by rw [S.eq]; rfl
    have hx : n.txs = m.txs := by rw [S.eq]; rfl
    have hc : n.clock = m.clock := by rw [S.eq]; rfl
    unfold beginS
    rw [ha, hn, hx, hc, S.mn t h0 h1]
    by_cases ca : (activeN m : Int) ≥ m.c.Active
    · rw [if_pos ca, if_pos ca]; exact ⟨rfl, S⟩
    · rw [if_neg ca, if_neg ca]
      refine ⟨rfl, ?_, fun u y a b => ?_, fun u a b => ?_⟩
      · rw [S.eq]; rfl
      · show mget (mput n.names ⟨rho T d t, (mget m.many t).getD 0 + 1⟩ _) ⟨rho T d u, y⟩ = mget (mput m.names ⟨t, (mget m.many t).getD 0 + 1⟩ _) ⟨u, y⟩
        rw [mget_mput, mget_mput]
        by_cases e : t = u
        · subst e
          by_cases e2 : (mget m.many t).getD 0 + 1 = y
          · subst e2; rw [if_pos rfl, if_pos rfl]
          · rw [if_neg (by simp [e2]), if_neg (by simp [e2])]; exact S.nm _ _ a b
        · have : rho T d t ≠ rho T d u := fun h => e (rho_inj a b h0 h1 d0 d1 h)
          rw [if_neg (by simp [this]), if_neg (by simp [e])]; exact S.nm _ _ a b
      · show (mget (mput n.many (rho T d t) _) (rho T d u)).getD 0 = (mget (mput m.many t _) u).getD 0
        rw [mget_mput, mget_mput]
        by_cases e : t = u
        · subst e; rw [if_pos rfl, if_pos rfl]
        · have : rho T d t ≠ rho T d u := fun h => e (rho_inj a b h0 h1 d0 d1 h)
          rw [if_neg this, if_neg e]; exact S.mn _ a b
  rw [if_neg c1, if_neg c1]
  by_cases c2 : x.Kind = 2
  · rw [if_pos c2, if_pos c2]
    have : (getS n w x, n) = wA n.names n.many (getS m w x, m) := by
      have e : getS n w x = getS m w x := by rw [S.eq]; rfl
      rw [e]; unfold wA; rw [← S.eq]
    rw [this]; exact keep _ ⟨rfl, rfl⟩
  rw [if_neg c2, if_neg c2]
  have wn : ∀ k v, (writeS m k v).2.names = m.names ∧ (writeS m k v).2.many = m.many := fun k v => by
    unfold writeS; dsimp only; split
    · exact ⟨rfl, rfl⟩
    split
    · exact ⟨rfl, rfl⟩
    split <;> exact ⟨rfl, rfl⟩
  have ww : ∀ k v, writeS n k v = wA n.names n.many (writeS m k v) := fun k v => by
    have := writeS_w n.names n.many m k v
    rw [← S.eq] at this; exact this
  by_cases c3 : x.Kind = 3
  · rw [if_pos c3, if_pos c3, ww]; exact keep _ (wn _ _)
  rw [if_neg c3, if_neg c3]
  by_cases c4 : x.Kind = 4
  · rw [if_pos c4, if_pos c4, ww]; exact keep _ (wn _ _)
  rw [if_neg c4, if_neg c4]
  by_cases c5 : x.Kind = 5
  · rw [if_pos c5, if_pos c5]
    have : (scanS n w x, n) = wA n.names n.many (scanS m w x, m) := by
      have e : scanS n w x = scanS m w x := by
        have := scanL_w n.names n.many m w x (keysS m) []
        rw [← S.eq] at this
        have ek : keysS n = keysS m := by rw [S.eq]; rfl
        unfold scanS; rw [ek, this]
      rw [e]; unfold wA; rw [← S.eq]
    rw [this]; exact keep _ ⟨rfl, rfl⟩
  rw [if_neg c5, if_neg c5]
  by_cases c6 : x.Kind = 6
  · rw [if_pos c6, if_pos c6]
    have := commitS_w n.names n.many m w
    rw [← S.eq] at this
    rw [this]
    refine keep _ ?_
    unfold commitS
    split
    · exact ⟨rfl, rfl⟩
    split <;> exact ⟨rfl, rfl⟩
  rw [if_neg c6, if_neg c6]
  by_cases c7 : x.Kind = 7
  · rw [if_pos c7, if_pos c7]
    have : (ans 0, endS n w 4 0) = wA n.names n.many (ans 0, endS m w 4 0) := by
      have e : endS n w 4 0 = wN n.names n.many (endS m w 4 0) := by
        have : endS (wN n.names n.many m) w 4 0 = wN n.names n.many (endS m w 4 0) := rfl
        rw [← S.eq] at this; exact this
      rw [e]; rfl
    rw [this]; exact keep _ ⟨rfl, rfl⟩
  rw [if_neg c7, if_neg c7]
  by_cases c8 : x.Kind = 8
  · rw [if_pos c8, if_pos c8]
    have : (ans 0, vacS n) = wA n.names n.many (ans 0, vacS m) := by
      have e : vacS n = wN n.names n.many (vacS m) := by
        have : vacS (wN n.names n.many m) = wN n.names n.many (vacS m) := rfl
        rw [← S.eq] at this; exact this
      rw [e]; rfl
    rw [this]; exact keep _ ⟨rfl, rfl⟩
  rw [if_neg c8, if_neg c8]
  exact ⟨rfl, S⟩
theorem sameK_w (N : List (model_name × Int)) (M : List (Int × Int)) (m : Mod) : ∀ L : List Str, sameK m (wN N M m) L L = true
  | [] => rfl
  | x :: t => by
    have : rowOf (wN N M m) x = rowOf m x := rfl
    simp [sameK, this, sameK_w N M m t]
theorem retS_w (N : List (model_name × Int)) (M : List (Int × Int)) (m : Mod) : ∀ L : List Str, retS (wN N M m) L = retS m L
  | [] => rfl
  | x :: t => by
    have : rowOf (wN N M m) x = rowOf m x := rfl
    simp only [retS, this, retS_w N M m t]
theorem sameS_w {T d : Int} {m n : Mod} (S : Sim T d m n) : sameS m n = true := by
  rw [S.eq]
  have hk : keysS (wN n.names n.many m) = keysS m := rfl
  have ha : activeN (wN n.names n.many m) = activeN m := rfl
  unfold sameS
  rw [hk, ha, retS_w, sameK_w]
  simp [wN]
theorem doS_mig (m : Mod) (t : Int) (x : api_Call) (h : x.Kind = 9) : (doS m t x).2 = m := by
  unfold doS actS
  simp only [h]
  split
  · rfl
  · simp
theorem tasks_l0 (c : api_Config) (by_ : Int) (hT0 : 1 ≤ c.Tasks) (hT1 : c.Tasks ≤ 6) (a : List Turn) (d : Int) (d0 : 0 ≤ d) (d1 : d < c.Tasks) (hd : Int.tmod (IntKind.u64.wrap by_) (IntKind.u64.wrap c.Tasks) = d) (hu : IntKind.u64.wrap c.Tasks ≠ 0) :
    ∀ (j i : Nat) (q : Nat) (m n : Mod), i + j = a.length → a.length ≤ 100000 → Inv q m → Inv q n → Sim c.Tasks d m n → m.c = c → q + j ≤ 999998 → ∃ m' n' : Mod, Ev (fun k => ferrymanlaw16_ModelTasks_l0 c a by_ k (i : Int) n m) (.inr (n', m')) ∧ Sim c.Tasks d m' n' ∧ Inv 999999 m' ∧ Inv 999999 n' := by
  intro j
  induction j with
  | zero =>
    intro i q m n hi hb I J S hc hq
    refine ⟨m, n, Ev.shift 1 ⟨0, fun k hk => ?_⟩, S, I.mono (by omega), J.mono (by omega)⟩
    show ferrymanlaw16_ModelTasks_l0 c a by_ (k + 1) (i : Int) n m = _
    rw [ferrymanlaw16_ModelTasks_l0.eq_2]
    have : ¬ ((i : Int) < (a.length : Int)) := by omega
    simp [this]
  | succ j ih =>
    intro i q m n hi hb I J S hc hq
    have hlt : i < a.length := by omega
    have h3 : (i : Int) < (a.length : Int) := by omega
    -- the other task
    obtain ⟨o, ho, ha, hs⟩ : ∃ o : Int, (∀ k : Nat, (if ((decide (a[i].Task ≥ (0 : Int))) && (decide (a[i].Task < c.Tasks))) = true then (if (IntKind.u64.wrap c.Tasks) ≠ 0 then (if c.Tasks ≠ 0 then some ((Int.tmod (IntKind.i64.wrap (a[i].Task + (IntKind.i64.wrap (Int.tmod (IntKind.u64.wrap by_) (IntKind.u64.wrap c.Tasks))))) c.Tasks)) else none) else none) else some a[i].Task) = some o) ∧
        (doS n o a[i].Call).1 = (doS m a[i].Task a[i].Call).1 ∧ Sim c.Tasks d (doS m a[i].Task a[i].Call).2 (doS n o a[i].Call).2 := by
      by_cases hv : 0 ≤ a[i].Task ∧ a[i].Task < c.Tasks
      · refine ⟨rho c.Tasks d a[i].Task, fun k => ?_, S.good (by rw [hc]) d0 d1 hv.1 hv.2 a[i].Call⟩
        rw [if_pos (by simpa using hv), if_pos hu, if_pos (by omega), hd, wr (x := d) (by omega) (by omega), wr (x := a[i].Task + d) (by omega) (by omega), tmod_rho hv.1 hv.2 d0 d1]
      · have := S.bad (by rw [hc]) hv a[i].Call
        refine ⟨a[i].Task, fun k => ?_, by rw [this.1, this.2], by rw [this.1, this.2]; exact S⟩
        rw [if_neg (by simpa using hv)]
    obtain ⟨m', n', hE, r⟩ := ih (i + 1) (q + 1) (doS m a[i].Task a[i].Call).2 (doS n o a[i].Call).2 (by omega) hb (I.do_ _ _) (J.do_ _ _) hs ((doS_c _ _ _).trans hc) (by omega)
    refine ⟨m', n', Ev.shift 1 ?_, r⟩
    refine Ev.congr (g := fun k => _) ?_ (fun k => by rw [ferrymanlaw16_ModelTasks_l0.eq_2])
    rw [wr1 (i := i) (by omega), rdN hlt]
    refine Ev.pos (by simpa using h3) (Ev.pos (inR hlt) ?_)
    refine Ev.bind ⟨0, fun k _ => ho k⟩ ?_
    refine Ev.bind ⟨0, fun k _ => Copy_eq I (by omega) k⟩ ?_
    refine Ev.bind (v := ((doS m a[i].Task a[i].Call).1.Err, (doS m a[i].Task a[i].Call).1.Found, (doS m a[i].Task a[i].Call).1.Value, (doS m a[i].Task a[i].Call).1.Pairs, (doS n o a[i].Call).1.Err, (doS n o a[i].Call).1.Found, (doS n o a[i].Call).1.Value, (doS n o a[i].Call).1.Pairs, (doS n o a[i].Call).2, (doS m a[i].Task a[i].Call).2))
      ((do_ev I (by omega) _ _).bind ((do_ev J (by omega) _ _).bind (Ev.pure _))) ?_
    have hp := doS_pairs I a[i].Task a[i].Call
    refine Ev.bind (v := true) ⟨q + 1, fun k hk => ?_⟩ ?_
    · have e := Answers_eq (doS m a[i].Task a[i].Call).1 (doS n o a[i].Call).1 (by omega) k (by omega)
      refine e.trans ?_
      rw [ha]; simp
    refine Ev.bind (v := false) (Ev.neg (by simp) (Ev.bind (v := false) ?_ (Ev.pure _))) ?_
    · by_cases h9 : a[i].Call.Kind = 9
      · refine Ev.pos (by simpa using h9) ?_
        show Ev (fun k => Option.bind (ferrymanlaw16_same_POOOO_POOOO k m (doS m a[i].Task a[i].Call).2) _) _
        rw [doS_mig _ _ _ h9]
        refine Ev.eq (v := !sameS m m) ((same_ev I I (by omega)).bind (Ev.pure _)) (by rw [sameS_refl]; rfl)
      · exact Ev.neg (by simpa using h9) (Ev.pure _)
    refine Ev.neg (by simp) ?_
    exact hE
theorem pure_ModelTasks (a0 : api_Config) (a1 : (List ferrymanlaw16_Turn)) (a2 : Int) (_ : wf_api_Config a0) (w1 : (wfSl wf_ferrymanlaw16_Turn) a1) (_ : (wfInt .i64) a2) : ∃ k, ferrymanlaw16_ModelTasks k a0 a1 a2 = some true := by
  refine Ev.ex (f := fun k => ferrymanlaw16_ModelTasks k a0 a1 a2) ?_
  have b1 : a1.length ≤ 9223372036854775807 := Nat.le_trans w1.1 (by decide)
  unfold ferrymanlaw16_ModelTasks
  refine works_ev.bind ?_
  obtain ⟨x, hx, hx2⟩ := large_ev a1 b1
  refine Ev.bind (v := x) (Ev.neg (by simp) (hx.bind (Ev.pure _))) ?_
  cases x with
  | true => exact Ev.pos rfl (works_ev.bind (Ev.pure _))
  | false =>
    have l1 := hx2 rfl
    refine Ev.neg (by simp) ?_
    refine Ev.bind ⟨9, fun k hk => New_eq k hk a0⟩ ?_
    cases hm : mayB a0 with
    | false => 
      refine Ev.bind ⟨9, fun k hk => New_eq k hk a0⟩ ?_
      rw [hm]; exact Ev.pure _
    | true =>
      refine Ev.bind ⟨9, fun k hk => New_eq k hk a0⟩ ?_
      rw [hm]
      simp only [mayB, Bool.and_eq_true, decide_eq_true_eq] at hm
      have hT : 1 ≤ a0.Tasks ∧ a0.Tasks ≤ 6 := by omega
      have ew : IntKind.u64.wrap a0.Tasks = a0.Tasks := by simp [IntKind.wrap, IntKind.bits, IntKind.signed]; omega
      have e0 : 0 ≤ IntKind.u64.wrap a2 := by simp [IntKind.wrap, IntKind.bits, IntKind.signed]; omega
      have d0 : 0 ≤ Int.tmod (IntKind.u64.wrap a2) (IntKind.u64.wrap a0.Tasks) := Int.tmod_nonneg _ e0
      have d1 : Int.tmod (IntKind.u64.wrap a2) (IntKind.u64.wrap a0.Tasks) < a0.Tasks := by rw [ew]; exact Int.tmod_lt_of_pos _ (by omega)
      have S0 : Sim a0.Tasks (Int.tmod (IntKind.u64.wrap a2) (IntKind.u64.wrap a0.Tasks)) (newS a0) (newS a0) := ⟨rfl, fun _ _ _ _ => rfl, fun _ _ _ => rfl⟩
      obtain ⟨m', n', hE, S, I, J⟩ := tasks_l0 a0 a2 hT.1 hT.2 a1 _ d0 d1 rfl (by rw [ew]; omega) a1.length 0 0 (newS a0) (newS a0) (by omega) (by omega) (Inv.new a0) (Inv.new a0) S0 rfl (by omega)
      refine Ev.bind hE ?_
      exact ((same_ev I J (by omega)).eq (sameS_w S)).bind (Ev.pure _)
end Go.Proofs.YtcngjjlhdlbogaaDoor
