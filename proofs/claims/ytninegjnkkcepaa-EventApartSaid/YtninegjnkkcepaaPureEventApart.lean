/-  The plain law EventApart. -/
import Derived.Test.YtninegjnkkcepaaPureEventLegal
import Derived.Test.YtninegjnkkcepaaGe1LEventApart
namespace Go.Proofs.Ytninegjnkkcepaa
open Go Go.RowKit
set_option linter.unusedVariables false
set_option linter.unusedSimpArgs false
def runF (a : List ferrymanlaw06_Step) (r : event_Recorder) : event_Recorder := a.foldl (fun r s => (doF s r).2) r
theorem runL_fold {α σ R : Type} (g : α → σ → σ) (f : σ → R) : ∀ (l : List α) (s : σ), runL (fun x s => .inl (g x s)) f l s = f (l.foldl (fun s x => g x s) s)
  | [], s => rfl
  | x :: l, s => runL_fold g f l (g x s)
def Bd (m : Nat) (r : event_Recorder) : Prop := r.l.length ≤ m ∧ ∀ x ∈ r.l, x.Answer.Pairs.length ≤ 3000
theorem do_bd {m : Nat} {s : ferrymanlaw06_Step} {r : event_Recorder} (hs : s.Answer.Pairs.length ≤ 3000) (h : Bd m r) : Bd (m + 1) (doF s r).2 := ⟨Nat.le_trans do_len (by have := h.1; omega), do_pairs hs h.2⟩
theorem run_bd : ∀ (a : List ferrymanlaw06_Step) {m : Nat} {r : event_Recorder}, (∀ s ∈ a, s.Answer.Pairs.length ≤ 3000) → Bd m r → Bd (m + a.length) (runF a r)
  | [], m, r, _, h => h
  | s :: a, m, r, hp, h => by
    have := run_bd a (fun s hs => hp s (List.mem_cons_of_mem _ hs)) (do_bd (hp s List.mem_cons_self) h)
    have e : m + (s :: a).length = m + 1 + a.length := by simp only [List.length_cons]; omega
    rw [e]; exact this
theorem run_pre : ∀ (a : List ferrymanlaw06_Step) (r : event_Recorder), ∃ zs, (runF a r).l = r.l ++ zs
  | [], r => ⟨[], by simp [runF]⟩
  | s :: a, r => by
    obtain ⟨zs, h⟩ := run_pre a (doF s r).2
    rcases do_cases s r with ⟨_, _, e⟩ | ⟨_, _, e⟩
    · exact ⟨evOf s r.tasks :: zs, by show (runF a (doF s r).2).l = _; rw [h, e]; simp⟩
    · exact ⟨zs, by show (runF a (doF s r).2).l = _; rw [h, e]⟩
theorem apart_run {k m : Nat} {a : List ferrymanlaw06_Step} (F : Nat → Int → List Tk → List Ev → Option (List Tk × List Ev)) (hF : ∀ k i ts l, F (k + 1) i ts l = (if (decide (i < (a.length : Int))) = true then (if 0 ≤ i ∧ i < (a.length : Int) then (Option.bind (ferrymanlaw06_Step_do_POO k (rd a i) (⟨ts, l⟩ : event_Recorder)) (fun t => F k (IntKind.i64.wrap (i + (1 : Int))) t.2.tasks t.2.l)) else none) else some (ts, l)))
    (ha : a.length ≤ 200) (hm : m ≤ 1000) (hp : ∀ s ∈ a, s.Answer.Pairs.length ≤ 3000) (hk : 20000 ≤ k) {r : event_Recorder} (hr : Bd m r) : F k 0 r.tasks r.l = some ((runF a r).tasks, (runF a r).l) := by
  have hrun := loop_run0 (a := a) (fun k i (r : event_Recorder) => F k i r.tasks r.l) (fun i r => Bd (m + i) r) (fun x r => .inl (doF x r).2) (fun r => (r.tasks, r.l)) 0 (by omega)
    (fun k s _ _ => by rw [hF, if_neg (by simp)]) (fun k i s hi hI _ => by
      refine ⟨fun s' e => ?_, fun r e => by cases e⟩
      cases e
      have hap := hp _ (List.getElem_mem hi)
      have h1 := hI.1
      rw [hF, if_pos (by simpa using hi), if_pos (inR hi), rdN hi, do_eq (r := ⟨s.tasks, s.l⟩) (by show s.l.length ≤ 9000; omega) hap]
      exact ⟨rfl, do_bd hap hI⟩) (k := k) (s := r) (by omega) hr
  rw [runL_fold] at hrun
  exact hrun
theorem Copy_eq {k : Nat} {r : event_Recorder} (h1 : r.tasks.length ≤ 6) (h2 : r.l.length ≤ 9000) : event_Recorder_Copy_POO k r = some r := by
  unfold event_Recorder_Copy_POO slices_Clone_event_task_event_task slices_Clone_api_Event_api_Event_AO
  rw [if_pos (by simp; omega), Option.bind_some, if_pos (by simp; omega)]; rfl
theorem pure_EventApart (a0 : Int) (a1 : (List ferrymanlaw06_Step)) (a2 : (List ferrymanlaw06_Step)) (_ : (wfInt .i64) a0) (h1 : (wfSl wf_ferrymanlaw06_Step) a1) (h2 : (wfSl wf_ferrymanlaw06_Step) a2) : ∃ k, ferrymanlaw06_EventApart k a0 a1 a2 = some true := by
  have hlen1 : a1.length ≤ 9223372036854775807 := Nat.le_trans h1.1 (by decide)
  have hlen2 : a2.length ≤ 9223372036854775807 := Nat.le_trans h2.1 (by decide)
  refine ⟨40000, ?_⟩
  unfold ferrymanlaw06_EventApart
  rw [works_up (by omega), large_eq hlen1 (by omega), large_eq hlen2 (by omega)]
  cases hla : largeB a1
  · cases hlb : largeB a2
    · obtain ⟨hl1, hp1⟩ := large_sm hla
      obtain ⟨hl2, hp2⟩ := large_sm hlb
      rw [New_eq]
      by_cases hn : 1 ≤ a0 ∧ a0 ≤ 6
      · have hg := good_new a0.toNat
        generalize hr0 : (⟨List.replicate a0.toNat ⟨0, 0⟩, []⟩ : event_Recorder) = r0 at hg
        have hb0 : Bd 0 r0 := by rw [← hr0]; exact ⟨Nat.le_refl _, by simp⟩
        have hb1 := run_bd a1 hp1 hb0
        have hb2 := run_bd a2 hp2 hb1
        have gl : ∀ (a : List ferrymanlaw06_Step) {r : event_Recorder}, Good a0.toNat r → Good a0.toNat (runF a r) := fun a => by
          induction a with
          | nil => exact fun h => h
          | cons s a ih => exact fun h => ih (do_good h)
        have ht := good_len (gl a1 hg)
        have sm : ∀ {m : Nat} {r : event_Recorder}, Bd m r → m ≤ 1000 → Sm r.l := fun h hm => ⟨by have := h.1; omega, h.2⟩
        have s1 := sm hb1 (by omega)
        have s2 := sm hb2 (by omega)
        have ev := fun {r : event_Recorder} (h : Sm r.l) => Events_eq (k := 40000) h (by omega)
        obtain ⟨zs, hz⟩ := run_pre a2 (runF a1 r0)
        simp only [Option.bind_some, Bool.not_false, Bool.not_true, Bool.false_eq_true, if_false, if_pos hn, Sum.elim_inr]
        rw [apart_run (ferrymanlaw06_EventApart_l0 a1) (fun _ _ _ _ => rfl) hl1 (by omega) hp1 (by omega) hb0, Option.bind_some]
        dsimp only
        rw [Copy_eq (r := ⟨(runF a1 r0).tasks, (runF a1 r0).l⟩) (by show (runF a1 r0).tasks.length ≤ 6; rw [ht]; omega) s1.1, Option.bind_some, ev (by exact s1), Option.bind_some]
        rw [apart_run (ferrymanlaw06_EventApart_l1 a2) (fun _ _ _ _ => rfl) hl2 (by omega) hp2 (by omega) (r := ⟨(runF a1 r0).tasks, (runF a1 r0).l⟩) hb1, Option.bind_some]
        dsimp only
        rw [Option.bind_some, Same_eq (by exact s1) (by omega), Option.bind_some]
        rw [apart_run (ferrymanlaw06_EventApart_l2 a2) (fun _ _ _ _ => rfl) hl2 (by omega) hp2 (by omega) hb1, Option.bind_some]
        dsimp only
        rw [ev (by exact s2), Option.bind_some, Option.bind_some, Same_eq (by exact s2) (by omega), Option.bind_some]
        simp only [decide_true, Bool.not_true, Bool.false_eq_true, if_false, if_true, Option.bind_some]
        rw [if_pos (by constructor; · omega
                       · show ((runF a1 r0).l.length : Int) ≤ ((runF a2 (runF a1 r0)).l.length : Int); rw [hz]; simp; omega), Same_eq (by exact s1) (by omega), Option.bind_some]
        show some (decide ((runF a1 r0).l = List.take ((runF a1 r0).l.length : Int).toNat (runF a2 (runF a1 r0)).l)) = some true
        rw [hz]; simp
      · rw [if_neg hn]; simp
    · simp
  · simp
end Go.Proofs.Ytninegjnkkcepaa
