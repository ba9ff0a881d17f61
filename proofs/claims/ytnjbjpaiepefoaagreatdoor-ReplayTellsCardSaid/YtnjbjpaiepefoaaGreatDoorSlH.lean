import Derived.Test.YtnjbjpaiepefoaaGreatDoorSlG
import Derived.Test.YtnjbjpaiepefoaaGreatDoorRows
import Derived.ProofKit
import Derived.OpenShut
import Derived.ShutString
import Derived.ChangeOld
import Derived.Below
import Derived.SizedLaws
import Derived.ChangeArms
import Derived.ChangeSlices
import Derived.Carry
import Derived.JoinedCond
namespace Go.Proofs.YtnjbjpaiepefoaaGreatDoor
open Go Go.RowKit
set_option linter.unusedVariables false
set_option linter.unusedSimpArgs false
def Opens {α:Type} (P:Program) (t:TypeId) (r:Rep α) (wf:α→Prop) (sz:α→Nat):Prop :=
 ∀ (H:Type) (enc:TypeId×Value→H) (w:World) (sp:Nat→Bool) (held:Bool) (fuel:Nat) (cs:List Value) (x:DataW H×List MemPlace),
  DataW.trod enc P w 0 sp held fuel t cs=some x→∃ a,r.R (Hp.of w) a cs∧wf a∧sz a≤Rows.uptoBulk x.1
def wfInt (k:IntKind) (n:Int):Prop:=(Lit.int k n).wf=true
def wfStr (s:Str):Prop:=s.length≤maxLen
def wfTrue {α:Type} (_:α):Prop:=True
def sz1 {α:Type} (_:α):Nat:=1
def szStr (s:Str):Nat:=s.length+1
def wfSl {α:Type} (wf:α→Prop) (l:List α):Prop:=l.length≤maxLen∧∀ x∈l,wf x
def sumL {α:Type} (sz:α→Nat):List α→Nat
 | []=>0
 | x::l=>sz x+sumL sz l
def szSl {α:Type} (sz:α→Nat) (l:List α):Nat:=sumL sz l+1
theorem bulk1 {H:Type} (d:DataW H):1≤Rows.uptoBulk d:=by
 cases d with
 | lit l=>cases l<;>simp [Rows.uptoBulk]
 | nil=>simp [Rows.uptoBulk]
 | ptr d=>simp [Rows.uptoBulk]
 | slice elems spare=>simp [Rows.uptoBulk]
 | agg parts=>simp [Rows.uptoBulk]
 | iface t d=>simp [Rows.uptoBulk]
 | map entries=>simp [Rows.uptoBulk]
 | held h=>simp [Rows.uptoBulk]
theorem VX {P:Program} {t:TypeId} {k:IntKind} (hu:P.underlying t=some (.int k)):Opens P t (rInt k) (wfInt k) sz1:=by
 intro H enc w sp held fuel cs x h;obtain ⟨n,rfl,rfl,hw⟩:=DataW.trod_int hu h;exact ⟨n,rfl,hw,bulk1 _⟩
theorem qw {P:Program} {t:TypeId} (hu:P.underlying t=some .bool):Opens P t rBool wfTrue sz1:=by
 intro H enc w sp held fuel cs x h;obtain ⟨n,rfl,rfl⟩:=DataW.trod_bool hu h;exact ⟨n,rfl,trivial,bulk1 _⟩
theorem UK {P:Program} {t:TypeId} (hu:P.underlying t=some .string):Opens P t rStr wfStr szStr:=by
 intro H enc w sp held fuel cs x h;obtain ⟨s,rfl,rfl,hs⟩:=DataW.trod_string hu h;refine ⟨s.data.toList,(by show [Value.string s]=[Value.string (bs s.data.toList)];rw [QCZ]),?_,?_⟩
 ·show s.data.toList.length≤maxLen;rw [Array.length_toList];exact hs
 ·simp [Rows.uptoBulk,szStr]
theorem QAa {a:Addr} (hs:a.spot=none) (i:Nat):a.add i=⟨a.block,a.off+i,none⟩:=by
 unfold Addr.add
 split
 ·rename_i h;subst h;cases a;simp at hs;subst hs;rfl
 ·rfl
theorem UR {α:Type} {P:Program} {t e:TypeId} {r:Rep α} {wf:α→Prop} {sz:α→Nat} (hu:P.underlying t=some (.slice e)) (hc:P.cellsOf e=r.sz) (hr:0<r.sz) (he:Opens P e r wf sz):Opens P t (rSl r) (wfSl wf) (szSl sz):=by
 intro H enc w sp held fuel cs x h;rcases DataW.trod_slice hu h with ⟨rfl,rfl⟩ | ⟨a,len,cap,elems,rest,n,_,rfl,rfl,hb,hl,hm,hlen,hel,hsp,hns⟩
 ·exact ⟨[],⟨_,SlW.nil none 0,rfl⟩,⟨Nat.zero_le _,fun _ h=>by cases h⟩,bulk1 _⟩
 rw [hc] at hel
 have key:∀ m,m≤len→∃ l:List α,l.length=m∧(∀ x∈l,wf x)∧sumL sz l≤Rows.uptoBulkAll ((elems.drop (len-m)).map (·.1)) ∧
   ∀ i x,l[i]?=some x→∃ vs:List Value,r.R (Hp.of w) x vs∧∀ j v,vs[j]?=some v→w.cell? ((a.add ((len-m+i)*r.sz)).add j)=some v:=by
  intro m
  induction m with
  | zero=>intro _;exact ⟨[],rfl,fun _ h=>(by cases h),Nat.zero_le _,fun i x h=>by cases h⟩
  | succ m ih =>
   intro hm';obtain ⟨l,O,U,V,E⟩:=ih (by omega);have hi:=hel (len-(m+1)) (by omega);have hel':elems[len-(m+1)]?=some (elems[len-(m+1)]'(by omega)):=List.getElem?_eq_getElem (by omega);rw [hel',Option.bind_eq_some_iff] at hi;obtain ⟨cs',hcs,hy⟩:=hi;obtain ⟨x,W,Y,a4⟩:=he H enc w sp held n cs' _ hy;have hcc:=World.cells?_some hcs;refine ⟨x::l,by simp [O],?_,?_,?_⟩
   ·intro z hz;rcases List.mem_cons.1 hz with rfl | hz
    ·exact Y
    ·exact U z hz
   ·have ed:elems.drop (len-(m+1))=elems[len-(m+1)]'(by omega)::elems.drop (len-m):=by
     rw [List.drop_eq_getElem_cons (show len-(m+1)<elems.length by omega),show len-(m+1)+1=len-m by omega]
    rw [ed];simp only [List.map_cons,Rows.uptoBulkAll,sumL];omega
   ·intro i z hz
    cases i with
    | zero =>
     simp at hz;subst hz;refine ⟨cs',W,fun j v hv=>?_⟩;have hj:=(List.getElem?_eq_some_iff.1 hv).1;rw [Nat.add_zero,hcc.2.2 j (by omega)];exact hv
    | succ i =>
     obtain ⟨vs,G,K⟩:=E i z (by simpa using hz);refine ⟨vs,G,fun j v hv=>?_⟩;have:=K j v hv
     rwa [show len-m+i=len-(m+1)+(i+1) by omega] at this
 obtain ⟨l,O,U,V,E⟩:=key len (Nat.le_refl _);simp only [Nat.sub_self,Nat.zero_add] at V E;refine ⟨l,⟨.slice (some a) len cap,⟨some a,cap,by rw [O],by omega,fun h0=>?_⟩,rfl⟩,⟨by omega,U⟩,?_⟩
 ·obtain ⟨vs,G,K⟩:=E 0 l[0] (List.getElem?_eq_getElem h0);have hvl:=r.len G;have B:=K 0 vs[0] (List.getElem?_eq_getElem (by omega));simp only [Nat.zero_mul] at B;have Z:(a.add 0).add 0=a:=by simp [Addr.add]
  rw [Z] at B;unfold World.cell? at B
  split at B
  ·rename_i c ty fr hcell
   split at B
   ·cases B
   ·rename_i hspot
    have hs:a.spot=none:=by cases e':a.spot with | none=>rfl | some z=>rw [e'] at hspot;simp at hspot
    refine ⟨a.block,a.off,c,ty,fr,by cases a;simp at hs;subst hs;rfl,Hp.of_mk hcell,fun i x hx=>?_⟩;obtain ⟨us,a0,a1⟩:=E i x hx;refine ⟨us,a0,fun j v hv=>?_⟩;have:=a1 j v hv
    have e1:(a.add (i*r.sz)).add j=⟨a.block,a.off+i*r.sz+j,none⟩:=by
     rw [QAa hs,QAa rfl]
    rw [e1] at this;unfold World.cell? at this;rw [hcell] at this
    simpa using this
  ·cases B
 ·simp only [szSl,Rows.uptoBulk];simp only [List.drop_zero] at V;omega
theorem st_all (w:World):St w (Hp.of w) Hp.emp [] :=
 ⟨Hp.emp,trivial,Hp.disj_emp _,Hp.disj_emp _,Hp.disj_emp _,Hp.le_refl _,(fun _ _ h=>by cases h),(fun _ _ h=>by cases h)⟩
theorem QBi {w w':World} {M' F:Hp} {Γ:List Asr} (S:St w' M' F Γ) (G:(Hp.of w).le M') (E:Ext w w'):Below w.heap.size w w':=by
 refine ⟨E.os,E.tape,E.output,E.size,fun k hk=>?_⟩;have B:w.heap[k]?=some w.heap[k]:=Array.getElem?_eq_getElem hk
 cases hd:isDef w.heap[k] with
 | true=>rw [B];exact E.defs _ _ B hd
 | false =>
  rw [B];exact S.frz (G _ _ (Hp.of_mk B hd))
theorem QCW {P:Program} {f:FuncId} {args:Array Value} {w:World} {Φ:Value→Hp→List Asr→Prop} {v0:Value} (h:Con P f args (Hp.of w) [] Φ) (hv:∀ v M Γ,Φ v M Γ→v=v0) :
  Calls P f args w fun e w'=>e=.returned v0∧Below w.heap.size w w':=by
 refine Calls.mono (h w Hp.emp (st_all w)) ?_;rintro e w' ⟨v,rfl,M',E,B,hE,S,hΦ⟩;rw [hv _ _ _ hΦ];exact ⟨rfl,QBi S B hE⟩
theorem agg_of {P:Program} {W:World} {r:Reach} {B:Nat} {t:TypeId} {v:Value} {fs:Array Field} (hu:P.underlying t=some (.struct fs)) (h:Value.okWide P W r B t v):∃ cs,v=.agg cs:=by
 unfold Value.okWide at h;rw [hu] at h;obtain ⟨cs,h,_⟩:=h;exact ⟨cs,h⟩
end Go.Proofs.YtnjbjpaiepefoaaGreatDoor
