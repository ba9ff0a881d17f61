import Derived.Test.YtnjbjpaiepefoaaGreatDoorSlI
import Derived.Shelf.SlSortCmp.NoneTotal
namespace Go.Proofs.YtnjbjpaiepefoaaGreatDoor
open Go Go.Sort
set_option linter.unusedVariables false
set_option linter.unusedSimpArgs false
theorem QBJ (w:World):St w (Hp.of w) Hp.emp [] :=
 ⟨Hp.emp,trivial,Hp.disj_emp _,Hp.disj_emp _,Hp.disj_emp _,Hp.le_refl _,(fun _ _ h=>by cases h),(fun _ _ h=>by cases h)⟩
theorem QBc {w w':World} {M' F:Hp} {Γ:List Asr} (S:St w' M' F Γ) (G:(Hp.of w).le M') (E:Ext w w'):∃ q os',w'=grow (w.drewN q) os':=by
 have hk:∀ k,k<w.heap.size→w'.heap[k]?=w.heap[k]?:=fun k hk=>by
  have B:w.heap[k]?=some w.heap[k]:=Array.getElem?_eq_getElem hk
  cases hd:isDef w.heap[k] with
  | true=>rw [B];exact E.defs _ _ B hd
  | false=>rw [B];exact S.frz (G _ _ (Hp.of_mk B hd))
 have U:w'.heap=w.heap++w'.heap.extract w.heap.size w'.heap.size:=by
  apply Array.ext_getElem?
  intro k;rw [Array.getElem?_append]
  split
  ·next h=>exact hk k h
  ·next h =>
   rw [Array.getElem?_extract]
   split
   ·congr 1;omega
   ·rw [Array.getElem?_eq_none (by omega)]
 refine ⟨w'.drawn-w.drawn,w'.heap.extract w.heap.size w'.heap.size,?_⟩;have H:=E.os;have K:=E.tape;have O:=E.output;have V:=E.drawn
 cases w;cases w'
 simp only [grow,World.drewN] at *;subst H K O
 congr 1
 omega
theorem QAy {P:Program} {f:FuncId} (Fn:IsFn P f):∀ (args:Array Value) (w:World),(callFunc f args).run P w=.ok (.enter f args) w:=by
 obtain ⟨fn,hf,hb,hn⟩:=Fn.ex;intro args w;have hb':fn.body≠none:=by intro e;rw [e] at hb;cases hb
 have hn':fn.name ≠ "runtime.NumGoroutine":=by simpa using hn
 simp [callFunc,hf,hb',hn']
theorem qe {P:Program} {α:Type} [Inhabited α] {enc:α→Value} {cf:α→α→Int} {g:Nat} (hcmp:∀ (M:Hp) (x y:α),Con P g #[enc x,enc y] M [] (fun v _ _=>v=.int .i64 (cf x y))) (blk off size:Nat) (w:World):CmpLays1 P g #[] enc cf blk off size w:=by
 intro m os dk hs x y;refine Calls.mono (hcmp (Hp.of _) x y _ Hp.emp (QBJ _)) ?_;rintro e w' ⟨v,rfl,M',E,B,hE,S',rfl⟩;exact ⟨rfl,QBc S' B hE⟩
section
variable {α:Type} {r:Rep α} {w w':World} {M F:Hp} {Γ:List Asr} {e:TypeId} {v:Value} {l:List α}
theorem St.row_turn (S:St w M F Γ) (i:Nat) (hi:Γ[i]?=some (Row r e v l)) {b cap:Nat} (hv:v=.slice (some ⟨b,0,none⟩) l.length cap) {l':List α} (hl:l'.length=l.length) {cs cs':Array Value} (hb:w.heap[b]?=some (.cells cs e (0,0))) (hsz:cs'.size=cs.size)
  (hC:Cells r M l' (cs'.toList.take (l'.length*r.sz))) (hb':w'.heap[b]?=some (.cells cs' e (0,0))) (ho:∀ c,c<w.heap.size→c≠b→w'.heap[c]?=w.heap[c]?):St w' M F (Γ.set i (Row r e v l')):=by
 subst hv;obtain ⟨Y,ha,hle,hch⟩:=S.change i hi;rcases ha with ⟨G,_⟩ | ⟨b',cap',W,G,K,H,O,Z,U⟩
 ·cases G
 ·injection G with B e2 V
  injection B with B
  injection B with B
  subst B V;have E:=Hp.of_get (hle _ _ H);rw [hb] at E;cases E;refine hch w' _ (Hp.single b (.cells cs' e (0,0))) (.inr ⟨b,cap,cs',by rw [hl],by rw [hl];exact K,by simp [Hp.single],by rw [hsz];exact O,hC,U⟩) (Hp.single_le.2 (Hp.of_mk hb')) (fun y o hy hn=>?_) (fun y o hy=>?_)
  ·have hyb:y≠b:=fun e=>by subst e;rw [H] at hn;cases hn
   exact (Hp.of_congr (ho y (Hp.of_lt hy) hyb)).trans hy
  ·simp only [Hp.single] at hy
   split at hy
   ·rename_i ey;subst ey;left;rw [H];simp
   ·cases hy
theorem St.row_form (S:St w M F Γ) (i:Nat) (hi:Γ[i]?=some (Row r e v l)):(v=.slice none 0 0∧l=[])∨∃ b cap cs,v=.slice (some ⟨b,0,none⟩) l.length cap∧w.heap[b]?=some (.cells cs e (0,0))∧cs.size=cap*r.sz∧l.length≤cap∧Cells r M l (cs.toList.take (l.length*r.sz)):=by
 obtain ⟨U,ha,hle,hch⟩:=S.change i hi;rcases ha with ⟨B,h⟩ | ⟨b',cap',E,B,G,H,K,O,V⟩
 ·exact .inl ⟨B,h⟩
 ·exact .inr ⟨b',cap',E,B,Hp.of_get (hle _ _ H),K,G,O⟩
theorem QAx {α:Type} [Inhabited α] {enc:α→Value} {blk n:Nat} {d:Array α} {os:Array Obj} {cs:Array Value} {fr:Nat×Nat} (hb:w.heap[blk]?=some (.cells cs e fr)):Ext w (grow (putRow enc (Go.Sort.ahead w n) blk 0 d) os)∧(grow (putRow enc (Go.Sort.ahead w n) blk 0 d) os).heap[blk]?=some (.cells (putCells enc 0 d cs) e fr)∧∀ c,c<w.heap.size→c≠blk→(grow (putRow enc (Go.Sort.ahead w n) blk 0 d) os).heap[c]?=w.heap[c]?:=by
 have hlt:blk<w.heap.size:=(Array.getElem?_eq_some_iff.1 hb).1
 have hh:∀ c,c<w.heap.size→(grow (putRow enc (Go.Sort.ahead w n) blk 0 d) os).heap[c]?=(w.heap.modify blk (onCells (putCells enc 0 d)))[c]?:=fun c hc=>by
  show ((w.heap.modify blk (onCells (putCells enc 0 d)))++os)[c]?=_;rw [Array.getElem?_append_left (by simpa using hc)]
 have G:(grow (putRow enc (Go.Sort.ahead w n) blk 0 d) os).heap[blk]?=some (.cells (putCells enc 0 d cs) e fr):=by
  rw [hh blk hlt,Array.getElem?_modify,if_pos rfl,hb];rfl
 have E:∀ c,c<w.heap.size→c≠blk→(grow (putRow enc (Go.Sort.ahead w n) blk 0 d) os).heap[c]?=w.heap[c]?:=fun c hc hne=>by
  rw [hh c hc,Array.getElem?_modify,if_neg (Ne.symm hne)]
 refine ⟨⟨rfl,rfl,rfl,?_,fun c o hc hd=>?_,fun c rr hc=>?_,Nat.le_add_right _ _⟩,G,E⟩
 ·show w.heap.size≤((w.heap.modify blk (onCells (putCells enc 0 d)))++os).size;simp
 ·by_cases B:c=blk
  ·subst B;rw [hb] at hc;cases hc;cases hd
  ·rw [E c (Array.getElem?_eq_some_iff.1 hc).1 B];exact hc
 ·by_cases B:c=blk
  ·subst B;rw [hb] at hc;cases hc
  ·exact ⟨rr,by rw [E c (Array.getElem?_eq_some_iff.1 hc).1 B];exact hc⟩
end
section
variable {P:Program} {ρn:Go.Shelf.Ren} {α:Type} [Inhabited α] {r:Rep α} {w:World} {M F:Hp} {Γ:List Asr} {e:TypeId} {v:Value} {l:List α}
theorem QAi (S:St w M F Γ) (i:Nat) (hi:Γ[i]?=some (Row r e v l)) (L:Go.Proofs.SlLaysF.n6 P ρn) (enc:α→Value) (B:r.sz=1) (O:Go.Proofs.OneCell enc)
  (hR:∀ M x cs,r.R M x cs↔cs=[enc x]) (cf:α→α→Int) (hO:SWO (Go.Proofs.ltOf cf)) (hT:∀ x y,(Go.Proofs.ltOf cf) x y=false→(Go.Proofs.ltOf cf) y x=false→x=y) (g:Nat) (Fn:IsFn P g) (hcmp:∀ (M:Hp) (x y:α),Con P g #[enc x,enc y] M [] (fun v _ _=>v=.int .i64 (cf x y))) (hlen:l.length<4611686018427387904) :
  Calls P (ρn.f 6) #[v,.func (.func g) #[] #[]] w fun en w'=>en=.returned (.tuple #[])∧Ext w w'∧St w' M F (Γ.set i (Row r e v (l.mergeSort fun x y=>!(Go.Proofs.ltOf cf) y x))):=by
 rcases S.row_form i hi with ⟨rfl,rfl⟩ | ⟨b,cap,cs,hv,hb,hcs,hcap,hC⟩
 ·refine Calls.mono (Go.Proofs.AnyF.slices_SortFunc_none { L with } none 0 _ w) ?_;rintro en w' ⟨rfl,rfl⟩;refine ⟨rfl,Ext.refl _,?_⟩;have U:([]:List α).mergeSort (fun x y=>!(Go.Proofs.ltOf cf) y x)=[]:=by simp
  rw [U]
  have:Γ.set i (Row r e (.slice none 0 0) [])=Γ:=by
   apply List.ext_getElem?
   intro j;rw [List.getElem?_set]
   split
   ·next ej=>subst ej;rw [hi];have:=(List.getElem?_eq_some_iff.1 hi).1;simp [this]
   ·rfl
  rw [this];exact S
 ·have hlt:b<w.heap.size:=(Array.getElem?_eq_some_iff.1 hb).1;have hfit:l.length≤cs.size:=by rw [hcs,B,Nat.mul_one];exact hcap
  have hH:Holds enc w b 0 l.toArray:=by
   intro t ht;have ht':t<l.length:=by simpa using ht
   have hx:l[t]?=some l[t]:=List.getElem?_eq_getElem ht';obtain ⟨vs,G,E⟩:=hC.2 _ _ hx;rw [(hR _ _ _).1 G] at E;have H:=E 0 (enc l[t]) rfl;rw [B,Nat.mul_one,Nat.mul_one,Nat.add_zero,List.getElem?_take,if_pos ht',Array.getElem?_toList] at H;refine ⟨?_,Kc hb⟩;rw [Nat.zero_add,Jn hb,H];simp [getElem!_def,hx]
  have hc:=Go.Proofs.Any.slices_SortFunc_total L enc O cf hO g #[] b 0 cap l.toArray w (QAy Fn) (qe hcmp b 0 _ w) hH hlt (by simpa using hlen) hT;rw [hv];rw [hv] at hi;refine Calls.mono (by simpa using hc) ?_;rintro en w' ⟨rfl,n,os,rfl⟩;obtain ⟨hE,hb',ho⟩:=QAx (enc:=enc) (n:=n) (d:=(l.mergeSort fun x y=>!(Go.Proofs.ltOf cf) y x).toArray) (os:=os) hb;refine ⟨rfl,hE,S.row_turn i hi rfl (l':=l.mergeSort fun x y=>!(Go.Proofs.ltOf cf) y x) (List.length_mergeSort _) hb (by simp [putCells]) ?_ hb' ho⟩;refine ⟨by simp [putCells,B];omega,fun i x hx=>⟨[enc x],(hR _ _ _).2 rfl,fun j u hu=>?_⟩⟩;have hi':=(List.getElem?_eq_some_iff.1 hx).1;obtain rfl:j=0:=by have:=(List.getElem?_eq_some_iff.1 hu).1;simpa using this
  have hu':enc x=u:=by simpa using hu
  have K:i<l.length:=by rw [List.length_mergeSort] at hi';exact hi'
  rw [B,Nat.mul_one,Nat.mul_one,Nat.add_zero,List.getElem?_take,if_pos hi',Array.getElem?_toList];simp only [putCells,Array.getElem?_mapIdx,Array.getElem?_eq_getElem (show i<cs.size by omega),Option.map_some];rw [if_pos ⟨Nat.zero_le _,by simpa using K⟩,Nat.sub_zero];have V:(l.mergeSort fun x y=>!(Go.Proofs.ltOf cf) y x).toArray[i]! = x:=by simp [getElem!_def,hx]
  rw [V,hu']
end
def insl {α:Type} (lt:α→α→Bool) (x:α):List α→List α
 | []=>[x]
 | y::t=>if lt y x=true then y::insl lt x t else x::y::t
def isort {α:Type} (lt:α→α→Bool):List α→List α
 | []=>[]
 | x::t=>insl lt x (isort lt t)
section
variable {α:Type} {lt:α→α→Bool}
theorem Ux (x:α):∀ l:List α,(insl lt x l).Perm (x::l)
 | []=>List.Perm.refl _
 | y::t=>by
  unfold insl
  split
  ·exact ((Ux x t).cons y).trans (List.Perm.swap x y t)
  ·exact List.Perm.refl _
theorem Vu:∀ l:List α,(isort lt l).Perm l
 | []=>List.Perm.refl _
 | x::t=>(Ux x _).trans ((Vu t).cons x)
theorem Jh (hO:SWO lt) (x:α):∀ {l:List α},l.Pairwise (fun a b=>(!lt b a)=true)→(insl lt x l).Pairwise (fun a b=>(!lt b a)=true)
 | [],_=>by simp [insl]
 | y::t,h=>by
  have hy:=List.pairwise_cons.1 h;unfold insl
  split
  ·next c =>
   refine List.pairwise_cons.2 ⟨fun z hz=>?_,Jh hO x hy.2⟩;rcases List.mem_cons.1 ((Ux x t).mem_iff.1 hz) with rfl | hz
   ·have:=hO.asymmA c;simp [this]
   ·exact hy.1 z hz
  ·next c =>
   have c':lt y x=false:=by simpa using c
   refine List.pairwise_cons.2 ⟨fun z hz=>?_,h⟩;rcases List.mem_cons.1 hz with rfl | hz
   ·simp [c']
   ·have:=hy.1 z hz;have B:lt z y=false:=by simpa using this
    simp [hO.ntrans z y x B c']
theorem V5 (hO:SWO lt):∀ l:List α,(isort lt l).Pairwise (fun a b=>(!lt b a)=true)
 | []=>by simp [isort]
 | x::t=>Jh hO x (V5 hO t)
theorem JR (hT:∀ x y,lt x y=false→lt y x=false→x=y) {l l':List α} (h:l.Perm l') (B:l.Pairwise (fun a b=>(!lt b a)=true)) (E:l'.Pairwise (fun a b=>(!lt b a)=true)):l=l' :=
 List.Perm.eq_of_pairwise (fun a b _ _ ha hb=>hT a b (by simpa using hb) (by simpa using ha)) B E h
theorem Kx (hO:SWO lt) (l:List α):(l.mergeSort fun x y=>!lt y x).Pairwise (fun a b=>(!lt b a)=true) :=
 List.pairwise_mergeSort (fun a b c G H=>by
  have B:lt b a=false:=by simpa using G
  have E:lt c b=false:=by simpa using H
  simp [hO.ntrans c b a E B]) (fun a b=>by
  cases h:lt b a with
  | false=>simp
  | true=>simp [hO.asymmA h]) l
theorem qP (hO:SWO lt) (hT:∀ x y,lt x y=false→lt y x=false→x=y) {l l':List α} (h:l.Perm l'):(l.mergeSort fun x y=>!lt y x)=isort lt l' :=
 JR hT (((List.mergeSort_perm _ _).trans h).trans (Vu l').symm) (Kx hO l) (V5 hO l')
end
end Go.Proofs.YtnjbjpaiepefoaaGreatDoor
