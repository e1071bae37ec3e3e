/- A part of the proof. -/
import Derived.Deep.Quiet
import Derived.KernelRfl
import Derived.Laws.Cells
import Derived.Laws.World
import Derived.Tactics
section
set_option linter.unusedVariables false
set_option linter.unusedSimpArgs false
namespace Go.V
open Go
def upd (σ:Nat→Value) (d:Nat) (v:Value):Nat→Value:=fun i=>bif Nat.beq i d then v else σ i
def ini (l:List Value):Nat→Value:=fun i=>l.getD i undef
def Fr (N:Nat) (σ:Nat→Value):Act:={tmps:=Array.ofFn (n:=N) (fun i=>σ i.val),defers:=[]}
def ev (N:Nat) (σ:Nat→Value):Operand→Value
 | .tmp t=>bif Nat.blt t N then σ t else undef
 | .const v=>v
 | .global g=>.pointer (some ⟨g,0,none⟩)
 | .func f=>.func (.func f) #[] #[]
theorem nF (N:Nat) (σ:Nat→Value):(Fr N σ).eval=ev N σ:=by
 funext x
 cases x with
 | tmp t =>
  simp only [Act.eval,Fr,ev,Array.getD_eq_getD_getElem?,Array.getElem?_ofFn]
  by_cases h:t<N
  ·have h2:Nat.blt t N=true:=by rw [Nat.blt_eq]; exact h
   simp [h,h2]
  ·have : Nat.blt t N=false:=by rw [Bool.eq_false_iff]; simpa [Nat.blt_eq] using h
   simp [h,this]
 | _=>rfl
theorem rO (N:Nat) (σ:Nat→Value) (d:Nat) (v:Value):(Fr N σ).put (some d) v=Fr N (upd σ d v):=by
 simp only [Act.put,Fr]
 congr 1
 apply Array.ext_getElem?
 intro i
 simp only [Array.getElem?_setIfInBounds,Array.getElem?_ofFn,Array.size_ofFn,upd]
 by_cases e:d=i
 ·subst e
  by_cases h:d<N <;> simp [h]
 ·have : Nat.beq i d=false:=by rw [Bool.eq_false_iff]; intro h; exact e (Nat.eq_of_beq_eq_true h).symm
  simp [e,this]
section rules
variable {P:Program} {ops:Array Oper} {Q:Exit→Act→World→Prop} {rest:List Oper} {o:Oper} {N:Nat} {σ:Nat→Value} {w w':World} {v:Value} {d:Nat}
theorem bY (hw:Region.wanted o (yielded ops (Fr N σ).tmps)=true) (hd:o.dst=some d)
  (h : (execOp (ev N σ) o).run P w = .ok (.value v) w') (k:wpList P ops Q rest (Fr N (upd σ d v)) w') :
  wpList P ops Q (o::rest) (Fr N σ) w:=by
 unfold wpList
 rw [if_pos hw]
 refine .inl ?_
 unfold Oper.wp
 rw [nF,h,Oper.upon_value,hd,rO]
 exact k
theorem ub (hw:Region.wanted o (yielded ops (Fr N σ).tmps)=true) (hd:o.dst=none)
  (h : (execOp (ev N σ) o).run P w = .ok .skip w') (k:wpList P ops Q rest (Fr N σ) w') :
  wpList P ops Q (o::rest) (Fr N σ) w:=by
 unfold wpList
 rw [if_pos hw]
 refine .inl ?_
 unfold Oper.wp
 rw [nF,h,Oper.upon_skip,hd]
 exact k
theorem de {f:FuncId} {args:Array Value} (hw:Region.wanted o (yielded ops (Fr N σ).tmps)=true) (hd:o.dst=some d)
  (h : (execOp (ev N σ) o).run P w = .ok (.enter f args) w)
  (k : Calls P f args w fun e w'=>∃ v,e = .returned v∧wpList P ops Q rest (Fr N (upd σ d v)) w') :
  wpList P ops Q (o::rest) (Fr N σ) w:=by
 unfold wpList
 rw [if_pos hw]
 refine .inl ?_
 unfold Oper.wp
 rw [nF,h,Oper.upon_enter]
 refine k.mono fun e w' he=>?_
 obtain ⟨v,rfl,hk⟩:=he
 simp only [hd,rO]
 exact hk
theorem xR (hw:Region.wanted o (yielded ops (Fr N σ).tmps)=false) (hd:o.dst=some d)
  (k : wpList P ops Q rest (Fr N (upd σ d undef)) w):wpList P ops Q (o::rest) (Fr N σ) w:=by
 unfold wpList
 rw [if_neg (by rw [hw]; exact Bool.false_ne_true),hd,rO]
 exact k
theorem ar {j t:Nat} {want b:Bool} (hg:o.guard=some (j,want)) (hj:(ops[j]?).bind (·.dst)=some t) (ht:Nat.blt t N=true) (hv:σ t = .bool b) :
  Region.wanted o (yielded ops (Fr N σ).tmps)=(b==want):=by
 unfold Region.wanted
 rw [hg]
 have : yielded ops (Fr N σ).tmps j=some b:=by
  unfold yielded
  rw [hj]
  simp only [Option.bind_some,Fr,Array.getElem?_ofFn]
  rw [dif_pos (by simpa [Nat.blt_eq] using ht)]
  simp [hv]
 simp only [this]
 cases b <;> cases want <;> rfl
theorem dk (h:Q .normal (Fr N σ) w):wpList P ops Q [] (Fr N σ) w:=h
theorem yB {f:FuncId} {fn:Func} {c:Code} {args:List Value} {R:Ending→World→Prop}
  (hf : P.funcs[f]?=some fn) (hb:fn.body=some c) (hN:fn.ntmps=N) (hl:args.length≤N)
  (h : c.wp P (bodyPost P fn R) (Fr N (ini args)) w):Calls P f args.toArray w R:=by
 refine calls_of_wp hf hb ?_
 have e:({tmps:=args.toArray++Array.replicate (fn.ntmps - args.toArray.size) undef,defers:=[]}:Act)=Fr N (ini args):=by
  subst hN
  simp only [Fr]
  congr 1
  apply Array.ext
  ·simp; omega
  ·intro i h1 h2
   simp only [Array.getElem_append,Array.getElem_ofFn,ini]
   split
   ·rename_i h3
    simp at h3
    simp [List.getElem?_eq_getElem h3]
   ·rename_i h3
    simp at h3
    simp [h3]
 rw [e]
 exact h
theorem bf {c:Code} {a:Act} (I:Nat→Act→World→Prop) (n:Nat) (h₀:I n a w)
  (round : ∀ n a w,I n a w→c.wp P (Exit.then (fun a' w'=>∃ m,m<n∧I m a' w') Q) a w):(Code.loop c).wp P Q a w:=by
 intro b k cs
 have key:∀ n a w,I n a w→∃ e a' w',Q e a' w'∧Arrives P (lone (b.at a (.code c :: .inLoop c::k)) cs w) b k cs e a' w':=by
  intro n
  induction n using Nat.strongRecOn with
  | _ n ih =>
   intro a w hI
   obtain ⟨e,a₁,w₁,hq,harr⟩:=round n a w hI b (.inLoop c::k) cs
   cases e with
   | normal =>
    obtain ⟨m,hlt,hI₁⟩:=hq
    obtain ⟨e₂,a₂,w₂,hq₂,harr₂⟩:=ih m hlt a₁ w₁ hI₁
    exact ⟨e₂,a₂,w₂,hq₂,.of_steps (Steps.trans harr (.one step_inLoop)) harr₂⟩
   | exit id=>exact ⟨_,a₁,w₁,hq,.pass (x:=.inLoop c) rfl (fun _ _=>.inl (by simp)) harr⟩
   | goto l=>exact ⟨_,a₁,w₁,hq,.pass (x:=.inLoop c) rfl (fun _ _=>.inl (by simp)) harr⟩
   | ret=>exact ⟨_,a₁,w₁,hq,.pass (x:=.inLoop c) rfl (fun _ _=>.inl (by simp)) harr⟩
   | panic ch=>exact ⟨_,a₁,w₁,hq,.pass (x:=.inLoop c) rfl (fun _ _=>.inl (by simp)) harr⟩
   | outgrown=>exact ⟨_,a₁,w₁,hq,.pass (x:=.inLoop c) rfl (fun _ _=>.inl (by simp)) harr⟩
 obtain ⟨e,a',w',hq,harr⟩:=key n a w h₀
 exact ⟨e,a',w',hq,.of_steps (.one step_loop) harr⟩
theorem cQ {x y:Code} {a:Act} (K:Act→World→Prop) (h:x.wp P (Exit.then K Q) a w) (h2:∀ a w,K a w→y.wp P Q a w):(Code.seq x y).wp P Q a w :=
 wp_seq (Code.wp_mono (fun e a w q=>by cases e <;> first | exact h2 _ _ q | exact q) h)
end rules
abbrev HL:=Nat→Option Obj
def HL.Sub (h:HL) (w:World):Prop:=∀ i o,h i=some o→w.heap[i]?=some o
def HL.Dj (h k:HL):Prop:=∀ i,h i=none∨k i=none
def HL.le (h k:HL):Prop:=∀ i o,h i=some o→k i=some o
theorem HL.le.refl (h:HL):h.le h:=fun _ _ e=>e
theorem HL.le.trans {a b c:HL} (h:a.le b) (k:b.le c):a.le c:=fun i o e=>k i o (h i o e)
structure SP where
 p : HL→HL→Prop
 mono : ∀ {I I':HL} {h:HL},I.le I'→p I h→p I' h
def star (A B:SP):SP:=⟨fun I h=>∃ h1 h2:HL,h1.Dj h2∧(∀ i,h i=(h1 i).or (h2 i))∧A.p I h1∧B.p I h2,
 fun hI ⟨h1,h2,a,b,c,d⟩=>⟨h1,h2,a,b,A.mono hI c,B.mono hI d⟩⟩
def emp:SP:=⟨fun _ _=>True,fun _ _=>trivial⟩
def exS {α:Sort _} (F:α→SP):SP:=⟨fun I h=>∃ x,(F x).p I h,fun hI ⟨x,h⟩=>⟨x,(F x).mono hI h⟩⟩
def tG (φ:HL→Prop) (hφ:∀ I I':HL,I.le I'→φ I→φ I') (A:SP):SP:=⟨fun I h=>φ I∧A.p I h,fun hI h=>⟨hφ _ _ hI h.1,A.mono hI h.2⟩⟩
def big:List SP→SP→SP
 | [],R=>R
 | A::L,R=>star A (big L R)
structure Env (w w':World):Prop where
 os : w'.os=w.os
 tape : w'.tape=w.tape
 output : w'.output=w.output
 size : w.heap.size≤w'.heap.size
theorem Env.refl (w:World):Env w w:=⟨rfl,rfl,rfl,Nat.le_refl _⟩
theorem Env.trans {a b c:World} (h:Env a b) (k:Env b c):Env a c:=⟨k.os.trans h.os,k.tape.trans h.tape,k.output.trans h.output,Nat.le_trans h.size k.size⟩
structure St (w0 w:World) (I:HL) (L:List SP) (R:SP):Prop where
 env : Env w0 w
 imm : I.Sub w
 own : ∃ h:HL,(big L R).p I h∧h.Sub w∧h.Dj I
theorem hQ {α:Type} {a b:Option α}:a.or b=none↔a=none∧b=none:=by cases a <;> simp
theorem pn {A B C:SP} {I h:HL} (hh:(star A (star B C)).p I h):(star B (star A C)).p I h:=by
 obtain ⟨ha,h2,hd,he,pa,hb,hc,hd2,he2,pb,pc⟩:=hh
 refine ⟨hb,fun i=>(ha i).or (hc i),?_,?_,pb,ha,hc,?_,fun _=>rfl,pa,pc⟩
 ·intro i
  rcases hd i with h1 | h1
  ·rcases hd2 i with h3 | h3
   ·exact .inl h3
   ·right; simp [h1,h3]
  ·rw [he2,hQ] at h1
   exact .inl h1.1
 ·intro i
  rw [he,he2]
  rcases hd i with h1 | h1
  ·rcases hd2 i with h3 | h3 <;> simp [h1,h3]
  ·rw [he2,hQ] at h1
   simp [h1.1,h1.2]
 ·intro i
  rcases hd i with h1 | h1
  ·exact .inl h1
  ·rw [he2,hQ] at h1
   exact .inr h1.2
theorem nh {A A' B B':SP} {I h:HL} (ha:∀ h,A.p I h→A'.p I h) (hb:∀ h,B.p I h→B'.p I h) (hh:(star A B).p I h):(star A' B').p I h :=
 let ⟨h1,h2,hd,he,pa,pb⟩:=hh; ⟨h1,h2,hd,he,ha _ pa,hb _ pb⟩
section st
variable {w0 w w':World} {I I':HL} {L L':List SP} {R:SP} {A B C:SP}
theorem St.map (h:St w0 w I L R) (f:∀ k,(big L R).p I k→(big L' R).p I k):St w0 w I L' R :=
 let ⟨e,i,k,hk,r⟩:=h; ⟨e,i,k,f k hk,r⟩
theorem St.swap (h:St w0 w I (A::B::L) R):St w0 w I (B::A::L) R:=h.map fun _ hk=>pn hk
theorem yj (n:Nat):∀ {L L':List SP} {R:SP} {A:SP},L[n]?=some A→L.eraseIdx n=L'→∀ {I h:HL},(big L R).p I h→(big (A::L') R).p I h:=by
 induction n with
 | zero =>
  intro L L' R A h1 h2 I h hh
  cases L with
  | nil=>simp at h1
  | cons X L=>simp at h1 h2; subst h1; subst h2; exact hh
 | succ n ih =>
  intro L L' R A h1 h2 I h hh
  cases L with
  | nil=>simp at h1
  | cons X L =>
   simp at h1 h2; subst h2
   exact pn (nh (fun _ x=>x) (fun k hk=>ih h1 rfl hk) hh)
theorem St.oD (n:Nat) (h:St w0 w I L R) (h1:L[n]?=some A) (h2:L.eraseIdx n=L'):St w0 w I (A::L') R:=h.map fun _ hk=>yj n h1 h2 hk
theorem St.sub (h:St w0 w I (A::L) R):St w0 w I L R:=by
 obtain ⟨e,i,k,⟨h1,h2,hd,he,pa,pb⟩,hs,hj⟩:=h
 have key:∀ i o,h2 i=some o→k i=some o:=fun i o ho=>by
  rw [he]; rcases hd i with h | h
  ·simp [h,ho]
  ·rw [h] at ho; cases ho
 refine ⟨e,i,h2,pb,fun i o ho=>hs i o (key i o ho),fun i=>?_⟩
 rcases hj i with h | h
 ·left; rw [he,hQ] at h; exact h.2
 ·exact .inr h
theorem St.ex {α:Sort _} {F:α→SP} (h:St w0 w I (exS F::L) R):∃ x,St w0 w I (F x::L) R:=by
 obtain ⟨e,i,k,⟨h1,h2,hd,he,⟨x,pa⟩,pb⟩,hs,hj⟩:=h
 exact ⟨x,e,i,k,⟨h1,h2,hd,he,pa,pb⟩,hs,hj⟩
theorem St.and {φ:HL→Prop} {hφ:∀ I I':HL,I.le I'→φ I→φ I'} (h:St w0 w I (tG φ hφ A::L) R):φ I∧St w0 w I (A::L) R:=by
 obtain ⟨e,i,k,⟨h1,h2,hd,he,⟨x,pa⟩,pb⟩,hs,hj⟩:=h
 exact ⟨x,e,i,k,⟨h1,h2,hd,he,pa,pb⟩,hs,hj⟩
theorem St.impl (h:St w0 w I (A::L) R) (f:∀ k,A.p I k→B.p I k):St w0 w I (B::L) R:=h.map fun _ hk=>nh f (fun _ x=>x) hk
theorem St.nP {α:Sort _} {F:α→SP} (x:α) (h:St w0 w I (F x::L) R):St w0 w I (exS F::L) R:=h.impl fun _ hk=>⟨x,hk⟩
theorem St.uP {φ:HL→Prop} {hφ:∀ I I':HL,I.le I'→φ I→φ I'} (hx:φ I) (h:St w0 w I (A::L) R):St w0 w I (tG φ hφ A::L) R:=h.impl fun _ hk=>⟨hx,hk⟩
theorem St.merge (h:St w0 w I (star A B::L) R):St w0 w I (A::B::L) R:=h.map fun k hk=>by
 obtain ⟨hab,hc,hd,he,⟨ha,hb,hd2,he2,pa,pb⟩,pc⟩:=hk
 refine ⟨ha,fun i=>(hb i).or (hc i),?_,?_,pa,hb,hc,?_,fun _=>rfl,pb,pc⟩
 ·intro i
  rcases hd2 i with h | h
  ·exact .inl h
  ·rcases hd i with h3 | h3
   ·rw [he2,hQ] at h3; exact .inl h3.1
   ·right; simp [h,h3]
 ·intro i
  rw [he,he2]; cases hai:ha i <;> simp [hai]
 ·intro i
  rcases hd i with h3 | h3
  ·rw [he2,hQ] at h3; exact .inl h3.2
  ·exact .inr h3
theorem St.join (h:St w0 w I (A::B::L) R):St w0 w I (star A B::L) R:=h.map fun k hk=>by
 obtain ⟨ha,h2,hd,he,pa,hb,hc,hd2,he2,pb,pc⟩:=hk
 refine ⟨fun i=>(ha i).or (hb i),hc,?_,?_,⟨ha,hb,?_,fun _=>rfl,pa,pb⟩,pc⟩
 ·intro i
  rcases hd i with h | h
  ·rcases hd2 i with h3 | h3
   ·left; simp [h,h3]
   ·exact .inr h3
  ·rw [he2,hQ] at h; exact .inr h.2
 ·intro i; rw [he,he2]; cases hai:ha i <;> simp [hai]
 ·intro i
  rcases hd i with h | h
  ·exact .inl h
  ·rw [he2,hQ] at h; exact .inr h.1
theorem St.zJ (h:St w0 w I L R):St w0 w I (emp::L) R:=h.map fun k hk=>⟨fun _=>none,k,fun _=>.inl rfl,fun _=>by simp,trivial,hk⟩
theorem St.drawn (h:St w0 w I L R) (n:Nat):St w0 {w with drawn:=n} I L R:=⟨⟨h.env.os,h.env.tape,h.env.output,h.env.size⟩,h.imm,h.own⟩
theorem uF (L:List SP):∀ (L1:List SP),big L1 (big L R)=big (L1++L) R
 | []=>rfl
 | A::L1=>by simp only [List.cons_append,big,uF L L1]
theorem St.split {L1:List SP} (h:St w0 w I (L1++L) R):St w0 w I L1 (big L R):=by
 obtain ⟨e,i,k,hk,r⟩:=h
 exact ⟨e,i,k,(uF L L1).symm ▸ hk,r⟩
theorem St.qc {L1:List SP} (h:St w0 w I L1 (big L R)):St w0 w I (L1++L) R:=by
 obtain ⟨e,i,k,hk,r⟩:=h
 exact ⟨e,i,k,(uF L L1) ▸ hk,r⟩
theorem yt {h:HL}:∀ (L1 L2:List SP),(big (L1++L2) R).p I h→(big (L2++L1) R).p I h
 | [],L2,hh=>by simpa using hh
 | A::L1,L2,hh=>by
  have h1:(big (A::(L2++L1)) R).p I h:=nh (fun _ x=>x) (fun k hk=>yt L1 L2 hk) hh
  have key:∀ (L2:List SP) (h:HL),(big (A::(L2++L1)) R).p I h→(big (L2++A::L1) R).p I h:=by
   intro L2
   induction L2 with
   | nil=>intro h hh; exact hh
   | cons B L2 ih=>intro h hh; exact nh (fun _ x=>x) (fun k hk=>ih k hk) (pn hh)
  exact key L2 h h1
theorem St.comm {L1:List SP} (h:St w0 w I (L1++L) R):St w0 w I (L++L1) R:=h.map fun _ hk=>yt L1 L hk
def blk (b:Nat) (o:Obj):SP:=⟨fun _ h=>∀ i,h i=if i=b then some o else none,fun _ h=>h⟩
theorem St.vY {b:Nat} {o:Obj} (h:St w0 w I (blk b o::L) R):w.heap[b]?=some o:=by
 obtain ⟨e,i,k,⟨h1,h2,hd,he,pa,pb⟩,hs,hj⟩:=h
 exact hs b o (by rw [he,pa b]; simp)
theorem St.DC {b:Nat} {o o':Obj} (h:St w0 w I (blk b o::L) R) (henv:Env w w') (hb:w'.heap[b]?=some o') (hk:∀ i,i≠b→i<w.heap.size→w'.heap[i]?=w.heap[i]?) :
  St w0 w' I (blk b o'::L) R:=by
 have hbI:I b=none:=by
  obtain ⟨e,i,k,⟨h1,h2,hd,he,pa,pb⟩,hs,hj⟩:=h
  rcases hj b with h | h
  ·rw [he,pa b] at h; simp at h
  ·exact h
 obtain ⟨e,i,k,⟨h1,h2,hd,he,pa,pb⟩,hs,hj⟩:=h
 have lt:∀ {i o},w.heap[i]?=some o→i<w.heap.size:=fun h=>(Array.getElem?_eq_some_iff.1 h).1
 refine ⟨e.trans henv,fun j o hj'=>?_,fun i=>if i=b then some o' else h2 i,⟨fun i=>if i=b then some o' else none,h2,?_,?_,fun _=>rfl,pb⟩,?_,?_⟩
 ·have h3:=i j o hj'
  rw [hk j (fun e=>by rw [e,hbI] at hj'; cases hj') (lt h3)]; exact h3
 ·intro j
  by_cases e1:j=b
  ·right; subst e1; rcases hd j with h | h
   ·rw [pa j] at h; simp at h
   ·exact h
  ·left; simp [e1]
 ·intro j; by_cases e1:j=b <;> simp [e1]
 ·intro j o1 ho1
  by_cases e1:j=b
  ·subst e1; simp at ho1; subst ho1; exact hb
  ·simp [e1] at ho1
   have h3:=hs j o1 (by rw [he,pa j]; simp [e1,ho1])
   rw [hk j e1 (lt h3)]; exact h3
 ·intro j
  by_cases e1:j=b
  ·subst e1; exact .inr hbI
  ·rcases hj j with h | h
   ·left; simp [e1]; rw [he,pa j] at h; simpa [e1] using h
   ·exact .inr h
theorem St.push (h:St w0 w I L R) (o:Obj) (hw:w'.heap=w.heap.push o) (he:w'.os=w.os∧w'.tape=w.tape∧w'.output=w.output):St w0 w' I (blk w.heap.size o::L) R:=by
 obtain ⟨e,i,k,pk,hs,hj⟩:=h
 have lt:∀ {i o},w.heap[i]?=some o→i<w.heap.size:=fun h=>(Array.getElem?_eq_some_iff.1 h).1
 have old:∀ {i o},w.heap[i]?=some o→w'.heap[i]?=some o:=fun {i o} h=>by rw [hw,Array.getElem?_push,if_neg (by have:=lt h; omega)]; exact h
 have kn:k w.heap.size=none:=by
  cases hk:k w.heap.size with
  | none=>rfl
  | some o=>have:=lt (hs _ _ hk); omega
 have In:I w.heap.size=none:=by
  cases hk:I w.heap.size with
  | none=>rfl
  | some o=>have:=lt (i _ _ hk); omega
 refine ⟨e.trans ⟨he.1,he.2.1,he.2.2,by rw [hw]; simp⟩,fun j o hj=>old (i j o hj),fun i=>if i=w.heap.size then some o else k i,⟨fun i=>if i=w.heap.size then some o else none,k,?_,?_,fun _=>rfl,pk⟩,?_,?_⟩
 ·intro j; by_cases e1:j=w.heap.size
  ·right; rw [e1]; exact kn
  ·left; simp [e1]
 ·intro j; by_cases e1:j=w.heap.size <;> simp [e1]
 ·intro j o1 ho1
  by_cases e1:j=w.heap.size
  ·subst e1; simp at ho1; subst ho1; rw [hw]; simp
  ·simp [e1] at ho1; exact old (hs j o1 ho1)
 ·intro j; by_cases e1:j=w.heap.size
  ·right; rw [e1]; exact In
  ·rcases hj j with h | h
   ·left; simp [e1,h]
   ·exact .inr h
theorem St.fixed {b:Nat} {o:Obj} (h:St w0 w I (blk b o::L) R):∃ I':HL,I.le I'∧I' b=some o∧St w0 w I' L R:=by
 obtain ⟨e,i,k,⟨h1,h2,hd,he,pa,pb⟩,hs,hj⟩:=h
 have hbI:I b=none:=by
  rcases hj b with h | h
  ·rw [he,pa b] at h; simp at h
  ·exact h
 have hle:I.le (fun j=>if j=b then some o else I j):=fun j o1 h1=>by
  by_cases e1:j=b
  ·rw [e1,hbI] at h1; cases h1
  ·simp [e1,h1]
 refine ⟨fun j=>if j=b then some o else I j,hle,by simp,e,fun j o1 hj1=>?_,h2,(big L R).mono hle pb,?_,?_⟩
 ·by_cases e1:j=b
  ·subst e1; simp at hj1; subst hj1; exact hs j o (by rw [he,pa j]; simp)
  ·simp [e1] at hj1; exact i j o1 hj1
 ·intro j o1 ho1
  refine hs j o1 ?_
  rw [he]; rcases hd j with h | h
  ·simp [h,ho1]
  ·rw [h] at ho1; cases ho1
 ·intro j
  by_cases e1:j=b
  ·left; subst e1; rcases hd j with h | h
   ·rw [pa j] at h; simp at h
   ·exact h
  ·rcases hj j with h | h
   ·left; rw [he,hQ] at h; exact h.2
   ·right; simp [e1,h]
end st
end Go.V
end
section
set_option linter.unusedVariables false
set_option linter.unusedSimpArgs false
namespace Go.V
open Go
def cells (b:Nat) (cs:List Value):SP:=exS fun E:TypeId=>exS fun fr:Nat×Nat=>tG (fun _=>∀ o,o≤cs.length→(decide (fr.1≤o)&&decide (o<fr.2))=false) (fun _ _ _ h=>h) (blk b (.cells cs.toArray E fr))
def row (sz:Nat) (v:Value) (css:List (List Value)):SP:=⟨fun I h =>
 (∃ a,v = .slice a 0 0∧css=[]) ∨
 ∃ (b off cap:Nat) (pre junk:List Value),v = .slice (some ⟨b,off,none⟩) css.length cap∧css.length≤cap∧(∀ cs∈css,cs.length=sz)∧pre.length=off∧junk.length=(cap - css.length)*sz∧(cells b (pre++(css.flatten++junk))).p I h,
 fun hI h=>h.imp id fun ⟨b,off,cap,pre,junk,a1,a2,a3,a4,a5,a6⟩=>⟨b,off,cap,pre,junk,a1,a2,a3,a4,a5,(cells _ _).mono hI a6⟩⟩
def dU (I:HL) (sz:Nat) (v:Value) (css:List (List Value)):Prop :=
 (∀ cs∈css,cs.length=sz)∧∃ a cap,v = .slice a css.length cap∧css.length≤cap ∧
  (css ≠ []→∃ b off c E fr,a=some ⟨b,off,none⟩∧I b=some (.cells c E fr)∧∀ k x,css.flatten[k]?=some x→c[off+k]?=some x)
def ie (R:SP) (I:HL) (sz:Nat) (v:Value) (css:List (List Value)):Prop :=
 (∀ cs∈css,cs.length=sz)∧∃ a cap,v = .slice a css.length cap∧css.length≤cap ∧
  (css ≠ []→∃ b off,a=some ⟨b,off,none⟩∧∀ w0 w I' L,I.le I'→St w0 w I' L R→∀ k x,css.flatten[k]?=some x→w.cell? ⟨b,off+k,none⟩=some x)
theorem sa {w:World} {b o:Nat} {c:Array Value} {E:TypeId} {fr:Nat×Nat} (h:w.heap[b]?=some (.cells c E fr)):w.cell? ⟨b,o,none⟩=c[o]?:=by
 simp [World.cell?,h]
section
variable {w0 w w':World} {I I':HL} {L L':List SP} {R:SP} {A B:SP} {sz:Nat} {v x:Value} {css:List (List Value)} {cs:List Value} {b o:Nat}
theorem St.cell (h:St w0 w I (cells b cs::L) R) (ho:cs[o]?=some x):w.cell? ⟨b,o,none⟩=some x:=by
 obtain ⟨E,h⟩:=h.ex
 obtain ⟨fr,h⟩:=h.ex
 rw [sa h.and.2.vY]
 simpa using ho
theorem St.yD (h:St w0 w I (cells b cs::L) R) (ho:o<cs.length):w.frozen? ⟨b,o,none⟩=false:=by
 obtain ⟨E,h⟩:=h.ex
 obtain ⟨fr,h⟩:=h.ex
 obtain ⟨hf,h⟩:=h.and
 simp only [World.frozen?,h.vY]
 exact hf o (Nat.le_of_lt ho)
theorem xr (w:World) (b o:Nat) (v:Value) {c:Array Value} {E:TypeId} {fr:Nat×Nat} (h:w.heap[b]?=some (.cells c E fr)) :
  (w.setCell ⟨b,o,none⟩ v).heap[b]?=some (.cells (c.setIfInBounds o v) E fr):=by
 simp [World.setCell,Array.getElem?_modify,h]
theorem wm (w:World) (b o i:Nat) (v:Value) (h:i≠b):(w.setCell ⟨b,o,none⟩ v).heap[i]?=w.heap[i]?:=by
 simp only [World.setCell,Array.getElem?_modify]
 rw [if_neg (by omega)]
theorem yP (w:World) (a:Addr) (v:Value):Env w (w.setCell a v):=⟨rfl,rfl,rfl,by simp [World.setCell]⟩
theorem St.set (h:St w0 w I (cells b cs::L) R) (o:Nat) (x:Value):St w0 (w.setCell ⟨b,o,none⟩ x) I (cells b (cs.set o x)::L) R:=by
 obtain ⟨E,h⟩:=h.ex
 obtain ⟨fr,h⟩:=h.ex
 obtain ⟨hf,h⟩:=h.and
 have h1:=h.DC (o':=.cells (cs.set o x).toArray E fr) (yP w ⟨b,o,none⟩ x)
  (by rw [xr w b o x h.vY]; simp) (fun i hi _=>wm w b o i x hi)
 exact h1.impl fun k hk=>⟨E,fr,by simpa using hf,hk⟩
theorem St.new (h:St w0 w I L R) (cs:List Value) (E:TypeId):St w0 (w.alloc (.cells cs.toArray E)) I (cells w.heap.size cs::L) R :=
 (h.push (w':=w.alloc (.cells cs.toArray E)) (.cells cs.toArray E) rfl ⟨rfl,rfl,rfl⟩).impl fun k hk=>⟨E,(0,0),by simp,hk⟩
theorem tW {css:List (List Value)} {sz:Nat} (hl:∀ cs∈css,cs.length=sz):∀ {i o:Nat} {cs:List Value} {x:Value},css[i]?=some cs→cs[o]?=some x→css.flatten[i*sz+o]?=some x:=by
 induction css with
 | nil=>intro i o cs x h; simp at h
 | cons c css ih =>
  intro i o cs x hi ho
  have hc:c.length=sz:=hl c (by simp)
  cases i with
  | zero =>
   simp at hi; subst hi
   have : o<c.length:=(List.getElem?_eq_some_iff.1 ho).1
   simp only [List.flatten_cons,Nat.zero_mul,Nat.zero_add]
   rw [List.getElem?_append_left this]; exact ho
  | succ i =>
   simp at hi
   simp only [List.flatten_cons]
   rw [List.getElem?_append_right (by rw [hc,Nat.succ_mul]; omega)]
   have e:(i+1)*sz+o - c.length=i*sz+o:=by rw [hc,Nat.succ_mul]; omega
   rw [e]
   exact ih (fun cs h=>hl cs (by simp [h])) hi ho
theorem jG {css:List (List Value)} {sz:Nat} (hl:∀ cs∈css,cs.length=sz):css.flatten.length=css.length*sz:=by
 induction css with
 | nil=>simp
 | cons c css ih =>
  simp only [List.flatten_cons,List.length_append,List.length_cons,hl c (by simp),ih fun cs h=>hl cs (by simp [h]),Nat.succ_mul]
  omega
theorem Cr {css:List (List Value)} {sz:Nat} (hl:∀ cs∈css,cs.length=sz):∀ {i o:Nat} {cs:List Value} {x:Value},css[i]?=some cs→o<sz→css.flatten.set (i*sz+o) x=(css.set i (cs.set o x)).flatten:=by
 induction css with
 | nil=>intro i o cs x h; simp at h
 | cons c css ih =>
  intro i o cs x hi ho
  have hc:c.length=sz:=hl c (by simp)
  cases i with
  | zero =>
   simp at hi; subst hi
   simp only [List.flatten_cons,Nat.zero_mul,Nat.zero_add,List.set_cons_zero]
   rw [List.set_append_left _ _ (by omega)]
  | succ i =>
   simp at hi
   simp only [List.flatten_cons,List.set_cons_succ]
   rw [List.set_append_right _ _ (by rw [hc,Nat.succ_mul]; omega)]
   have e:(i+1)*sz+o - c.length=i*sz+o:=by rw [hc,Nat.succ_mul]; omega
   rw [e,ih (fun cs h=>hl cs (by simp [h])) hi ho]
def ED:Value→Nat | .slice (some a) _ _=>a.block | _=>0
def Fj:Value→Nat | .slice (some a) _ _=>a.off | _=>0
def qM:Value→Nat | .slice _ _ c=>c | _=>0
def dN (v:Value) (k:Nat):Addr:=⟨ED v,Fj v+k,none⟩
def dc (v:Value) (n:Nat):Prop:=∃ a cap,v = .slice a n cap∧n≤cap∧(n≠0→∃ b off,a=some ⟨b,off,none⟩)
theorem dc.nil:dc (.slice none 0 0) 0:=⟨none,0,rfl,Nat.le_refl _,fun h=>absurd rfl h⟩
theorem ie.BP (h:ie R I sz v css):dc v css.length:=by
 obtain ⟨h1,a,cap,rfl,h2,h3⟩:=h
 exact ⟨a,cap,rfl,h2,fun hn=>by
  obtain ⟨b,off,rfl,_⟩:=h3 (fun e=>hn (by simp [e]))
  exact ⟨b,off,rfl⟩⟩
theorem ie.mono (h:ie R I sz v css) (hI:I.le I'):ie R I' sz v css:=by
 obtain ⟨h1,a,cap,h2,h3,h4⟩:=h
 refine ⟨h1,a,cap,h2,h3,fun hn=>?_⟩
 obtain ⟨b,off,e,h5⟩:=h4 hn
 exact ⟨b,off,e,fun w0 w I2 L hle hst=>h5 w0 w I2 L (hI.trans hle) hst⟩
theorem dU.mono (h:dU I sz v css) (hI:I.le I'):dU I' sz v css:=by
 obtain ⟨h1,a,cap,h2,h3,h4⟩:=h
 refine ⟨h1,a,cap,h2,h3,fun hn=>?_⟩
 obtain ⟨b,off,c,E,fr,e,h5,h6⟩:=h4 hn
 exact ⟨b,off,c,E,fr,e,hI _ _ h5,h6⟩
theorem dU.rd (h:dU I sz v css) (R:SP):ie R I sz v css:=by
 obtain ⟨h1,a,cap,h2,h3,h4⟩:=h
 refine ⟨h1,a,cap,h2,h3,fun hn=>?_⟩
 obtain ⟨b,off,c,E,fr,e,h5,h6⟩:=h4 hn
 refine ⟨b,off,e,fun w0 w I2 L hle hst k x hk=>?_⟩
 rw [sa (hst.imm _ _ (hle _ _ h5))]
 exact h6 k x hk
theorem ie.FK (h:ie R I sz v css) (A:SP):ie (star A R) I sz v css:=by
 obtain ⟨h1,a,cap,h2,h3,h4⟩:=h
 refine ⟨h1,a,cap,h2,h3,fun hn=>?_⟩
 obtain ⟨b,off,e,h5⟩:=h4 hn
 exact ⟨b,off,e,fun w0 w I2 L hle hst=>h5 w0 w I2 (L++[A]) hle (St.qc (L:=[A]) hst)⟩
theorem ie.Ew (h:ie R I sz v css):∀ (L:List SP),ie (big L R) I sz v css
 | []=>h
 | A::L=>(h.Ew L).FK A
theorem cC {h:HL} (hr:(row sz v css).p I h):(∀ cs∈css,cs.length=sz)∧dc v css.length:=by
 rcases hr with ⟨a,rfl,rfl⟩ | ⟨b,off,cap,pre,junk,rfl,h1,h2,h3,h4,h5⟩
 ·exact ⟨by simp,a,0,rfl,Nat.le_refl _,fun h=>absurd rfl h⟩
 ·exact ⟨h2,_,cap,rfl,h1,fun _=>⟨b,off,rfl⟩⟩
theorem St.cC (h:St w0 w I (row sz v css::L) R):(∀ cs∈css,cs.length=sz)∧dc v css.length:=by
 obtain ⟨e,i,k,⟨h1,h2,hd,he,pa,pb⟩,hs,hj⟩:=h
 exact V.cC pa
theorem St.oA (h:St w0 w I (row sz v css::L) R) (hne:css≠[]):∃ (b off cap:Nat) (pre junk:List Value),v = .slice (some ⟨b,off,none⟩) css.length cap∧css.length≤cap∧(∀ cs∈css,cs.length=sz)∧pre.length=off∧junk.length=(cap - css.length)*sz∧St w0 w I (cells b (pre++(css.flatten++junk))::L) R:=by
 obtain ⟨e,i,k,⟨h1,h2,hd,he,pa,pb⟩,hs,hj⟩:=h
 rcases pa with ⟨a,rfl,rfl⟩ | ⟨b,off,cap,pre,junk,rfl,g1,g2,g3,g4,g5⟩
 ·exact absurd rfl hne
 ·exact ⟨b,off,cap,pre,junk,rfl,g1,g2,g3,g4,e,i,k,⟨h1,h2,hd,he,g5,pb⟩,hs,hj⟩
theorem St.rK {b off cap:Nat} {pre junk:List Value} (h:St w0 w I (cells b (pre++(css.flatten++junk))::L) R) (h1:css.length≤cap) (h2:∀ cs∈css,cs.length=sz) (h3:pre.length=off) (h4:junk.length=(cap - css.length)*sz) :
  St w0 w I (row sz (.slice (some ⟨b,off,none⟩) css.length cap) css::L) R :=
 h.impl fun k hk=>.inr ⟨b,off,cap,pre,junk,rfl,h1,h2,h3,h4,hk⟩
theorem St.zY (h:St w0 w I L R):St w0 w I (row sz (.slice none 0 0) []::L) R:=h.zJ.impl fun _ _=>.inl ⟨_,rfl,rfl⟩
theorem St.mF (h:St w0 w I (row sz v css::L) R) {i o:Nat} (hi:css[i]?=some cs) (ho:cs[o]?=some x):w.cell? (dN v (i*sz+o))=some x:=by
 have hne:css≠[]:=fun e=>by simp [e] at hi
 obtain ⟨b,off,cap,pre,junk,rfl,h1,h2,rfl,h4,h5⟩:=h.oA hne
 have hf:=tW h2 hi ho
 refine h5.cell (o:=pre.length+(i*sz+o)) ?_
 rw [List.getElem?_append_right (by omega),Nat.add_sub_cancel_left,List.getElem?_append_left (List.getElem?_eq_some_iff.1 hf).1]
 exact hf
theorem ie.cell (h:ie R I sz v css) (hI:I.le I') (hst:St w0 w I' L R) {i o:Nat} (hi:css[i]?=some cs) (ho:cs[o]?=some x):w.cell? (dN v (i*sz+o))=some x:=by
 have hne:css≠[]:=fun e=>by simp [e] at hi
 obtain ⟨h1,a,cap,rfl,h2,h3⟩:=h
 obtain ⟨b,off,rfl,h4⟩:=h3 hne
 exact h4 w0 w I' L hI hst _ _ (tW h1 hi ho)
theorem St.DL (h:St w0 w I (row sz v css::L) R) {i o:Nat} (hi:css[i]?=some cs) (ho:o<sz) (x:Value) :
  w.frozen? (dN v (i*sz+o))=false∧(∃ y,w.cell? (dN v (i*sz+o))=some y)∧St w0 (w.setCell (dN v (i*sz+o)) x) I (row sz v (css.set i (cs.set o x))::L) R:=by
 have hne:css≠[]:=fun e=>by simp [e] at hi
 have hcs:cs.length=sz:=(h.cC.1) cs (List.mem_of_getElem? hi)
 have hy:cs[o]?=some cs[o]:=List.getElem?_eq_getElem (by omega)
 have hc:=h.mF hi hy
 obtain ⟨b,off,cap,pre,junk,rfl,h1,h2,rfl,h4,h5⟩:=h.oA hne
 have hf:=tW h2 hi hy
 have hlt:=(List.getElem?_eq_some_iff.1 hf).1
 refine ⟨h5.yD (o:=pre.length+(i*sz+o)) (by rw [List.length_append,List.length_append]; omega),⟨_,hc⟩,?_⟩
 have h6:=h5.set (pre.length+(i*sz+o)) x
 rw [List.set_append_right _ _ (by omega),Nat.add_sub_cancel_left,List.set_append_left _ _ hlt,Cr h2 hi ho] at h6
 have h7:=h6.rK (sz:=sz) (cap:=cap) (by simpa using h1) (by
  intro c hc'
  rcases List.mem_or_eq_of_mem_set hc' with h | h
  ·exact h2 c h
  ·subst h; simpa using hcs) rfl (by simpa using h4)
 simpa [dN,ED,Fj] using h7
theorem ie.vb (n:Nat) (h:St w0 w I L R) (hL:L[n]?=some (row sz v css)):ie (big L R) I sz v css:=by
 have hp:=h.oD n hL rfl
 obtain ⟨h1,a,cap,rfl,h2,h3⟩:=hp.cC
 refine ⟨h1,a,cap,rfl,h2,fun hne=>?_⟩
 obtain ⟨b,off,rfl⟩:=h3 (fun e=>hne (List.eq_nil_of_length_eq_zero e))
 refine ⟨b,off,rfl,fun w0' w' I' L' hle hst k x hk=>?_⟩
 have h4:St w0' w' I' (L++L') R:=(hst.qc).comm
 have hlt:n<L.length:=by
  rcases Nat.lt_or_ge n L.length with h | h
  ·exact h
  ·rw [List.getElem?_eq_none h] at hL; cases hL
 have h5:=(h4.oD n (by rw [List.getElem?_append_left hlt]; exact hL) rfl)
 obtain ⟨b',off',cap',pre,junk,e1,g1,g2,rfl,g4,g5⟩:=h5.oA hne
 simp only [Value.slice.injEq,Option.some.injEq,Addr.mk.injEq,and_true,true_and] at e1
 obtain ⟨⟨rfl,rfl⟩,rfl⟩:=e1
 refine g5.cell ?_
 rw [List.getElem?_append_right (by omega),Nat.add_sub_cancel_left,List.getElem?_append_left (List.getElem?_eq_some_iff.1 hk).1]
 exact hk
theorem St.Ek (h:St w0 w I (row sz v css::L) R):∃ I':HL,I.le I'∧dU I' sz v css∧St w0 w I' L R:=by
 obtain ⟨h1,a,cap,rfl,h2,h3⟩:=h.cC
 by_cases hne:css=[]
 ·exact ⟨I,HL.le.refl _,⟨h1,a,cap,rfl,h2,fun h=>absurd hne h⟩,h.sub⟩
 ·obtain ⟨b,off,cap',pre,junk,e1,g1,g2,rfl,g4,g5⟩:=h.oA hne
  simp only [Value.slice.injEq,true_and] at e1
  obtain ⟨rfl,rfl⟩:=e1
  obtain ⟨E,g5⟩:=g5.ex
  obtain ⟨fr,g5⟩:=g5.ex
  obtain ⟨I',hle,hI',hst⟩:=g5.and.2.fixed
  refine ⟨I',hle,⟨h1,_,cap,rfl,h2,fun _=>⟨b,pre.length,_,E,fr,rfl,hI',fun k x hk=>?_⟩⟩,hst⟩
  simp only [List.getElem?_toArray]
  rw [List.getElem?_append_right (by omega),Nat.add_sub_cancel_left,List.getElem?_append_left (List.getElem?_eq_some_iff.1 hk).1]
  exact hk
end
end Go.V
end
section
set_option linter.unusedVariables false
set_option linter.unusedSimpArgs false
namespace Go.V
open Go
section pure
variable {P:Program} {ρ:Operand→Value} {w w':World} {d:Option Tmp} {ty:TypeId} {ps:String} {af:Array Edge} {g:Option (Nat×Bool)}
theorem nU {s:Sem Value} {v:Value} (h:s.run P w = .ok v w'):(s >>= fun a=>(pure (Next.value a):Sem Next)).run P w = .ok (.value v) w':=by
 rw [Sem.run_bind,h]; rfl
theorem oa {s:Sem Unit} (h:s.run P w = .ok () w'):(s >>= fun _=>(pure Next.skip:Sem Next)).run P w = .ok .skip w':=by
 rw [Sem.run_bind,h]; rfl
theorem eT (b o k:Nat):(⟨b,o,none⟩:Addr).add k=⟨b,o+k,none⟩:=by
 unfold Addr.add; split
 ·rename_i h; subst h; rfl
 ·rfl
theorem qL (V:Value) (k j:Nat):(dN V k).add j=dN V (k+j):=by
 unfold dN; rw [eT,Nat.add_assoc]
theorem az {t E:TypeId} {x ix:Operand} {k:IntKind} {i:Int} {n sz:Nat} {V:Value} (hx:ρ x=V) (hi:ρ ix = .int k i) (ht:P.underlying t=some (.slice E))
  (hs : ∀ w,(sizeOf E).run P w = .ok sz w) (hv:dc V n) (h0:0≤i) (h1:i<n) :
  (execOp ρ ⟨d,.indexAddr t x ix,ty,ps,af,g⟩).run P w = .ok (.value (.pointer (some (dN V (i.toNat*sz+0))))) w:=by
 obtain ⟨a,cap,rfl,h2,h3⟩:=hv
 obtain ⟨b,off,rfl⟩:=h3 (by omega)
 refine nU ?_
 rw [hx,hi]
 have hu:∀ w:World,(underlying t).run P w = .ok (.slice E) w:=fun w=>by simp [underlying,ht]
 simp only [Instr.indexAt,asIntOf,Sem.run_bind,Sem.run_pure,Result.andThen,hu,hs,h0,h1,and_self,if_true,eT,dN,ED,Fj,Nat.add_zero]
theorem aO {S:TypeId} {x:Operand} {f b o o' n:Nat} {fs:Array Field} {fd:Field} (hx:ρ x = .pointer (some ⟨b,o,none⟩)) (hS:P.underlying S=some (.struct fs))
  (hf : fs[f]?=some fd) (hn:∀ w,(sizeOf fd.type).run P w = .ok (n+1) w) (ho:o+fd.offset=o') :
  (execOp ρ ⟨d,.fieldAddr S x f,ty,ps,af,g⟩).run P w = .ok (.value (.pointer (some ⟨b,o',none⟩))) w:=by
 refine nU ?_
 rw [hx]
 have hu:∀ w:World,(underlying S).run P w = .ok (.struct fs) w:=fun w=>by simp [underlying,hS]
 simp only [Instr.fieldAt,Sem.run_bind,Sem.run_pure,Result.andThen,hu,hf,Instr.sureAddr,fieldPlace,hn,Nat.succ_ne_zero,if_false,eT,ho]
theorem aR {S:TypeId} {x:Operand} {f k o o' n:Nat} {V:Value} {fs:Array Field} {fd:Field} (hx:ρ x = .pointer (some (dN V (k+o)))) (hS:P.underlying S=some (.struct fs))
  (hf : fs[f]?=some fd) (hn:∀ w,(sizeOf fd.type).run P w = .ok (n+1) w) (ho:o+fd.offset=o') :
  (execOp ρ ⟨d,.fieldAddr S x f,ty,ps,af,g⟩).run P w = .ok (.value (.pointer (some (dN V (k+o'))))) w:=by
 refine nU ?_
 rw [hx]
 have hu:∀ w:World,(underlying S).run P w = .ok (.struct fs) w:=fun w=>by simp [underlying,hS]
 simp only [Instr.fieldAt,Sem.run_bind,Sem.run_pure,Result.andThen,hu,hf,Instr.sureAddr,fieldPlace,hn,Nat.succ_ne_zero,if_false,qL,Nat.add_assoc,ho]
theorem kx {t E:TypeId} {x ix:Operand} {k:IntKind} {i:Int} {N b o sz:Nat} (hx:ρ x = .pointer (some ⟨b,o,none⟩)) (hi:ρ ix = .int k i) (ht:P.underlying t=some (.array N E))
  (hs : ∀ w,(sizeOf E).run P w = .ok sz w) (h0:0≤i) (h1:i<N) :
  (execOp ρ ⟨d,.indexAddr t x ix,ty,ps,af,g⟩).run P w = .ok (.value (.pointer (some ⟨b,o+i.toNat*sz,none⟩))) w:=by
 refine nU ?_
 rw [hx,hi]
 have hu:∀ w:World,(underlying t).run P w = .ok (.array N E) w:=fun w=>by simp [underlying,ht]
 simp only [Instr.indexAt,asIntOf,Sem.run_bind,Sem.run_pure,Result.andThen,hu,hs,h0,h1,and_self,if_true,eT,Instr.sureAddr]
theorem ao {t:TypeId} {x:Operand} {a:Addr} {v:Value} (hx:ρ x = .pointer (some a)) (hA:∀ w,(isAgg t).run P w = .ok false w) (hc:w.cell? a=some v) :
  (execOp ρ ⟨d,.load t x,ty,ps,af,g⟩).run P w = .ok (.value v) w:=by
 refine nU ?_
 rw [hx]
 simp only [Instr.loadAt,Instr.sureAddr,loadVar,Sem.run_bind,Sem.run_pure,Result.andThen,hA,Bool.false_eq_true,if_false,run_load,hc,Sem.run_ite]
theorem av {t:TypeId} {x:Operand} {a:Addr} {cs:List Value} (hx:ρ x = .pointer (some a)) (hA:∀ w,(isAgg t).run P w = .ok true w) (hs:∀ w,(sizeOf t).run P w = .ok cs.length w)
  (hc : ∀ j v,cs[j]?=some v→w.cell? (a.add j)=some v):(execOp ρ ⟨d,.load t x,ty,ps,af,g⟩).run P w = .ok (.value (.agg cs.toArray)) w:=by
 refine nU ?_
 rw [hx]
 simp only [Instr.loadAt,Instr.sureAddr,loadVar,Sem.run_bind,Sem.run_pure,Result.andThen,hA,if_true,Sem.run_ite,hs,run_loadCells_list w a cs hc]
theorem bW {t E:TypeId} {x:Operand} {V:Value} {n:Nat} (hx:ρ x=V) (ht:P.underlying t=some (.slice E)) (hv:dc V n) :
  (execOp ρ ⟨d,.call {callee:=.builtin .len,args:=#[x],argTypes:=#[t]},ty,ps,af,g⟩).run P w = .ok (.value (.int .i64 n)) w:=by
 obtain ⟨a,cap,rfl,h2,h3⟩:=hv
 have hu:∀ w:World,(underlying t).run P w = .ok (.slice E) w:=fun w=>by simp [underlying,ht]
 simp [execOp,resolve,invoke,builtin,Builtin.len_,hu,hx,goInt,Result.andThen]
theorem js {f:FuncId} {args:List Operand} {ats:Array TypeId} {vs:List Value} (hc:∀ (args:Array Value) (w:World),(callFunc f args).run P w = .ok (.enter f args) w) (hf:ρ (.func f) = .func (.func f) #[] #[]) (ha:args.map ρ=vs) :
  (execOp ρ ⟨d,.call {callee:=.value (.func f),args:=args.toArray,argTypes:=ats},ty,ps,af,g⟩).run P w = .ok (.enter f vs.toArray) w:=by
 simp [execOp,resolve,Deferred.ofValue,invoke,hf,hc,ha]
end pure
section st
variable {P:Program} {w0 w w':World} {I I':HL} {L L':List SP} {R:SP} {sz k b o:Nat} {v x V:Value} {css nss:List (List Value)} {cs cs' vs:List Value} {t:TypeId}
def fP:List Value→Nat→List Value→List Value
 | cs,_,[]=>cs
 | cs,o,v::vs=>fP (cs.set o v) (o+1) vs
theorem St.lA (hst:St w0 w I L R) (k:Nat) (hL:L[k]?=some (cells b cs)) (ho:cs[o]?=some x):w.cell? ⟨b,o,none⟩=some x:=(hst.oD k hL rfl).cell ho
theorem St.kT (hst:St w0 w I L R) (k:Nat) (hL:L[k]?=some (cells b cs)) (o:Nat) (hv:(cs.drop o).take vs.length=vs):∀ j y,vs[j]?=some y→w.cell? ((⟨b,o,none⟩:Addr).add j)=some y:=by
 intro j y hj
 rw [eT]
 refine hst.lA k hL ?_
 rw [← hv,List.getElem?_take] at hj
 split at hj
 ·simpa using hj
 ·cases hj
theorem ie.cells (hst:St w0 w I' L R) (h:ie R I sz V css) (hI:I.le I') {i:Nat} (hi:css[i]?=some cs) (o:Nat) (hv:(cs.drop o).take vs.length=vs):∀ j y,vs[j]?=some y→w.cell? ((dN V (i*sz+o)).add j)=some y:=by
 intro j y hj
 rw [qL,Nat.add_assoc]
 refine h.cell hI hst hi ?_
 rw [← hv,List.getElem?_take] at hj
 split at hj
 ·simpa using hj
 ·cases hj
theorem vJ {α:Type} {l:List α} {i:Nat} {x:α} (h:l[i]?=some x):l.set i x=l:=by
 apply List.ext_getElem?
 intro j
 rw [List.getElem?_set]
 split
 ·rename_i e; subst e; split
  ·exact h.symm
  ·rename_i h2; rw [List.getElem?_eq_none (by omega)] at h; cases h
 ·rfl
theorem vu {a:Addr} (hv:x.oneCell'=true) (hc:∃ y,w.cell? a=some y) (hf:w.frozen? a=false) (m:Mode):(store a x m).run P w = .ok () (w.setCell a x):=by
 obtain ⟨y,hy⟩:=hc
 rw [run_store P w a x m hv,hy]
 simp [hf]
theorem St.uh (vs:List Value):∀ {w:World} {cs:List Value} (o i:Nat),St w0 w I (cells b cs::L) R→o+i+vs.length≤cs.length→(∀ v∈vs,v.oneCell'=true) →
  ∃ w',(storeCells ⟨b,o,none⟩ vs i).run P w = .ok () w'∧St w0 w' I (cells b (fP cs (o+i) vs)::L) R:=by
 induction vs with
 | nil=>intro w cs o i h _ _; exact ⟨w,rfl,h⟩
 | cons v vs ih =>
  intro w cs o i h hl hv
  simp at hl
  have h1:=h.set (o+i) v
  obtain ⟨w',hr,h2⟩:=ih o (i+1) h1 (by simp; omega) (fun v h=>hv v (by simp [h]))
  refine ⟨w',?_,h2⟩
  simp only [storeCells,Sem.run_bind,eT]
  rw [vu (hv v (by simp)) ⟨_,h.cell (List.getElem?_eq_getElem (by omega))⟩ (h.yD (by omega))]
  exact hr
theorem St.vS (hst:St w0 w I (cells b cs::L) R) (o:Nat) (x:Value) (hs:∀ w,(sizeOf t).run P w = .ok x.cells.size w)
  (hl : o+x.cells.toList.length≤cs.length) (hv:∀ v∈x.cells.toList,v.oneCell'=true) (hcs:fP cs o x.cells.toList=cs') :
  ∃ w',(Instr.storeAt t (.pointer (some ⟨b,o,none⟩)) x).run P w = .ok () w'∧St w0 w' I (Go.V.cells b cs'::L) R:=by
 obtain ⟨w',hr,h⟩:=hst.uh (P:=P) x.cells.toList o 0 (by simpa using hl) hv
 refine ⟨w',?_,by rw [← hcs]; simpa using h⟩
 simp only [Instr.storeAt,Instr.sureAddr,storeVar,Sem.run_bind,Sem.run_pure,Result.andThen,hs,ne_eq,not_true,if_false,hr]
theorem St.AQ (vs:List Value):∀ {w:World} {css:List (List Value)} {cs:List Value} (i o j:Nat),St w0 w I (row sz V css::L) R→css[i]?=some cs→o+j+vs.length≤sz→(∀ v∈vs,v.oneCell'=true) →
  ∃ w',(storeCells (dN V (i*sz+o)) vs j).run P w = .ok () w'∧St w0 w' I (row sz V (css.set i (fP cs (o+j) vs))::L) R:=by
 induction vs with
 | nil=>intro w css cs i o j h hi _ _; exact ⟨w,rfl,by rw [fP,vJ hi]; exact h⟩
 | cons v vs ih =>
  intro w css cs i o j h hi hl hv
  simp at hl
  obtain ⟨hf,hc,h1⟩:=h.DL (o:=o+j) hi (by omega) v
  obtain ⟨w',hr,h2⟩:=ih (css:=css.set i (cs.set (o+j) v)) (cs:=cs.set (o+j) v) i o (j+1) h1 (by
   have := (List.getElem?_eq_some_iff.1 hi).1
   simp [List.getElem?_set_self this]) (by omega) (fun v h=>hv v (by simp [h]))
  refine ⟨w',?_,by simpa [fP,Nat.add_assoc] using h2⟩
  simp only [storeCells,Sem.run_bind,qL]
  rw [show i*sz+o+j=i*sz+(o+j) from by omega,vu (hv v (by simp)) hc hf]
  exact hr
theorem St.yS (hst:St w0 w I (row sz V css::L) R) {i:Nat} (hi:css[i]?=some cs) (o:Nat) (x:Value) (hs:∀ w,(sizeOf t).run P w = .ok x.cells.size w)
  (hl : o+x.cells.toList.length≤sz) (hv:∀ v∈x.cells.toList,v.oneCell'=true) (hcs:fP cs o x.cells.toList=cs') :
  ∃ w',(Instr.storeAt t (.pointer (some (dN V (i*sz+o)))) x).run P w = .ok () w'∧St w0 w' I (row sz V (css.set i cs')::L) R:=by
 obtain ⟨w',hr,h⟩:=hst.AQ (P:=P) x.cells.toList i o 0 hi (by simpa using hl) hv
 refine ⟨w',?_,by rw [← hcs]; simpa using h⟩
 simp only [Instr.storeAt,Instr.sureAddr,storeVar,Sem.run_bind,Sem.run_pure,Result.andThen,hs,ne_eq,not_true,if_false,hr]
theorem St.ab {A0 A1:SP} (h:St w0 w I (A0::A1::L) R):St w0 w I (A1::A0::L) R:=h.oD 1 rfl rfl
theorem St.ay {A0 A1 A2:SP} (h:St w0 w I (A0::A1::A2::L) R):St w0 w I (A2::A0::A1::L) R:=h.oD 2 rfl rfl
theorem St.ap {A0 A1 A2 A3:SP} (h:St w0 w I (A0::A1::A2::A3::L) R):St w0 w I (A3::A0::A1::A2::L) R:=h.oD 3 rfl rfl
theorem St.aY {A0 A1 A2 A3 A4:SP} (h:St w0 w I (A0::A1::A2::A3::A4::L) R):St w0 w I (A4::A0::A1::A2::A3::L) R:=h.oD 4 rfl rfl
theorem St.aW {A0 A1 A2 A3 A4 A5:SP} (h:St w0 w I (A0::A1::A2::A3::A4::A5::L) R):St w0 w I (A5::A0::A1::A2::A3::A4::L) R:=h.oD 5 rfl rfl
theorem St.cV {A0 A1 A2 A3 A4 A5 A6:SP} (h:St w0 w I (A0::A1::A2::A3::A4::A5::A6::L) R):St w0 w I (A6::A0::A1::A2::A3::A4::A5::L) R:=h.oD 6 rfl rfl
theorem St.aG {A0 A1 A2 A3 A4 A5 A6 A7:SP} (h:St w0 w I (A0::A1::A2::A3::A4::A5::A6::A7::L) R):St w0 w I (A7::A0::A1::A2::A3::A4::A5::A6::L) R:=h.oD 7 rfl rfl
theorem St.bH {A0 A1 A2 A3 A4 A5 A6 A7 A8:SP} (h:St w0 w I (A0::A1::A2::A3::A4::A5::A6::A7::A8::L) R):St w0 w I (A8::A0::A1::A2::A3::A4::A5::A6::A7::L) R:=h.oD 8 rfl rfl
theorem St.bO {A0 A1 A2 A3 A4 A5 A6 A7 A8 A9:SP} (h:St w0 w I (A0::A1::A2::A3::A4::A5::A6::A7::A8::A9::L) R):St w0 w I (A9::A0::A1::A2::A3::A4::A5::A6::A7::A8::L) R:=h.oD 9 rfl rfl
theorem St.bq {A0 A1 A2 A3 A4 A5 A6 A7 A8 A9 A10:SP} (h:St w0 w I (A0::A1::A2::A3::A4::A5::A6::A7::A8::A9::A10::L) R):St w0 w I (A10::A0::A1::A2::A3::A4::A5::A6::A7::A8::A9::L) R:=h.oD 10 rfl rfl
theorem St.nV {A0 A1 A2 A3 A4 A5 A6 A7 A8 A9 A10 A11:SP} (h:St w0 w I (A0::A1::A2::A3::A4::A5::A6::A7::A8::A9::A10::A11::L) R):St w0 w I (A11::A0::A1::A2::A3::A4::A5::A6::A7::A8::A9::A10::L) R:=h.oD 11 rfl rfl
theorem St.nz {A0 A1 A2 A3 A4 A5 A6 A7 A8 A9 A10 A11 A12:SP} (h:St w0 w I (A0::A1::A2::A3::A4::A5::A6::A7::A8::A9::A10::A11::A12::L) R):St w0 w I (A12::A0::A1::A2::A3::A4::A5::A6::A7::A8::A9::A10::A11::L) R:=h.oD 12 rfl rfl
theorem St.py {A0 A1 A2 A3 A4 A5 A6 A7 A8 A9 A10 A11 A12 A13:SP} (h:St w0 w I (A0::A1::A2::A3::A4::A5::A6::A7::A8::A9::A10::A11::A12::A13::L) R):St w0 w I (A13::A0::A1::A2::A3::A4::A5::A6::A7::A8::A9::A10::A11::A12::L) R:=h.oD 13 rfl rfl
theorem St.to1 {A0:SP} (h:St w0 w I (A0::L) R):St w0 w I [A0] (big L R):=h.split (L1:=[A0])
theorem St.to2 {A0 A1:SP} (h:St w0 w I (A0::A1::L) R):St w0 w I [A0,A1] (big L R):=h.split (L1:=[A0,A1])
theorem St.to0 (h:St w0 w I L R):St w0 w I [] (big L R):=h.split (L1:=[])
theorem St.of1 {A0:SP} (h:St w0 w I [A0] (big L R)):St w0 w I (A0::L) R:=h.qc (L1:=[A0])
theorem St.of2 {A0 A1:SP} (h:St w0 w I [A0,A1] (big L R)):St w0 w I (A0::A1::L) R:=h.qc (L1:=[A0,A1])
theorem St.of3 {A0 A1 A2:SP} (h:St w0 w I [A0,A1,A2] (big L R)):St w0 w I (A0::A1::A2::L) R:=h.qc (L1:=[A0,A1,A2])
theorem St.of5 {A0 A1 A2 A3 A4:SP} (h:St w0 w I [A0,A1,A2,A3,A4] (big L R)):St w0 w I (A0::A1::A2::A3::A4::L) R:=h.qc (L1:=[A0,A1,A2,A3,A4])
theorem St.of9 {A0 A1 A2 A3 A4 A5 A6 A7 A8:SP} (h:St w0 w I [A0,A1,A2,A3,A4,A5,A6,A7,A8] (big L R)):St w0 w I (A0::A1::A2::A3::A4::A5::A6::A7::A8::L) R:=h.qc (L1:=[A0,A1,A2,A3,A4,A5,A6,A7,A8])
theorem St.of0 (h:St w0 w I [] (big L R)):St w0 w I L R:=h.qc (L1:=[])
end st
end Go.V
end
section
set_option linter.unusedVariables false
set_option linter.unusedSimpArgs false
namespace Go.V
open Go
abbrev Rho:=Nat→Value→List (List Value)→Prop
structure Ty (α:Type) where
 sz : Nat
 rep : Rho→α→List Value→Prop
 len : ∀ {ρ x cs},rep ρ x cs→cs.length=sz
 mono : ∀ {ρ ρ' x cs},(∀ n v css,ρ n v css→ρ' n v css)→rep ρ x cs→rep ρ' x cs
 one : ∀ {ρ x cs},rep ρ x cs→∀ v∈cs,v.oneCell'=true
def Ty.Flat {α:Type} (E:Ty α):Prop:=∀ {ρ ρ' x cs},E.rep ρ x cs→E.rep ρ' x cs
def bz {α:Type} (r:α→List Value→Prop) (xs:List α) (css:List (List Value)):Prop :=
 xs.length = css.length∧∀ (i:Nat) x cs,xs[i]?=some x→css[i]?=some cs→r x cs
section
variable {α:Type} {r r':α→List Value→Prop} {xs ys:List α} {css dss:List (List Value)} {x:α} {cs:List Value} {i:Nat}
theorem bz.nil:bz r [] []:=⟨rfl,by simp⟩
theorem bz.get (h:bz r xs css) (hi:xs[i]?=some x):∃ cs,css[i]?=some cs∧r x cs:=by
 have hl:=(List.getElem?_eq_some_iff.1 hi).1
 rw [h.1] at hl
 exact ⟨_,List.getElem?_eq_getElem hl,h.2 i _ _ hi (List.getElem?_eq_getElem hl)⟩
theorem bz.app (h:bz r xs css) (k:bz r ys dss):bz r (xs++ys) (css++dss):=by
 refine ⟨by simp [h.1,k.1],fun i x cs hx hc=>?_⟩
 by_cases hi:i<xs.length
 ·rw [List.getElem?_append_left hi] at hx
  rw [List.getElem?_append_left (by rw [← h.1]; exact hi)] at hc
  exact h.2 i x cs hx hc
 ·rw [List.getElem?_append_right (by omega)] at hx
  rw [List.getElem?_append_right (by rw [← h.1]; omega),← h.1] at hc
  exact k.2 _ x cs hx hc
theorem bz.cons (h:r x cs) (k:bz r ys dss):bz r (x::ys) (cs::dss):=by
 refine ⟨by simp [k.1],fun i y c hx hc=>?_⟩
 cases i with
 | zero=>simp at hx hc; subst hx; subst hc; exact h
 | succ i=>simp at hx hc; exact k.2 i y c hx hc
theorem bz.one (h:r x cs):bz r [x] [cs]:=bz.cons h bz.nil
theorem bz.set (h:bz r xs css) (i:Nat) (hr:r x cs):bz r (xs.set i x) (css.set i cs):=by
 refine ⟨by simp [h.1],fun j y c hx hc=>?_⟩
 by_cases e:i=j
 ·subst e
  rw [List.getElem?_set] at hx hc
  simp only [if_true] at hx hc
  split at hx <;> split at hc <;> simp_all
 ·rw [List.getElem?_set_ne e] at hx hc
  exact h.2 j y c hx hc
theorem bz.imp (h:bz r xs css) (f:∀ x cs,r x cs→r' x cs):bz r' xs css:=⟨h.1,fun i x cs hx hc=>f _ _ (h.2 i x cs hx hc)⟩
theorem bz.drop (h:bz r xs css) (n:Nat):bz r (xs.drop n) (css.drop n) :=
 ⟨by simp [h.1],fun i x cs hx hc=>h.2 (n+i) x cs (by simpa using hx) (by simpa using hc)⟩
theorem bz.take (h:bz r xs css) (n:Nat):bz r (xs.take n) (css.take n):=by
 refine ⟨by simp [h.1],fun i x cs hx hc=>?_⟩
 rw [List.getElem?_take] at hx hc
 split at hx
 ·rename_i hlt; rw [if_pos hlt] at hc; exact h.2 i x cs hx hc
 ·cases hx
theorem bz.lens {E:Ty α} {ρ:Rho} (h:bz (E.rep ρ) xs css):∀ cs∈css,cs.length=E.sz:=by
 intro cs hc
 obtain ⟨i,hi⟩:=List.getElem?_of_mem hc
 have hl:=(List.getElem?_eq_some_iff.1 hi).1
 rw [← h.1] at hl
 exact E.len (h.2 i _ _ (List.getElem?_eq_getElem hl) hi)
end
def Sl {α:Type} (E:Ty α) (ρ:Rho) (v:Value) (xs:List α):Prop:=∃ css,ρ E.sz v css∧bz (E.rep ρ) xs css
theorem Sl.mono {α:Type} {E:Ty α} {ρ ρ':Rho} {v:Value} {xs:List α} (f:∀ n v css,ρ n v css→ρ' n v css) (h:Sl E ρ v xs):Sl E ρ' v xs :=
 let ⟨css,h1,h2⟩:=h; ⟨css,f _ _ _ h1,h2.imp fun _ _=>E.mono f⟩
abbrev Ro {α:Type} (E:Ty α) (I:HL) (v:Value) (xs:List α):Prop:=Sl E (dU I) v xs
abbrev Rd {α:Type} (E:Ty α) (R:SP) (I:HL) (v:Value) (xs:List α):Prop:=Sl E (ie R I) v xs
theorem ro_le {I I':HL} (h:I.le I'):∀ n v css,dU I n v css→dU I' n v css:=fun _ _ _ k=>k.mono h
theorem nj {R:SP} {I I':HL} (h:I.le I'):∀ n v css,ie R I n v css→ie R I' n v css:=fun _ _ _ k=>k.mono h
theorem cz {R:SP} {I:HL}:∀ n v css,dU I n v css→ie R I n v css:=fun _ _ _ k=>k.rd R
theorem cy {R:SP} {I:HL} (L:List SP):∀ n v css,ie R I n v css→ie (big L R) I n v css:=fun _ _ _ k=>k.Ew L
def aZ {α:Type} (E:Ty α) (v:Value) (xs:List α):SP:=exS fun css=>tG (fun I=>bz (E.rep (dU I)) xs css) (fun _ _ hI h=>h.imp fun _ _=>E.mono (ro_le hI)) (row E.sz v css)
section
variable {α:Type} {E:Ty α} {ρ:Rho} {w0 w w':World} {I I':HL} {L L':List SP} {R:SP} {v V:Value} {xs ys:List α} {x y:α} {cs cs' vs:List Value} {css nss:List (List Value)} {i k:Nat}
theorem au {v:Value} (h:Rd E R I v xs):dc v xs.length:=by
 obtain ⟨css,h1,h2⟩:=h
 rw [h2.1]; exact h1.BP
theorem ag {v:Value} (h:Ro E I v xs):dc v xs.length:=au (R:=emp) (h.mono cz)
theorem St.sF (hst:St w0 w I L R) (k:Nat) (hL:L[k]?=some (aZ E v xs)) (hE:L.eraseIdx k=L'):∃ css,bz (E.rep (dU I)) xs css∧St w0 w I (row E.sz v css::L') R:=by
 obtain ⟨css,h⟩:=(hst.oD k hL hE).ex
 obtain ⟨h1,h2⟩:=h.and
 exact ⟨css,h1,h2⟩
theorem St.cx (hst:St w0 w I (aZ E v xs::L) R):∃ css,bz (E.rep (dU I)) xs css∧St w0 w I (row E.sz v css::L) R:=hst.sF 0 rfl rfl
theorem St.ba (hst:St w0 w I (row E.sz v css::L) R) (h:bz (E.rep (dU I)) xs css):St w0 w I (aZ E v xs::L) R :=
 hst.impl fun _ hk=>⟨css,h,hk⟩
theorem St.jj (hst:St w0 w I L R) (k:Nat) (hL:L[k]?=some (aZ E v xs)):dc v xs.length:=by
 obtain ⟨css,h1,h2⟩:=hst.sF k hL rfl
 rw [h1.1]; exact h2.cC.2
theorem St.pR (hst:St w0 w I L R) (k:Nat) (hL:L[k]?=some (aZ E v xs)) (hi:xs[i]?=some x) :
  ∃ cs,E.rep (dU I) x cs∧∀ o y,cs[o]?=some y→w.cell? (dN v (i*E.sz+o))=some y:=by
 obtain ⟨css,h1,h2⟩:=hst.sF k hL rfl
 obtain ⟨cs,hc,hr⟩:=h1.get hi
 exact ⟨cs,hr,fun o y ho=>h2.mF hc ho⟩
theorem Rd.get (h:Rd E R I v xs) (hI:I.le I') (hst:St w0 w I' L R) (hi:xs[i]?=some x) :
  ∃ cs,E.rep (ie R I') x cs∧∀ o y,cs[o]?=some y→w.cell? (dN v (i*E.sz+o))=some y:=by
 obtain ⟨css,h1,h2⟩:=h
 obtain ⟨cs,hc,hr⟩:=h2.get hi
 exact ⟨cs,E.mono (nj hI) hr,fun o y ho=>h1.cell hI hst hc ho⟩
theorem Ro.get (h:Ro E I v xs) (hst:St w0 w I L R) (hi:xs[i]?=some x) :
  ∃ cs,E.rep (dU I) x cs∧∀ o y,cs[o]?=some y→w.cell? (dN v (i*E.sz+o))=some y:=by
 obtain ⟨css,h1,h2⟩:=h
 obtain ⟨cs,hc,hr⟩:=h2.get hi
 exact ⟨cs,hr,fun o y ho=>(h1.rd R).cell (HL.le.refl _) hst hc ho⟩
theorem Cg {a:Nat→Option Value} {o:Nat} (hv:(cs.drop o).take vs.length=vs) (hc:∀ o y,cs[o]?=some y→a o=some y):∀ j y,vs[j]?=some y→a (o+j)=some y:=by
 intro j y hj
 refine hc _ _ ?_
 rw [← hv,List.getElem?_take] at hj
 split at hj
 ·simpa using hj
 ·cases hj
theorem dO {o:Nat} (hc:∀ o y,cs[o]?=some y→w.cell? (dN V (k+o))=some y) (hv:(cs.drop o).take vs.length=vs):∀ j y,vs[j]?=some y→w.cell? ((dN V (k+o)).add j)=some y:=by
 intro j y hj
 rw [qL,Nat.add_assoc]
 exact Cg hv hc j y hj
theorem St.nW {P:Program} {t:TypeId} (hst:St w0 w I (aZ E v xs::L) R) (hi:xs[i]?=some x) (o:Nat) (u:Value) (hs:∀ w,(sizeOf t).run P w = .ok u.cells.size w)
  (hl : o+u.cells.toList.length≤E.sz) (hv:∀ v∈u.cells.toList,v.oneCell'=true) (hrep:∀ cs,E.rep (dU I) x cs→E.rep (dU I) y (fP cs o u.cells.toList)) :
  ∃ w',(Instr.storeAt t (.pointer (some (dN v (i*E.sz+o)))) u).run P w = .ok () w'∧St w0 w' I (aZ E v (xs.set i y)::L) R:=by
 obtain ⟨css,h1,h2⟩:=hst.cx
 obtain ⟨cs,hc,hr⟩:=h1.get hi
 obtain ⟨w',hr',h3⟩:=h2.yS (P:=P) (t:=t) hc o u hs hl hv rfl
 exact ⟨w',hr',h3.ba (h1.set i (hrep cs hr))⟩
theorem St.cK (hst:St w0 w I (aZ E v xs::L) R):∃ I',I.le I'∧Ro E I' v xs∧St w0 w I' L R:=by
 obtain ⟨css,h1,h2⟩:=hst.cx
 obtain ⟨I',hle,h3,h4⟩:=h2.Ek
 exact ⟨I',hle,⟨css,h3,h1.imp fun _ _=>E.mono (ro_le hle)⟩,h4⟩
theorem St.aX (hst:St w0 w I L R) (E:Ty α):St w0 w I (aZ E (.slice none 0 0) []::L) R :=
 (hst.zY (sz:=E.sz)).ba bz.nil
theorem Rd.vb (n:Nat) (hst:St w0 w I L R) (hL:L[n]?=some (row E.sz v css)) (h:bz (E.rep (dU I)) xs css):Rd E (big L R) I v xs :=
 ⟨css, ie.vb n hst hL,h.imp fun _ _=>E.mono cz⟩
def Src (E:Ty α) (w:World) (I:HL) (x:Value) (ys:List α):Prop :=
 dc x ys.length∧∃ nss,bz (E.rep (dU I)) ys nss∧∀ k y,nss.flatten[k]?=some y→w.cell? (dN x k)=some y
theorem iW {css:List (List Value)} {sz:Nat} (hl:∀ cs∈css,cs.length=sz):∀ {k:Nat} {y:Value},css.flatten[k]?=some y→∃ i o cs,css[i]?=some cs∧cs[o]?=some y∧k=i*sz+o:=by
 induction css with
 | nil=>intro k y h; simp at h
 | cons c css ih =>
  intro k y h
  have hc:c.length=sz:=hl c (by simp)
  rw [List.flatten_cons] at h
  by_cases hk:k<c.length
  ·rw [List.getElem?_append_left hk] at h
   exact ⟨0,k,c,rfl,h,by simp⟩
  ·rw [List.getElem?_append_right (by omega)] at h
   obtain ⟨i,o,cs,h1,h2,h3⟩:=ih (fun cs h=>hl cs (by simp [h])) h
   exact ⟨i+1,o,cs,by simpa using h1,h2,by rw [Nat.succ_mul]; omega⟩
theorem Src.EB (hst:St w0 w I L R) (k:Nat) (hL:L[k]?=some (aZ E v xs)):Src E w I v xs:=by
 obtain ⟨css,h1,h2⟩:=hst.sF k hL rfl
 refine ⟨hst.jj k hL,css,h1,fun k y hk=>?_⟩
 obtain ⟨i,o,cs,g1,g2,rfl⟩:=iW h1.lens hk
 exact h2.mF g1 g2
theorem Src.xk (hst:St w0 w I L R) (h:Ro E I v xs):Src E w I v xs:=by
 refine ⟨ag h,?_⟩
 obtain ⟨css,h1,h2⟩:=h
 refine ⟨css,h2,fun k y hk=>?_⟩
 obtain ⟨i,o,cs,g1,g2,rfl⟩:=iW h2.lens hk
 exact (h1.rd R).cell (HL.le.refl _) hst g1 g2
theorem Src.rm (hst:St w0 w I L R) (h:Rd E R I v xs) (hf:E.Flat):Src E w I v xs:=by
 refine ⟨au h,?_⟩
 obtain ⟨css,h1,h2⟩:=h
 refine ⟨css,h2.imp fun _ _=>hf,fun k y hk=>?_⟩
 obtain ⟨i,o,cs,g1,g2,rfl⟩:=iW h2.lens hk
 exact h1.cell (HL.le.refl _) hst g1 g2
theorem Src.nil:Src E w I (.slice none 0 0) ([]:List α):=⟨dc.nil,[],bz.nil,by simp⟩
end
end Go.V
end
section
set_option linter.unusedVariables false
set_option linter.unusedSimpArgs false
namespace Go.V
open Go
theorem rQ (vs:List Value):∀ (A B:List Value),vs.length≤B.length→fP (A++B) A.length vs=A++(vs++B.drop vs.length):=by
 induction vs with
 | nil=>intro A B _; simp [fP]
 | cons v vs ih =>
  intro A B h
  cases B with
  | nil=>simp at h
  | cons y B =>
   simp at h
   simp only [fP]
   rw [List.set_append_right _ _ (Nat.le_refl _),Nat.sub_self,List.set_cons_zero]
   have := ih (A++[v]) B h
   simp only [List.length_append,List.length_cons,List.length_nil,List.append_assoc,List.singleton_append,Nat.zero_add] at this
   rw [this]; simp
theorem wR (n:Nat):∀ (r c:Nat),c≤2*n+200→Builtin.growBy n r c≤2*n+200
 | 0,c,h=>h
 | r+1,c,h=>by
  unfold Builtin.growBy
  split
  ·exact h
  ·exact wR n r _ (by omega)
theorem rl (n c:Nat) (h:c<n):Builtin.nextslicecap n c≤2*n+200:=by
 unfold Builtin.nextslicecap
 split
 ·omega
 ·split
  ·omega
  ·exact wR n 4 c (by omega)
section
variable {P:Program} {ρ:Operand→Value} {α:Type} {E:Ty α} {w0 w w':World} {I I':HL} {L L':List SP} {R:SP} {v x V:Value} {xs ys:List α} {i k:Nat} {t t' e:TypeId} {inf:TypeInfo} {z:Value} {b o:Nat} {cs:List Value}
theorem bz.tc {r:Rho} {xs:List α} {css:List (List Value)} (h:bz (E.rep r) xs css):∀ v∈css.flatten,v.oneCell'=true:=by
 intro v hv
 obtain ⟨c,hc,hv⟩:=List.mem_flatten.1 hv
 obtain ⟨i,hi⟩:=List.getElem?_of_mem hc
 have hl:=(List.getElem?_eq_some_iff.1 hi).1
 rw [← h.1] at hl
 exact E.one (h.2 i _ _ (List.getElem?_eq_getElem hl) hi) v hv
theorem nw {n sz:Nat} {css:List (List Value)} (hv:dc x n) (hl:∀ cs∈css,cs.length=sz) (hn:n=css.length) (hc:∀ k y,css.flatten[k]?=some y→w.cell? (dN x k)=some y) :
  (Builtin.firstCells sz n x).run P w = .ok css.flatten.toArray w:=by
 obtain ⟨a,cap,rfl,h1,h2⟩:=hv
 cases a with
 | none =>
  have : n=0:=by
   rcases Nat.eq_zero_or_pos n with h | h
   ·exact h
   ·obtain ⟨b,off,e⟩:=h2 (by omega); cases e
  have : css=[]:=List.eq_nil_of_length_eq_zero (by omega)
  subst this; rfl
 | some a =>
  have hfl:=jG hl
  simp only [Builtin.firstCells]
  rw [hn,← hfl]
  by_cases h0:n=0
  ·have : css=[]:=List.eq_nil_of_length_eq_zero (by omega)
   subst this; rfl
  ·obtain ⟨b,off,e⟩:=h2 h0
   cases e
   refine run_loadCells_list w _ _ fun j y hj=>?_
   rw [eT]
   exact hc j y hj
structure oO (P:Program) (E:Ty α) (t e:TypeId) (inf:TypeInfo) (z:Value):Prop where
 ht : P.underlying t=some (.slice e)
 hi : P.info? e=some inf
 hz : inf.zero=some z
 hzs : z.cells.size=E.sz
 hsz : inf.size=E.sz
 hb : 0<inf.bytes∧inf.bytes≤1000
theorem ti (z:Array Value) (n:Nat):(Builtin.zeroCells z n).size=n*z.size:=by simp [Builtin.zeroCells]
theorem bE (he:oO P E t e inf z) (ht':P.underlying t'=some (.slice e)) (hst:St w0 w I (aZ E v xs::L) R)
  (hsrc : Src E w I x ys) (hroom:(xs.length+ys.length)*inf.bytes≤70368744177664) (ty:TypeId) :
  ∃ v' w',(Builtin.append_ #[t,t'] ty #[v,x]).run P w = .ok v' w'∧St w0 w' I (aZ E v' (xs++ys)::L) R:=by
 obtain ⟨css,hr,h⟩:=hst.cx
 obtain ⟨hsx,nss,hrn,hcn⟩:=hsrc
 have hnl:=hrn.lens
 have hlen:ys.length=nss.length:=hrn.1
 have hxlen:xs.length=css.length:=hr.1
 obtain ⟨hcl,hsv⟩:=h.cC
 have hsizeOf:∀ w:World,(sizeOf e).run P w = .ok E.sz w:=fun w=>by simp [sizeOf,typeInfo,he.hi,he.hsz]
 have hinfo:∀ w:World,(typeInfo e).run P w = .ok inf w:=fun w=>by simp [typeInfo,he.hi]
 have hzero:∀ w:World,(zeroValue e).run P w = .ok z w:=fun w=>by simp [zeroValue,typeInfo,he.hi,he.hz]
 have hu:∀ w:World,(underlying t).run P w = .ok (.slice e) w:=fun w=>by simp [underlying,he.ht]
 have hu':∀ w:World,(underlying t').run P w = .ok (.slice e) w:=fun w=>by simp [underlying,ht']
 have hfirst:=nw (P:=P) (w:=w) (sz:=E.sz) hsx hnl hlen hcn
 have hlenx:(Builtin.lenOf x).run P w = .ok ys.length w:=by
  obtain ⟨a,cap,rfl,_,_⟩:=hsx; rfl
 have hones:=hrn.tc
 have hold:(Builtin.firstCells E.sz css.length v).run P w = .ok css.flatten.toArray w:=by
  refine nw hsv hcl rfl fun k y hk=>?_
  obtain ⟨i,o,cs,g1,g2,rfl⟩:=iW hcl hk
  exact h.mF g1 g2
 obtain ⟨a,cap,rfl,hcap,hne⟩:=hsv
 have happ:bz (E.rep (dU I)) (xs++ys) (css++nss):=hr.app hrn
 by_cases hfit:css.length+ys.length≤cap
 · -- in place
  cases a with
  | none =>
   have h0:css=[]:=by
    rcases Nat.eq_zero_or_pos css.length with h | h
    ·exact List.eq_nil_of_length_eq_zero h
    ·obtain ⟨b,off,e⟩:=hne (by omega); cases e
   subst h0
   have hcap0:cap=0:=by
    obtain ⟨e,i,k,⟨h1,h2,hd,hee,pa,pb⟩,hs,hj⟩:=h
    rcases pa with ⟨a',h1,_⟩ | ⟨b,off,cap,pre,junk,h1,_⟩
    ·cases h1; rfl
    ·cases h1
   have hy0:ys.length=0:=by simp at hfit; omega
   have hn0:nss=[]:=List.eq_nil_of_length_eq_zero (by omega)
   subst hn0
   subst hcap0
   refine ⟨.slice none 0 0,w,?_,?_⟩
   ·simp only [Builtin.append_,List.getElem?_toArray,List.getElem?_cons_zero,List.getElem?_cons_succ,Sem.run_bind,Sem.run_pure,Result.andThen,hu,hu',hsizeOf,Bool.false_eq_true,if_false,hlenx,hy0,Nat.add_zero,List.length_nil,Nat.le_refl,if_true,Bool.not_false,Sem.run_ite]
    rw [hy0] at hfirst
    simp only [hfirst,Result.andThen]
   ·exact h.ba (by simpa using happ)
  | some a =>
   have h':=h
   obtain ⟨e0,i0,kk,⟨h1,h2,hd,hee,pa,pb⟩,hs,hj⟩:=h
   rcases pa with ⟨a',hv,h0⟩ | ⟨b,off,cap',pre,junk,hv,g1,g2,g3,g4,g5⟩
   ·subst h0
    cases hv
    have hy0:ys.length=0:=by simpa using hfit
    have hn0:nss=[]:=List.eq_nil_of_length_eq_zero (by omega)
    subst hn0
    refine ⟨.slice (some a) 0 0,w,?_,?_⟩
    ·simp only [Builtin.append_,List.getElem?_toArray,List.getElem?_cons_zero,List.getElem?_cons_succ,Sem.run_bind,Sem.run_pure,Result.andThen,hu,hu',hsizeOf,Bool.false_eq_true,if_false,hlenx,hy0,Nat.add_zero,List.length_nil,Nat.le_refl,if_true,Bool.not_false,Sem.run_ite]
     rw [hy0] at hfirst
     simp [hfirst,Result.andThen,storeCells]
    ·exact h'.ba (by simpa using happ)
   ·cases hv
    have hcells:St w0 w I (cells b (pre++(css.flatten++junk))::L) R:=⟨e0,i0,kk,⟨h1,h2,hd,hee,g5,pb⟩,hs,hj⟩
    have hfl:=jG hcl
    have hnfl:=jG hnl
    have hjl:nss.flatten.length≤junk.length:=by
     rw [g4,hnfl]
     exact Nat.mul_le_mul_right _ (by omega)
    obtain ⟨w',hrun,hst'⟩:=hcells.uh (P:=P) nss.flatten (off+css.length*E.sz) 0 (by rw [List.length_append,List.length_append,hfl,g3]; omega) hones
    have hset:fP (pre++(css.flatten++junk)) (off+css.length*E.sz+0) nss.flatten=pre++((css++nss).flatten++junk.drop nss.flatten.length):=by
     have := rQ nss.flatten (pre++css.flatten) junk hjl
     rw [List.length_append,hfl,g3] at this
     rw [← List.append_assoc,Nat.add_zero,this]
     simp [List.flatten_append]
    rw [hset] at hst'
    refine ⟨.slice (some ⟨b,off,none⟩) (css.length+ys.length) cap,w',?_,?_⟩
    ·simp only [Builtin.append_,List.getElem?_toArray,List.getElem?_cons_zero,List.getElem?_cons_succ,Sem.run_bind,Sem.run_pure,Result.andThen,hu,hu',hsizeOf,Bool.false_eq_true,if_false,hlenx,hfit,if_true,Bool.not_false,Sem.run_ite,hfirst,eT]
     rw [hrun]
    ·have h3:=hst'.rK (sz:=E.sz) (css:=css++nss) (cap:=cap) (by simp; omega) (fun c hc=>by
      rcases List.mem_append.1 hc with h | h
      ·exact hcl c h
      ·exact hnl c h) g3 (by
       rw [List.length_drop,g4,hnfl,List.length_append,← Nat.sub_mul]; congr 1; omega)
     have h4:=h3.ba happ
     rw [List.length_append,← hlen] at h4
     exact h4
 · -- a new row
  have hn:css.length+ys.length=xs.length+ys.length:=by omega
  have hroom':Builtin.nextslicecap (css.length+ys.length) cap*inf.bytes≤2 ^ 48:=by
   have h1:=rl (css.length+ys.length) cap (by omega)
   have h2:Builtin.nextslicecap (css.length+ys.length) cap*inf.bytes≤(2*(css.length+ys.length)+200)*inf.bytes:=Nat.mul_le_mul_right _ h1
   have h3:(2*(css.length+ys.length)+200)*inf.bytes=2*((css.length+ys.length)*inf.bytes)+200*inf.bytes:=by
    rw [Nat.add_mul,Nat.mul_assoc]
   have h4:=he.hb.2
   rw [hn] at *
   omega
  have hneed:(css.length+ys.length)*1≤(css.length+ys.length)*inf.bytes:=Nat.mul_le_mul_left _ he.hb.1
  have hmax:¬ ((css.length+ys.length:Nat):Int)>IntKind.i64.max:=by
   have : (IntKind.i64.max:Int)=9223372036854775807:=by decide
   rw [this,hn] at *
   omega
  have hbytes:inf.bytes≠0:=by have:=he.hb.1; omega
  let q:Question:=.appendCap (css.length+ys.length) cap e
  let newCap:=q.cut (w.tape w.drawn q)
  have hnc:css.length+ys.length≤newCap:=by
   show _≤Question.cut _ _
   simp only [q,Question.cut]
   omega
  let rest:=Builtin.zeroCells z.cells (newCap - (css.length+ys.length))
  have hw1:St w0 {w with drawn:=w.drawn+1} I (row E.sz (.slice a css.length cap) css::L) R:=h.drawn _
  have h5:=(hw1.sub).new ((css++nss).flatten++rest.toList) e
  have h6:=h5.rK (sz:=E.sz) (css:=css++nss) (pre:=[]) (off:=0) (junk:=rest.toList) (cap:=newCap) (by rw [List.length_append]; omega) (fun c hc=>by
      rcases List.mem_append.1 hc with h | h
      ·exact hcl c h
      ·exact hnl c h) rfl (by
      rw [Array.length_toList,ti,he.hzs,List.length_append]; congr 1; omega)
  refine ⟨_,_,?_,h6.ba happ⟩
  have hold':(Builtin.firstCells E.sz css.length (.slice a css.length cap)).run P {w with drawn:=w.drawn+1} = .ok css.flatten.toArray {w with drawn:=w.drawn+1}:=by
   refine nw ⟨a,cap,rfl,hcap,hne⟩ hcl rfl fun k y hk=>?_
   obtain ⟨i,o,cs,g1,g2,rfl⟩:=iW hcl hk
   exact hw1.mF g1 g2
  have hfirst':(Builtin.firstCells E.sz ys.length x).run P {w with drawn:=w.drawn+1} = .ok nss.flatten.toArray {w with drawn:=w.drawn+1} :=
   nw hsx hnl hlen hcn
  have hforced:q.forced=false:=rfl
  simp only [Builtin.append_,List.getElem?_toArray,List.getElem?_cons_zero,List.getElem?_cons_succ,Sem.run_bind,Sem.run_pure,Result.andThen,hu,hu',hsizeOf,hinfo,Bool.false_eq_true,if_false,hlenx,hfit,Bool.not_false,if_true,hmax,false_and,Sem.run_ite,run_choose,
   Nat.not_lt.2 hroom',gt_iff_lt,run_askRoom,hold',hfirst',hzero,newRow,run_newObj,q,Question.forced]
  have harr:css.flatten.toArray++nss.flatten.toArray++rest=((css++nss).flatten++rest.toList).toArray:=by
   apply Array.ext'
   simp
  show Result.ok (Value.slice (some ⟨w.heap.size,0,none⟩) (css.length+ys.length) newCap) {w with heap:=w.heap.push (.cells (css.flatten.toArray++nss.flatten.toArray++rest) e),drawn:=w.drawn+1}=_
  rw [harr,List.length_append,← hlen]
  rfl
end
end Go.V
end
section
set_option linter.unusedVariables false
set_option linter.unusedSimpArgs false
namespace Go.V
open Go
def xC:List Value→Bool
 | []=>true
 | v::vs=>v.oneCell'&&xC vs
theorem nv {l:List Value} (h:xC l=true):∀ v∈l,v.oneCell'=true:=by
 induction l with
 | nil=>simp
 | cons a l ih =>
  simp only [xC,Bool.and_eq_true] at h
  intro v hv
  rcases List.mem_cons.1 hv with rfl | hv
  ·exact h.1
  ·exact ih h.2 v hv
def cg (k:IntKind):Ty Int:=⟨1,fun _ x cs=>cs=[.int k x],fun h=>by subst h; rfl,fun _ h=>h,fun h=>by subst h; exact nv rfl⟩
def bV:Ty Nat:=⟨1,fun _ x cs=>cs=[.float .f64 x],fun h=>by subst h; rfl,fun _ h=>h,fun h=>by subst h; exact nv rfl⟩
def gn:Ty (Nat×Nat):=⟨2,fun _ x cs=>cs=[.float .f64 x.1,.float .f64 x.2],fun h=>by subst h; rfl,fun _ h=>h,fun h=>by subst h; exact nv rfl⟩
def dG {α:Type} (E:Ty α):Ty (List α):=⟨1,fun ρ x cs=>∃ v,cs=[v]∧Sl E ρ v x∧v.oneCell'=true,fun ⟨_,h,_⟩=>by subst h; rfl,fun f ⟨v,h,k,o⟩=>⟨v,h,k.mono f,o⟩,fun ⟨v,h,_,o⟩=>by subst h; exact nv (by simp [xC,o])⟩
theorem mO {k:IntKind}:(cg k).Flat:=fun h=>h
theorem CW:bV.Flat:=fun h=>h
theorem Eh:gn.Flat:=fun h=>h
theorem qn {v:Value} {n:Nat} (h:dc v n):v.oneCell'=true:=by
 obtain ⟨a,cap,rfl,_⟩:=h; rfl
def gd {α:Type} (b:Bool) (k:Option α):Option α:=bif b then k else none
theorem cw {α:Type} {b:Bool} {k:Option α} {r:α} (h:gd b k=some r):b=true∧k=some r:=by cases b <;> simp_all [gd]
theorem bind_some {α β:Type} {x:Option α} {k:α→Option β} {r:β} (h:x.bind k=some r):∃ t,x=some t∧k t=some r:=by
 cases x with
 | none=>cases h
 | some t=>exact ⟨t,rfl,h⟩
def da {α:Type} (xs:List α) (i:Int):Option α:=bif decide (0≤i) then xs[i.toNat]? else none
theorem aK {α:Type} {xs:List α} {i:Int} {x:α} (h:da xs i=some x):0≤i∧i<(xs.length:Int)∧xs[i.toNat]?=some x:=by
 unfold da at h
 cases hb:decide (0≤i) with
 | false=>simp [hb] at h
 | true =>
  simp only [hb,cond_true] at h
  have h0:0≤i:=by simpa using hb
  have := (List.getElem?_eq_some_iff.1 h).1
  exact ⟨h0,by omega,h⟩
def cP {S R:Type} (body:S→Option (S ⊕ R)):Nat→S→Option R
 | 0,_=>none
 | n+1,s=>(body s).bind fun x=>match x with | .inl s'=>cP body n s' | .inr r=>some r
def LR {S R:Type} (g:S→Option R) (x:S ⊕ R) (r:R):Prop:=match x with | .inl s=>g s=some r | .inr y=>y=r
open Classical in
noncomputable def br {S R:Type} (body:S→Option (S ⊕ R)) (s:S):Option R :=
 if h:∃ r n,cP body n s=some r then some h.choose else none
theorem aS {S R:Type} {body:S→Option (S ⊕ R)} {s:S} {r:R} (h:br body s=some r):∃ n,cP body n s=some r:=by
 unfold br at h
 split at h
 ·rename_i hex
  obtain ⟨n,hn⟩:=hex.choose_spec
  simp only [Option.some.injEq] at h
  exact ⟨n,h ▸ hn⟩
 ·cases h
theorem vt {S R:Type} {body:S→Option (S ⊕ R)}:∀ {n m:Nat} {s:S} {r:R},cP body n s=some r→n≤m→cP body m s=some r:=by
 intro n
 induction n with
 | zero=>intro m s r h; cases h
 | succ n ih =>
  intro m s r h hm
  obtain ⟨m,rfl⟩:∃ k,m=k+1:=⟨m - 1,by omega⟩
  simp only [cP] at h ⊢
  obtain ⟨x,hx,h⟩:=bind_some h
  rw [hx]
  cases x with
  | inl s'=>exact ih h (by omega)
  | inr r=>exact h
theorem vW {S R:Type} {body:S→Option (S ⊕ R)} {s:S} {r:R} {n:Nat} (h:cP body n s=some r):br body s=some r:=by
 unfold br
 have hex:∃ r n,cP body n s=some r:=⟨r,n,h⟩
 rw [dif_pos hex]
 obtain ⟨m,hm⟩:=hex.choose_spec
 have h1:=vt hm (Nat.le_max_left m n)
 have h2:=vt h (Nat.le_max_right m n)
 rw [h1] at h2
 exact h2
theorem eA {S R:Type} (body:S→Option (S ⊕ R)) (s:S):br body s=(body s).bind fun x=>match x with | .inl s'=>br body s' | .inr r=>some r:=by
 cases hb:body s with
 | none =>
  rw [Option.bind_none]
  cases hl:br body s with
  | none=>rfl
  | some r =>
   obtain ⟨n,hn⟩:=aS hl
   cases n with
   | zero=>cases hn
   | succ n=>simp [cP,hb] at hn
 | some x =>
  rw [Option.bind_some]
  cases x with
  | inr r=>exact vW (n:=1) (by simp [cP,hb])
  | inl s' =>
   show _=br body s'
   cases hl:br body s' with
   | some r =>
    obtain ⟨n,hn⟩:=aS hl
    exact vW (n:=n+1) (by simp [cP,hb,hn])
   | none =>
    cases hl2:br body s with
    | none=>rfl
    | some r =>
     obtain ⟨n,hn⟩:=aS hl2
     cases n with
     | zero=>cases hn
     | succ n =>
      simp only [cP,hb,Option.bind_some] at hn
      rw [vW hn] at hl
      cases hl
theorem aV {S R:Type} {body:S→Option (S ⊕ R)} {n:Nat} {s:S} {r:R} (h:cP body n s=some r):∃ m x,n=m+1∧body s=some x∧LR (cP body m) x r:=by
 cases n with
 | zero=>cases h
 | succ m =>
  simp only [cP] at h
  obtain ⟨x,hx,h⟩:=bind_some h
  refine ⟨m,x,rfl,hx,?_⟩
  cases x with
  | inl s'=>exact h
  | inr y=>exact Option.some.inj h
def bt {S R:Type} (x:Option R):Option (S ⊕ R):=x.map Sum.inr
theorem AU {S R:Type} {x:Option R} {y:S ⊕ R} (h:bt x=some y):∃ r,x=some r∧y = .inr r:=by
 cases x with
 | none=>cases h
 | some r=>exact ⟨r,rfl,(Option.some.inj h).symm⟩
theorem some_inj {α:Type} {x y:α} (h:some x=some y):x=y:=Option.some.inj h
def CR (k:IntKind) (a b:Int):Int:=k.wrap ((BitVec.ofInt k.bits a &&& BitVec.ofInt k.bits b).toNat:Int)
def bOr (k:IntKind) (a b:Int):Int:=k.wrap ((BitVec.ofInt k.bits a ||| BitVec.ofInt k.bits b).toNat:Int)
def xz (k:IntKind) (a b:Int):Int:=k.wrap ((BitVec.ofInt k.bits a ^^^ BitVec.ofInt k.bits b).toNat:Int)
def tU (k:IntKind) (a b:Int):Int:=k.wrap ((BitVec.ofInt k.bits a &&& ~~~BitVec.ofInt k.bits b).toNat:Int)
def iI (k:IntKind) (a b:Int):Int:=a.fdiv (2 ^ (min b.toNat k.bits))
def fEq (a b:Nat):Bool:=FloatKind.f64.format.order a b==some .eq
def fNe (a b:Nat):Bool:=FloatKind.f64.format.order a b !=some .eq
def fLt (a b:Nat):Bool:=FloatKind.f64.format.order a b==some .lt
section
variable {P:Program} {ρ:Operand→Value} {ops:Array Oper} {Q:Exit→Act→World→Prop} {rest:List Oper} {o:Oper} {N:Nat} {σ:Nat→Value} {w w':World} {v:Value} {d:Nat}
 {dd : Option Tmp} {ty:TypeId} {ps:String} {af:Array Edge} {g:Option (Nat×Bool)}
theorem Ez {c:Operand} {x y:Code} {t:Bool} (hc:ev N σ c = .bool t) (ht:t=true→x.wp P Q (Fr N σ) w) (hf:t=false→y.wp P Q (Fr N σ) w):(Code.cond c x y).wp P Q (Fr N σ) w :=
 wp_cond_split (t:=t) (by rw [nF]; exact hc) ht hf
theorem dq {c:Operand} {x y:Code} (hc:ev N σ c = .bool true) (ht:x.wp P Q (Fr N σ) w):(Code.cond c x y).wp P Q (Fr N σ) w:=Ez hc (fun _=>ht) (fun h=>by cases h)
theorem bT {c:Operand} {x y:Code} (hc:ev N σ c = .bool false) (hf:y.wp P Q (Fr N σ) w):(Code.cond c x y).wp P Q (Fr N σ) w:=Ez hc (fun h=>by cases h) (fun _=>hf)
theorem EO {K:Act→World→Prop} {a:Act} (h:K a w):Exit.then K Q .normal a w:=h
theorem aQ {K:Act→World→Prop} {a:Act} {i:Nat} (h:Q (.exit i) a w):Exit.then K Q (.exit i) a w:=h
theorem aI {K:Act→World→Prop} {a:Act} (h:Q .ret a w):Exit.then K Q .ret a w:=h
theorem bB {a:Act} {i:Nat} (h:Q .normal a w):Exit.inBlock i Q .normal a w:=h
theorem cZ {a:Act} {i:Nat} (h:Q .normal a w):Exit.inBlock i Q (.exit i) a w:=by simp only [Exit.inBlock,if_true]; exact h
theorem dj {a:Act} {i:Nat} (h:Q .ret a w):Exit.inBlock i Q .ret a w:=h
theorem aM {c x y:Operand} {b:Bool} (hb:b=true) (hc:ρ c = .bool b) (hx:ρ x=v):(execOp ρ ⟨dd,.pick c x y,ty,ps,af,g⟩).run P w = .ok (.value v) w:=by
 subst hb; simp [execOp,hc,hx,asBool,Result.andThen]
theorem aE {c x y:Operand} {b:Bool} (hb:b=false) (hc:ρ c = .bool b) (hy:ρ y=v):(execOp ρ ⟨dd,.pick c x y,ty,ps,af,g⟩).run P w = .ok (.value v) w:=by
 subst hb; simp [execOp,hc,hy,asBool,Result.andThen]
theorem tP {t t2:TypeId} {x y:Operand} {k k2:IntKind} {a b:Int} (h0:0≤b) (hx:ρ x = .int k a) (hy:ρ y = .int k2 b):(execOp ρ ⟨dd,.binOp .shr t x y t2,ty,ps,af,g⟩).run P w = .ok (.value (.int k (iI k a b))) w:=by
 refine nU ?_
 rw [hx,hy]
 have : ¬ b<0:=by omega
 simp only [eqGuard,binOp,Op.shift,this,if_false,Sem.run_bind,Sem.run_ite]
 rfl
theorem Er {t t2:TypeId} {x y:Operand} {k:IntKind} {a b:Int} (h0:(b==0)=false) (hx:ρ x = .int k a) (hy:ρ y = .int k b):(execOp ρ ⟨dd,.binOp .quo t x y t2,ty,ps,af,g⟩).run P w = .ok (.value (.int k (k.wrap (a.tdiv b)))) w:=by
 refine nU ?_
 rw [hx,hy]
 have : ¬ b=0:=by simpa using h0
 simp only [eqGuard,binOp,Op.intDiv,this,if_false,Sem.run_bind,Sem.run_ite,ne_eq,not_true]
 rfl
theorem yM {t t2:TypeId} {x y:Operand} {k:IntKind} {a b:Int} (h0:(b==0)=false) (hx:ρ x = .int k a) (hy:ρ y = .int k b):(execOp ρ ⟨dd,.binOp .rem t x y t2,ty,ps,af,g⟩).run P w = .ok (.value (.int k (a.tmod b))) w:=by
 refine nU ?_
 rw [hx,hy]
 have : ¬ b=0:=by simpa using h0
 simp only [eqGuard,binOp,Op.intDiv,this,if_false,Sem.run_bind,Sem.run_ite,ne_eq,not_true]
 rfl
def RV (P:Program) (N:Nat) (σ:Nat→Value) (w:World):ResultVar→Value→Prop
 | .tmp t,v=>ev N σ (.tmp t)=v
 | .cell a t,v=>∃ ad,ev N σ (.tmp a) = .pointer (some ad)∧(loadVar t ad).run P w = .ok v w
def RVs (P:Program) (N:Nat) (σ:Nat→Value) (w:World):List ResultVar→List Value→Prop
 | [],[]=>True
 | r::rs,v::vs=>RV P N σ w r v∧RVs P N σ w rs vs
 | _,_=>False
def vx:List Value→Value
 | [v]=>v
 | vs=>.tuple vs.toArray
def rvF (tmps:Array Value):ResultVar→Sem Value
 | .tmp t=>pure (tmps.getD t undef)
 | .cell a t=>do loadVar t (← asAddr (tmps.getD a undef))
theorem yi (fn:Func) (tmps:Array Value):results fn tmps=(fn.results.mapM (rvF tmps) >>= fun vs=>pure (if h:vs.size=1 then vs[0] else .tuple vs)):=by
 unfold results
 congr 1
theorem DK {r:ResultVar} {v:Value} (h:RV P N σ w r v):(rvF (Fr N σ).tmps r).run P w = .ok v w:=by
 have key:∀ t,(Fr N σ).tmps.getD t undef=ev N σ (.tmp t):=fun t=>congrFun (nF N σ) (.tmp t)
 cases r with
 | tmp t=>simp only [rvF,key]; rw [show ev N σ (.tmp t)=v from h]; rfl
 | cell a t =>
  obtain ⟨ad,h3,h4⟩:=h
  simp only [rvF,key,h3,asAddr,Sem.run_bind,Sem.run_pure,Result.andThen,h4]
theorem BU (rs:List ResultVar):∀ (vs:List Value),RVs P N σ w rs vs→(rs.mapM (rvF (Fr N σ).tmps)).run P w = .ok vs w:=by
 induction rs with
 | nil=>intro vs h; cases vs <;> simp_all [RVs]
 | cons r rs ih =>
  intro vs h
  cases vs with
  | nil=>simp [RVs] at h
  | cons v vs =>
   obtain ⟨h1,h2⟩:=h
   rw [List.mapM_cons,Sem.run_bind,DK h1,Result.andThen_ok,Sem.run_bind,ih vs h2]
   rfl
theorem yL {fn:Func} {rs:List ResultVar} {vs:List Value} (hr:fn.results=rs.toArray) (hv:RVs P N σ w rs vs):(results fn (Fr N σ).tmps).run P w = .ok (vx vs) w:=by
 rw [yi,hr,Sem.run_bind,List.mapM_toArray,Sem.run_map,BU rs vs hv]
 simp only [Result.andThen,Sem.run_pure]
 congr 1
 match vs with
 | []=>rfl
 | [v]=>rfl
 | v::u::vs=>simp [vx]
theorem BI {fn:Func} {R:Ending→World→Prop} {rs:List ResultVar} {vs:List Value} (hr:fn.results=rs.toArray) (hv:RVs P N σ w rs vs) (h:R (.returned (vx vs)) w):bodyPost P fn R .ret (Fr N σ) w :=
 ⟨rfl, _,yL hr hv,h⟩
theorem vn {fn:Func} {R:Ending→World→Prop} {rs:List ResultVar} {vs:List Value} (hr:fn.results=rs.toArray) (hv:RVs P N σ w rs vs) (h:R (.returned (vx vs)) w):bodyPost P fn R .normal (Fr N σ) w :=
 ⟨rfl, _,yL hr hv,h⟩
theorem bF {a t:Nat} {ad:Addr} {cs:List Value} (h:ev N σ (.tmp a) = .pointer (some ad)) (hA:∀ w,(isAgg t).run P w = .ok true w) (hs:∀ w,(sizeOf t).run P w = .ok cs.length w)
  (hc : ∀ j v,cs[j]?=some v→w.cell? (ad.add j)=some v):RV P N σ w (.cell a t) (.agg cs.toArray):=by
 refine ⟨ad,h,?_⟩
 simp only [loadVar,Sem.run_bind,Result.andThen,hA,if_true,Sem.run_ite,hs,run_loadCells_list w ad cs hc,Sem.run_pure]
variable {C:World→Prop} {Q':Act→Prop}
theorem Bw {id:Nat} {l:List Oper} {a:Act} (C:World→Prop) (hm:P.follows .mixedOrders=true) (hB:Region.lexB .any l.toArray=true) (hC:C {w with drawn:=w.drawn+1})
  (h : wpQuiet P l.toArray C (fun a'=>∀ w',C w'→Q .normal a' w') l a):(Code.region id l.toArray true).wp P Q a w :=
 wp_region_quiet (C:=C) hm hB hC (by simpa using h)
theorem tF (hw:Region.wanted o (yielded ops (Fr N σ).tmps)=true) (hd:o.dst=some d) (h:∀ w,C w→(execOp (ev N σ) o).run P w = .ok (.value v) w) (k:wpQuiet P ops C Q' rest (Fr N (upd σ d v))) :
  wpQuiet P ops C Q' (o::rest) (Fr N σ):=by
 unfold wpQuiet
 rw [if_pos hw]
 refine ⟨v,fun w hw=>?_,by rw [hd,rO]; exact k⟩
 unfold Oper.quietAt
 rw [nF,h w hw]
 exact ⟨rfl,rfl⟩
theorem qW (hw:Region.wanted o (yielded ops (Fr N σ).tmps)=false) (hd:o.dst=some d) (k:wpQuiet P ops C Q' rest (Fr N (upd σ d undef))):wpQuiet P ops C Q' (o::rest) (Fr N σ):=by
 unfold wpQuiet
 rw [if_neg (by rw [hw]; exact Bool.false_ne_true),hd,rO]
 exact k
theorem fK (h:Q' (Fr N σ)):wpQuiet P ops C Q' [] (Fr N σ):=h
end
end Go.V
end
section
set_option linter.unusedVariables false
set_option linter.unusedSimpArgs false
namespace Go.V
open Go
def cE {α:Type} (A:Value→α→SP) (pv:Value) (x:Option α):SP:=match x with
 | none=>tG (fun _=>pv = .pointer none) (fun _ _ _ h=>h) emp
 | some y=>A pv y
def room {α β:Type} (xs:List α) (ys:List β):Bool:=decide (xs.length+ys.length≤1073741824)
theorem cF {α β:Type} {xs:List α} {ys:List β} {b:Nat} (h:room xs ys=true) (hb:Nat.ble b 60000=true):(xs.length+ys.length)*b≤70368744177664:=by
 have h1:xs.length+ys.length≤1073741824:=of_decide_eq_true h
 have h2:b≤60000:=Nat.le_of_ble_eq_true hb
 calc (xs.length+ys.length)*b≤1073741824*b:=Nat.mul_le_mul_right _ h1
  _ ≤ 1073741824*60000:=Nat.mul_le_mul_left _ h2
  _ ≤ 70368744177664:=by decide
theorem iB {p:Prop} (b:Bool) (h1:b=true→p) (h2:b=false→p):p:=by cases b; exact h2 rfl; exact h1 rfl
theorem dF {a b:Nat} (h:Value.pointer (some ⟨a,0,none⟩)=Value.pointer (some ⟨b,0,none⟩)):a=b:=by cases h; rfl
theorem Fy {b:Bool} (h:(!b)=true):b=false:=by simpa using h
theorem uG {b:Bool} (h:b=true):(!b)=false:=by simp [h]
theorem rW {b:Bool} (h:b=false):(!b)=true:=by simp [h]
theorem bg {S R:Type} {x:Option R} {y:S ⊕ R} {g:S→Option R} {r:R} (h:bt x=some y) (hx:LR g y r):x=some r:=by
 obtain ⟨z,hz,rfl⟩:=AU h
 rw [hz]; exact congrArg some hx
theorem Fo {N t:Nat} {σ:Nat→Value} {v:Value} (h:σ t=v):Fr N σ=Fr N (upd σ t v):=by
 have : upd σ t v=σ:=by
  funext i
  unfold upd
  cases hb:Nat.beq i t with
  | true=>have:=Nat.eq_of_beq_eq_true hb; subst this; exact h.symm
  | false=>rfl
 rw [this]
theorem Ay {α:Type} {xs:List α} {i:Nat} {x:α} (h:xs[i]?=some x) (y:α):(xs.set i y)[i]?=some y:=by
 have := (List.getElem?_eq_some_iff.1 h).1
 simp [List.getElem?_set_self this]
theorem Cc {α:Type} {xs:List α} {i:Int} (h:i<(xs.length:Int)) (j:Nat) (y:α):i<((xs.set j y).length:Int):=by simpa using h
theorem jL:∀ v∈([]:List Value),v.oneCell'=true:=by simp
theorem bL {v:Value} {l:List Value} (h:v.oneCell'=true) (k:∀ u∈l,u.oneCell'=true):∀ u∈v::l,u.oneCell'=true:=by
 intro u hu
 rcases List.mem_cons.1 hu with rfl | hu
 ·exact h
 ·exact k u hu
theorem wj (vs:List Value):∀ (cs:List Value),cs.length=vs.length→fP cs 0 vs=vs:=by
 intro cs h
 have := rQ vs [] cs (by omega)
 simp at this
 rw [this,List.drop_of_length_le (by omega)]; simp
theorem uL {n:Nat} {cs vs:List Value} (h:cs.length=n) (hv:vs.length=n):fP cs 0 vs=vs:=wj vs cs (by omega)
section
variable {P:Program} {ρ:Operand→Value} {α:Type} {E:Ty α} {N:Nat} {σ:Nat→Value} {w0 w w':World} {I I':HL} {L:List SP} {R:SP} {v x V:Value} {xs ys:List α} {y z:α} {i k:Nat} {t t' e:TypeId} {b o:Nat} {cs vs:List Value} {pv:Value} {A:Value→α→SP}
 {dd : Option Tmp} {ty:TypeId} {ps:String} {af:Array Edge} {g:Option (Nat×Bool)}
theorem np (h:St w0 w I (cE A pv none::L) R):pv = .pointer none∧St w0 w I L R:=by
 obtain ⟨h1,h2⟩:=St.and (A:=emp) (hφ:=fun _ _ _ h=>h) h
 exact ⟨h1,h2.sub⟩
theorem bD (h:St w0 w I (cE A pv (some y)::L) R):St w0 w I (A pv y::L) R:=h
theorem aJ (h:St w0 w I (A pv y::L) R):St w0 w I (cE A pv (some y)::L) R:=h
theorem cv:Ro E I (.slice none 0 0) []:=⟨[],⟨by simp,none,0,rfl,Nat.le_refl _,fun h=>absurd rfl h⟩,bz.nil⟩
theorem St.box (h:St w0 w I L R) (cs:List Value) (e:TypeId):∃ b w',w.alloc (.cells cs.toArray e)=w'∧w.heap.size=b∧St w0 w' I (cells b cs::L) R:=⟨_,_,rfl,rfl,h.new cs e⟩
theorem tO {s:Sem Next} {ob:Obj} (h:s.run P w = .ok (.value (.pointer (some ⟨w.heap.size,0,none⟩))) (w.alloc ob)) (ew:w.alloc ob=w') (eb:w.heap.size=b):s.run P w = .ok (.value (.pointer (some ⟨b,0,none⟩))) w':=by subst ew; subst eb; exact h
theorem di {s:Sem Next} {ob:Obj} {n m:Nat} (h:s.run P w = .ok (.value (.slice (some ⟨w.heap.size,0,none⟩) n m)) (w.alloc ob)) (ew:w.alloc ob=w') (eb:w.heap.size=b):s.run P w = .ok (.value (.slice (some ⟨b,0,none⟩) n m)) w':=by subst ew; subst eb; exact h
theorem St.er (h:St w0 w I L R) (css:List (List Value)) (e:TypeId) (n:Nat) (hn:css.length=n) (hr:bz (E.rep (dU I)) xs css):∃ b w',w.alloc (.cells css.flatten.toArray e)=w'∧w.heap.size=b∧St w0 w' I (aZ E (.slice (some ⟨b,0,none⟩) n n) xs::L) R:=by
 subst hn
 refine ⟨_,_,rfl,rfl,St.ba ?_ hr⟩
 have h1:=h.new css.flatten e
 exact St.rK (pre:=[]) (junk:=[]) (by simpa using h1) (Nat.le_refl _) hr.lens rfl (by simp)
theorem dL {id:Nat} {l:List Oper} {a:Act} {Q:Exit→Act→World→Prop} (hst:St w0 w I L R) (hm:P.follows .mixedOrders=true) (hB:Region.lexB .any l.toArray=true)
  (h : wpQuiet P l.toArray (fun w'=>St w0 w' I L R) (fun a'=>∀ w',St w0 w' I L R→Q .normal a' w') l a):(Code.region id l.toArray true).wp P Q a w :=
 Bw (fun w'=>St w0 w' I L R) hm hB (hst.drawn _) h
theorem bU {a c:Operand} {t t':TypeId} {X:Value} (ha:ρ a=V) (hc:ρ c=X) (h:(Builtin.append_ #[t,t'] ty #[V,X]).run P w = .ok v w') :
  (execOp ρ ⟨dd,.call {callee:=.builtin .append,args:=#[a,c],argTypes:=#[t,t']},ty,ps,af,g⟩).run P w = .ok (.value v) w':=by
 simp [execOp,resolve,invoke,builtin,ha,hc,h,Result.andThen]
theorem St.zU (h:St w0 w I (aZ E v ([]++ys)::L) R):St w0 w I (aZ E v ys::L) R:=by rwa [List.nil_append] at h
theorem rG (hst:St w0 w I L R) (k:Nat) (hL:L[k]?=some (aZ E v xs)) (hi:xs[i]?=some y) (hrep:∀ cs,E.rep (dU I) y cs→cs[o]?=some x):w.cell? (dN v (i*E.sz+o))=some x:=by
 obtain ⟨cs,h1,h2⟩:=hst.pR k hL hi
 exact h2 o x (hrep cs h1)
theorem qt (hst:St w0 w I L R) (k:Nat) (hL:L[k]?=some (aZ E v xs)) (hi:xs[i]?=some y) (o:Nat) (hrep:∀ cs,E.rep (dU I) y cs→(cs.drop o).take vs.length=vs):∀ j u,vs[j]?=some u→w.cell? ((dN v (i*E.sz+o)).add j)=some u:=by
 obtain ⟨cs,h1,h2⟩:=hst.pR k hL hi
 exact dO h2 (hrep cs h1)
theorem dR (h:Rd E R I v xs) (hI:I.le I') (hst:St w0 w I' L R) (hi:xs[i]?=some y) (hrep:∀ cs,E.rep (ie R I') y cs→cs[o]?=some x):w.cell? (dN v (i*E.sz+o))=some x:=by
 obtain ⟨cs,h1,h2⟩:=h.get hI hst hi
 exact h2 o x (hrep cs h1)
theorem pH (h:Rd E R I v xs) (hI:I.le I') (hst:St w0 w I' L R) (hi:xs[i]?=some y) (o:Nat) (hrep:∀ cs,E.rep (ie R I') y cs→(cs.drop o).take vs.length=vs):∀ j u,vs[j]?=some u→w.cell? ((dN v (i*E.sz+o)).add j)=some u:=by
 obtain ⟨cs,h1,h2⟩:=h.get hI hst hi
 exact dO h2 (hrep cs h1)
theorem DH (h:Ro E I v xs) (hst:St w0 w I L R) (hi:xs[i]?=some y) (hrep:∀ cs,E.rep (dU I) y cs→cs[o]?=some x):w.cell? (dN v (i*E.sz+o))=some x:=by
 obtain ⟨cs,h1,h2⟩:=h.get hst hi
 exact h2 o x (hrep cs h1)
theorem ER {ops:Array Oper} {Q:Exit→Act→World→Prop} {rest:List Oper} {op:Oper} {d:Nat} (hw:Region.wanted op (yielded ops (Fr N σ).tmps)=true) (hd:op.dst=some d)
  (h : (execOp (ev N σ) op).run P w = .ok (.value v) w) (k:wpList P ops Q rest (Fr N (upd σ d v)) w):wpList P ops Q (op::rest) (Fr N σ) w:=bY hw hd h k
theorem xA {ops:Array Oper} {op:Oper} {j t:Nat} {want:Bool} (hg:op.guard=some (j,want)) (hj:(ops[j]?).bind (·.dst)=some t) (ht:Nat.blt t N=true) (hv:σ t=undef) :
  Region.wanted op (yielded ops (Fr N σ).tmps)=false:=by
 unfold Region.wanted
 rw [hg]
 have : yielded ops (Fr N σ).tmps j=none:=by
  unfold yielded
  rw [hj]
  simp only [Option.bind_some,Fr,Array.getElem?_ofFn]
  rw [dif_pos (by simpa [Nat.blt_eq] using ht)]
  simp [hv,undef]
 simp [this]
theorem ah:RVs P N σ w [] []:=trivial
theorem bj {r:ResultVar} {rs:List ResultVar} (h:RV P N σ w r v) (k:RVs P N σ w rs vs):RVs P N σ w (r::rs) (v::vs):=⟨h,k⟩
theorem St.rV (h:St w0 w I L R) (n:Nat) {L1:List SP} (h1:L.take n=L1):St w0 w I L1 R:=by
 subst h1
 have h2:St w0 w I (L.drop n++L.take n) R:=by
  have h3:St w0 w I (L.take n++L.drop n) R:=by rw [List.take_append_drop]; exact h
  exact h3.comm
 have key:∀ (D:List SP),St w0 w I (D++L.take n) R→St w0 w I (L.take n) R:=by
  intro D
  induction D with
  | nil=>exact id
  | cons X D ih=>exact fun h=>ih h.sub
 exact key _ h2
end
theorem St.bc0 {w0 w:World} {I:HL} {L:List SP} {R:SP} {b o:Nat} {cs:List Value} {x:Value} (h:St w0 w I (cells b cs::L) R) (ho:cs[o]?=some x):w.cell? ⟨b,o,none⟩=some x:=h.lA 0 rfl ho
theorem St.eD {w0 w:World} {I:HL} {L:List SP} {R:SP} {b:Nat} {cs vs:List Value} (h:St w0 w I (cells b cs::L) R) (o:Nat) (hv:(cs.drop o).take vs.length=vs):∀ j y,vs[j]?=some y→w.cell? ((⟨b,o,none⟩:Addr).add j)=some y:=h.kT 0 rfl o hv
theorem St.sv0 {w0 w:World} {I:HL} {L:List SP} {R:SP} {α:Type} {E:Ty α} {v:Value} {xs:List α} (h:St w0 w I (aZ E v xs::L) R):dc v xs.length:=h.jj 0 rfl
theorem St.og0 {w0 w:World} {I:HL} {L:List SP} {R:SP} {α:Type} {E:Ty α} {v:Value} {xs:List α} {i:Nat} {x:α} (h:St w0 w I (aZ E v xs::L) R) (hi:xs[i]?=some x):∃ cs,E.rep (dU I) x cs∧∀ o y,cs[o]?=some y→w.cell? (dN v (i*E.sz+o))=some y:=h.pR 0 rfl hi
theorem St.ol0 {w0 w:World} {I:HL} {L:List SP} {R:SP} {α:Type} {E:Ty α} {v x:Value} {xs:List α} {i o:Nat} {y:α} (h:St w0 w I (aZ E v xs::L) R) (hi:xs[i]?=some y) (hrep:∀ cs,E.rep (dU I) y cs→cs[o]?=some x):w.cell? (dN v (i*E.sz+o))=some x:=rG h 0 rfl hi hrep
theorem St.FN {w0 w:World} {I:HL} {L:List SP} {R:SP} {α:Type} {E:Ty α} {v:Value} {vs:List Value} {xs:List α} {i:Nat} {y:α} (h:St w0 w I (aZ E v xs::L) R) (hi:xs[i]?=some y) (o:Nat) (hrep:∀ cs,E.rep (dU I) y cs→(cs.drop o).take vs.length=vs):∀ j u,vs[j]?=some u→w.cell? ((dN v (i*E.sz+o)).add j)=some u:=qt h 0 rfl hi o hrep
theorem St.nf {w0 w:World} {I:HL} {L:List SP} {R:SP} {α:Type} {E:Ty α} {v:Value} {xs:List α} {css:List (List Value)} (h:St w0 w I (row E.sz v css::L) R) (hr:bz (E.rep (dU I)) xs css):Rd E (big (row E.sz v css::L) R) I v xs:=Rd.vb 0 h rfl hr
theorem St.bc1 {w0 w:World} {I:HL} {L:List SP} {R:SP} {A0:SP} {b o:Nat} {cs:List Value} {x:Value} (h:St w0 w I (A0::cells b cs::L) R) (ho:cs[o]?=some x):w.cell? ⟨b,o,none⟩=some x:=h.lA 1 rfl ho
theorem St.eI {w0 w:World} {I:HL} {L:List SP} {R:SP} {A0:SP} {b:Nat} {cs vs:List Value} (h:St w0 w I (A0::cells b cs::L) R) (o:Nat) (hv:(cs.drop o).take vs.length=vs):∀ j y,vs[j]?=some y→w.cell? ((⟨b,o,none⟩:Addr).add j)=some y:=h.kT 1 rfl o hv
theorem St.sv1 {w0 w:World} {I:HL} {L:List SP} {R:SP} {A0:SP} {α:Type} {E:Ty α} {v:Value} {xs:List α} (h:St w0 w I (A0::aZ E v xs::L) R):dc v xs.length:=h.jj 1 rfl
theorem St.og1 {w0 w:World} {I:HL} {L:List SP} {R:SP} {A0:SP} {α:Type} {E:Ty α} {v:Value} {xs:List α} {i:Nat} {x:α} (h:St w0 w I (A0::aZ E v xs::L) R) (hi:xs[i]?=some x):∃ cs,E.rep (dU I) x cs∧∀ o y,cs[o]?=some y→w.cell? (dN v (i*E.sz+o))=some y:=h.pR 1 rfl hi
theorem St.ol1 {w0 w:World} {I:HL} {L:List SP} {R:SP} {A0:SP} {α:Type} {E:Ty α} {v x:Value} {xs:List α} {i o:Nat} {y:α} (h:St w0 w I (A0::aZ E v xs::L) R) (hi:xs[i]?=some y) (hrep:∀ cs,E.rep (dU I) y cs→cs[o]?=some x):w.cell? (dN v (i*E.sz+o))=some x:=rG h 1 rfl hi hrep
theorem St.Fu {w0 w:World} {I:HL} {L:List SP} {R:SP} {A0:SP} {α:Type} {E:Ty α} {v:Value} {vs:List Value} {xs:List α} {i:Nat} {y:α} (h:St w0 w I (A0::aZ E v xs::L) R) (hi:xs[i]?=some y) (o:Nat) (hrep:∀ cs,E.rep (dU I) y cs→(cs.drop o).take vs.length=vs):∀ j u,vs[j]?=some u→w.cell? ((dN v (i*E.sz+o)).add j)=some u:=qt h 1 rfl hi o hrep
theorem St.jr {w0 w:World} {I:HL} {L:List SP} {R:SP} {A0:SP} {α:Type} {E:Ty α} {v:Value} {xs:List α} (h:St w0 w I (A0::aZ E v xs::L) R):Src E w I v xs:=Src.EB h 1 rfl
theorem St.pG {w0 w:World} {I:HL} {L:List SP} {R:SP} {A0:SP} {α:Type} {E:Ty α} {v:Value} {xs:List α} {css:List (List Value)} (h:St w0 w I (A0::row E.sz v css::L) R) (hr:bz (E.rep (dU I)) xs css):Rd E (big (A0::row E.sz v css::L) R) I v xs:=Rd.vb 1 h rfl hr
theorem St.bc2 {w0 w:World} {I:HL} {L:List SP} {R:SP} {A0 A1:SP} {b o:Nat} {cs:List Value} {x:Value} (h:St w0 w I (A0::A1::cells b cs::L) R) (ho:cs[o]?=some x):w.cell? ⟨b,o,none⟩=some x:=h.lA 2 rfl ho
theorem St.pQ {w0 w:World} {I:HL} {L:List SP} {R:SP} {A0 A1:SP} {b:Nat} {cs vs:List Value} (h:St w0 w I (A0::A1::cells b cs::L) R) (o:Nat) (hv:(cs.drop o).take vs.length=vs):∀ j y,vs[j]?=some y→w.cell? ((⟨b,o,none⟩:Addr).add j)=some y:=h.kT 2 rfl o hv
theorem St.sv2 {w0 w:World} {I:HL} {L:List SP} {R:SP} {A0 A1:SP} {α:Type} {E:Ty α} {v:Value} {xs:List α} (h:St w0 w I (A0::A1::aZ E v xs::L) R):dc v xs.length:=h.jj 2 rfl
theorem St.og2 {w0 w:World} {I:HL} {L:List SP} {R:SP} {A0 A1:SP} {α:Type} {E:Ty α} {v:Value} {xs:List α} {i:Nat} {x:α} (h:St w0 w I (A0::A1::aZ E v xs::L) R) (hi:xs[i]?=some x):∃ cs,E.rep (dU I) x cs∧∀ o y,cs[o]?=some y→w.cell? (dN v (i*E.sz+o))=some y:=h.pR 2 rfl hi
theorem St.ol2 {w0 w:World} {I:HL} {L:List SP} {R:SP} {A0 A1:SP} {α:Type} {E:Ty α} {v x:Value} {xs:List α} {i o:Nat} {y:α} (h:St w0 w I (A0::A1::aZ E v xs::L) R) (hi:xs[i]?=some y) (hrep:∀ cs,E.rep (dU I) y cs→cs[o]?=some x):w.cell? (dN v (i*E.sz+o))=some x:=rG h 2 rfl hi hrep
theorem St.bc3 {w0 w:World} {I:HL} {L:List SP} {R:SP} {A0 A1 A2:SP} {b o:Nat} {cs:List Value} {x:Value} (h:St w0 w I (A0::A1::A2::cells b cs::L) R) (ho:cs[o]?=some x):w.cell? ⟨b,o,none⟩=some x:=h.lA 3 rfl ho
theorem St.rU {w0 w:World} {I:HL} {L:List SP} {R:SP} {A0 A1 A2:SP} {b:Nat} {cs vs:List Value} (h:St w0 w I (A0::A1::A2::cells b cs::L) R) (o:Nat) (hv:(cs.drop o).take vs.length=vs):∀ j y,vs[j]?=some y→w.cell? ((⟨b,o,none⟩:Addr).add j)=some y:=h.kT 3 rfl o hv
theorem St.sv3 {w0 w:World} {I:HL} {L:List SP} {R:SP} {A0 A1 A2:SP} {α:Type} {E:Ty α} {v:Value} {xs:List α} (h:St w0 w I (A0::A1::A2::aZ E v xs::L) R):dc v xs.length:=h.jj 3 rfl
theorem St.ol3 {w0 w:World} {I:HL} {L:List SP} {R:SP} {A0 A1 A2:SP} {α:Type} {E:Ty α} {v x:Value} {xs:List α} {i o:Nat} {y:α} (h:St w0 w I (A0::A1::A2::aZ E v xs::L) R) (hi:xs[i]?=some y) (hrep:∀ cs,E.rep (dU I) y cs→cs[o]?=some x):w.cell? (dN v (i*E.sz+o))=some x:=rG h 3 rfl hi hrep
theorem St.FQ {w0 w:World} {I:HL} {L:List SP} {R:SP} {A0 A1 A2:SP} {α:Type} {E:Ty α} {v:Value} {vs:List Value} {xs:List α} {i:Nat} {y:α} (h:St w0 w I (A0::A1::A2::aZ E v xs::L) R) (hi:xs[i]?=some y) (o:Nat) (hrep:∀ cs,E.rep (dU I) y cs→(cs.drop o).take vs.length=vs):∀ j u,vs[j]?=some u→w.cell? ((dN v (i*E.sz+o)).add j)=some u:=qt h 3 rfl hi o hrep
theorem St.bc4 {w0 w:World} {I:HL} {L:List SP} {R:SP} {A0 A1 A2 A3:SP} {b o:Nat} {cs:List Value} {x:Value} (h:St w0 w I (A0::A1::A2::A3::cells b cs::L) R) (ho:cs[o]?=some x):w.cell? ⟨b,o,none⟩=some x:=h.lA 4 rfl ho
theorem St.wq {w0 w:World} {I:HL} {L:List SP} {R:SP} {A0 A1 A2 A3:SP} {b:Nat} {cs vs:List Value} (h:St w0 w I (A0::A1::A2::A3::cells b cs::L) R) (o:Nat) (hv:(cs.drop o).take vs.length=vs):∀ j y,vs[j]?=some y→w.cell? ((⟨b,o,none⟩:Addr).add j)=some y:=h.kT 4 rfl o hv
theorem St.sv4 {w0 w:World} {I:HL} {L:List SP} {R:SP} {A0 A1 A2 A3:SP} {α:Type} {E:Ty α} {v:Value} {xs:List α} (h:St w0 w I (A0::A1::A2::A3::aZ E v xs::L) R):dc v xs.length:=h.jj 4 rfl
theorem St.bc5 {w0 w:World} {I:HL} {L:List SP} {R:SP} {A0 A1 A2 A3 A4:SP} {b o:Nat} {cs:List Value} {x:Value} (h:St w0 w I (A0::A1::A2::A3::A4::cells b cs::L) R) (ho:cs[o]?=some x):w.cell? ⟨b,o,none⟩=some x:=h.lA 5 rfl ho
theorem St.xB {w0 w:World} {I:HL} {L:List SP} {R:SP} {A0 A1 A2 A3 A4:SP} {b:Nat} {cs vs:List Value} (h:St w0 w I (A0::A1::A2::A3::A4::cells b cs::L) R) (o:Nat) (hv:(cs.drop o).take vs.length=vs):∀ j y,vs[j]?=some y→w.cell? ((⟨b,o,none⟩:Addr).add j)=some y:=h.kT 5 rfl o hv
theorem St.sv5 {w0 w:World} {I:HL} {L:List SP} {R:SP} {A0 A1 A2 A3 A4:SP} {α:Type} {E:Ty α} {v:Value} {xs:List α} (h:St w0 w I (A0::A1::A2::A3::A4::aZ E v xs::L) R):dc v xs.length:=h.jj 5 rfl
theorem St.bc6 {w0 w:World} {I:HL} {L:List SP} {R:SP} {A0 A1 A2 A3 A4 A5:SP} {b o:Nat} {cs:List Value} {x:Value} (h:St w0 w I (A0::A1::A2::A3::A4::A5::cells b cs::L) R) (ho:cs[o]?=some x):w.cell? ⟨b,o,none⟩=some x:=h.lA 6 rfl ho
theorem St.CY {w0 w:World} {I:HL} {L:List SP} {R:SP} {A0 A1 A2 A3 A4 A5:SP} {b:Nat} {cs vs:List Value} (h:St w0 w I (A0::A1::A2::A3::A4::A5::cells b cs::L) R) (o:Nat) (hv:(cs.drop o).take vs.length=vs):∀ j y,vs[j]?=some y→w.cell? ((⟨b,o,none⟩:Addr).add j)=some y:=h.kT 6 rfl o hv
theorem St.sv6 {w0 w:World} {I:HL} {L:List SP} {R:SP} {A0 A1 A2 A3 A4 A5:SP} {α:Type} {E:Ty α} {v:Value} {xs:List α} (h:St w0 w I (A0::A1::A2::A3::A4::A5::aZ E v xs::L) R):dc v xs.length:=h.jj 6 rfl
theorem St.og6 {w0 w:World} {I:HL} {L:List SP} {R:SP} {A0 A1 A2 A3 A4 A5:SP} {α:Type} {E:Ty α} {v:Value} {xs:List α} {i:Nat} {x:α} (h:St w0 w I (A0::A1::A2::A3::A4::A5::aZ E v xs::L) R) (hi:xs[i]?=some x):∃ cs,E.rep (dU I) x cs∧∀ o y,cs[o]?=some y→w.cell? (dN v (i*E.sz+o))=some y:=h.pR 6 rfl hi
theorem St.FL {w0 w:World} {I:HL} {L:List SP} {R:SP} {A0 A1 A2 A3 A4 A5:SP} {α:Type} {E:Ty α} {v:Value} {vs:List Value} {xs:List α} {i:Nat} {y:α} (h:St w0 w I (A0::A1::A2::A3::A4::A5::aZ E v xs::L) R) (hi:xs[i]?=some y) (o:Nat) (hrep:∀ cs,E.rep (dU I) y cs→(cs.drop o).take vs.length=vs):∀ j u,vs[j]?=some u→w.cell? ((dN v (i*E.sz+o)).add j)=some u:=qt h 6 rfl hi o hrep
theorem St.bc7 {w0 w:World} {I:HL} {L:List SP} {R:SP} {A0 A1 A2 A3 A4 A5 A6:SP} {b o:Nat} {cs:List Value} {x:Value} (h:St w0 w I (A0::A1::A2::A3::A4::A5::A6::cells b cs::L) R) (ho:cs[o]?=some x):w.cell? ⟨b,o,none⟩=some x:=h.lA 7 rfl ho
theorem St.FB {w0 w:World} {I:HL} {L:List SP} {R:SP} {A0 A1 A2 A3 A4 A5 A6:SP} {b:Nat} {cs vs:List Value} (h:St w0 w I (A0::A1::A2::A3::A4::A5::A6::cells b cs::L) R) (o:Nat) (hv:(cs.drop o).take vs.length=vs):∀ j y,vs[j]?=some y→w.cell? ((⟨b,o,none⟩:Addr).add j)=some y:=h.kT 7 rfl o hv
theorem St.sv7 {w0 w:World} {I:HL} {L:List SP} {R:SP} {A0 A1 A2 A3 A4 A5 A6:SP} {α:Type} {E:Ty α} {v:Value} {xs:List α} (h:St w0 w I (A0::A1::A2::A3::A4::A5::A6::aZ E v xs::L) R):dc v xs.length:=h.jj 7 rfl
theorem St.og7 {w0 w:World} {I:HL} {L:List SP} {R:SP} {A0 A1 A2 A3 A4 A5 A6:SP} {α:Type} {E:Ty α} {v:Value} {xs:List α} {i:Nat} {x:α} (h:St w0 w I (A0::A1::A2::A3::A4::A5::A6::aZ E v xs::L) R) (hi:xs[i]?=some x):∃ cs,E.rep (dU I) x cs∧∀ o y,cs[o]?=some y→w.cell? (dN v (i*E.sz+o))=some y:=h.pR 7 rfl hi
theorem St.ol7 {w0 w:World} {I:HL} {L:List SP} {R:SP} {A0 A1 A2 A3 A4 A5 A6:SP} {α:Type} {E:Ty α} {v x:Value} {xs:List α} {i o:Nat} {y:α} (h:St w0 w I (A0::A1::A2::A3::A4::A5::A6::aZ E v xs::L) R) (hi:xs[i]?=some y) (hrep:∀ cs,E.rep (dU I) y cs→cs[o]?=some x):w.cell? (dN v (i*E.sz+o))=some x:=rG h 7 rfl hi hrep
theorem St.FI {w0 w:World} {I:HL} {L:List SP} {R:SP} {A0 A1 A2 A3 A4 A5 A6:SP} {α:Type} {E:Ty α} {v:Value} {vs:List Value} {xs:List α} {i:Nat} {y:α} (h:St w0 w I (A0::A1::A2::A3::A4::A5::A6::aZ E v xs::L) R) (hi:xs[i]?=some y) (o:Nat) (hrep:∀ cs,E.rep (dU I) y cs→(cs.drop o).take vs.length=vs):∀ j u,vs[j]?=some u→w.cell? ((dN v (i*E.sz+o)).add j)=some u:=qt h 7 rfl hi o hrep
theorem St.bc8 {w0 w:World} {I:HL} {L:List SP} {R:SP} {A0 A1 A2 A3 A4 A5 A6 A7:SP} {b o:Nat} {cs:List Value} {x:Value} (h:St w0 w I (A0::A1::A2::A3::A4::A5::A6::A7::cells b cs::L) R) (ho:cs[o]?=some x):w.cell? ⟨b,o,none⟩=some x:=h.lA 8 rfl ho
theorem St.wG {w0 w:World} {I:HL} {L:List SP} {R:SP} {A0 A1 A2 A3 A4 A5 A6 A7:SP} {b:Nat} {cs vs:List Value} (h:St w0 w I (A0::A1::A2::A3::A4::A5::A6::A7::cells b cs::L) R) (o:Nat) (hv:(cs.drop o).take vs.length=vs):∀ j y,vs[j]?=some y→w.cell? ((⟨b,o,none⟩:Addr).add j)=some y:=h.kT 8 rfl o hv
theorem St.sv8 {w0 w:World} {I:HL} {L:List SP} {R:SP} {A0 A1 A2 A3 A4 A5 A6 A7:SP} {α:Type} {E:Ty α} {v:Value} {xs:List α} (h:St w0 w I (A0::A1::A2::A3::A4::A5::A6::A7::aZ E v xs::L) R):dc v xs.length:=h.jj 8 rfl
theorem St.og8 {w0 w:World} {I:HL} {L:List SP} {R:SP} {A0 A1 A2 A3 A4 A5 A6 A7:SP} {α:Type} {E:Ty α} {v:Value} {xs:List α} {i:Nat} {x:α} (h:St w0 w I (A0::A1::A2::A3::A4::A5::A6::A7::aZ E v xs::L) R) (hi:xs[i]?=some x):∃ cs,E.rep (dU I) x cs∧∀ o y,cs[o]?=some y→w.cell? (dN v (i*E.sz+o))=some y:=h.pR 8 rfl hi
theorem St.bc9 {w0 w:World} {I:HL} {L:List SP} {R:SP} {A0 A1 A2 A3 A4 A5 A6 A7 A8:SP} {b o:Nat} {cs:List Value} {x:Value} (h:St w0 w I (A0::A1::A2::A3::A4::A5::A6::A7::A8::cells b cs::L) R) (ho:cs[o]?=some x):w.cell? ⟨b,o,none⟩=some x:=h.lA 9 rfl ho
theorem St.vR {w0 w:World} {I:HL} {L:List SP} {R:SP} {A0 A1 A2 A3 A4 A5 A6 A7 A8:SP} {b:Nat} {cs vs:List Value} (h:St w0 w I (A0::A1::A2::A3::A4::A5::A6::A7::A8::cells b cs::L) R) (o:Nat) (hv:(cs.drop o).take vs.length=vs):∀ j y,vs[j]?=some y→w.cell? ((⟨b,o,none⟩:Addr).add j)=some y:=h.kT 9 rfl o hv
theorem St.uz {w0 w:World} {I:HL} {L:List SP} {R:SP} {A0 A1 A2 A3 A4 A5 A6 A7 A8 A9:SP} {b o:Nat} {cs:List Value} {x:Value} (h:St w0 w I (A0::A1::A2::A3::A4::A5::A6::A7::A8::A9::cells b cs::L) R) (ho:cs[o]?=some x):w.cell? ⟨b,o,none⟩=some x:=h.lA 10 rfl ho
theorem St.El {w0 w:World} {I:HL} {L:List SP} {R:SP} {A0 A1 A2 A3 A4 A5 A6 A7 A8 A9:SP} {b:Nat} {cs vs:List Value} (h:St w0 w I (A0::A1::A2::A3::A4::A5::A6::A7::A8::A9::cells b cs::L) R) (o:Nat) (hv:(cs.drop o).take vs.length=vs):∀ j y,vs[j]?=some y→w.cell? ((⟨b,o,none⟩:Addr).add j)=some y:=h.kT 10 rfl o hv
theorem St.FG {w0 w:World} {I:HL} {L:List SP} {R:SP} {A0 A1 A2 A3 A4 A5 A6 A7 A8 A9 A10:SP} {b o:Nat} {cs:List Value} {x:Value} (h:St w0 w I (A0::A1::A2::A3::A4::A5::A6::A7::A8::A9::A10::cells b cs::L) R) (ho:cs[o]?=some x):w.cell? ⟨b,o,none⟩=some x:=h.lA 11 rfl ho
theorem St.FD {w0 w:World} {I:HL} {L:List SP} {R:SP} {A0 A1 A2 A3 A4 A5 A6 A7 A8 A9 A10:SP} {b:Nat} {cs vs:List Value} (h:St w0 w I (A0::A1::A2::A3::A4::A5::A6::A7::A8::A9::A10::cells b cs::L) R) (o:Nat) (hv:(cs.drop o).take vs.length=vs):∀ j y,vs[j]?=some y→w.cell? ((⟨b,o,none⟩:Addr).add j)=some y:=h.kT 11 rfl o hv
theorem St.Fw {w0 w:World} {I:HL} {L:List SP} {R:SP} {A0 A1 A2 A3 A4 A5 A6 A7 A8 A9 A10 A11:SP} {b o:Nat} {cs:List Value} {x:Value} (h:St w0 w I (A0::A1::A2::A3::A4::A5::A6::A7::A8::A9::A10::A11::cells b cs::L) R) (ho:cs[o]?=some x):w.cell? ⟨b,o,none⟩=some x:=h.lA 12 rfl ho
theorem St.bQ {w0 w:World} {I:HL} {L:List SP} {R:SP} (h:St w0 w I (L) R):St w0 w I [] R:=h.rV 0 rfl
theorem St.bo {A0:SP} {w0 w:World} {I:HL} {L:List SP} {R:SP} (h:St w0 w I (A0::L) R):St w0 w I [A0] R:=h.rV 1 rfl
theorem St.cd {A0 A1:SP} {w0 w:World} {I:HL} {L:List SP} {R:SP} (h:St w0 w I (A0::A1::L) R):St w0 w I [A0,A1] R:=h.rV 2 rfl
theorem St.dC {A0 A1 A2:SP} {w0 w:World} {I:HL} {L:List SP} {R:SP} (h:St w0 w I (A0::A1::A2::L) R):St w0 w I [A0,A1,A2] R:=h.rV 3 rfl
theorem St.eF {A0 A1 A2 A3:SP} {w0 w:World} {I:HL} {L:List SP} {R:SP} (h:St w0 w I (A0::A1::A2::A3::L) R):St w0 w I [A0,A1,A2,A3] R:=h.rV 4 rfl
theorem St.oT {A0 A1 A2 A3 A4:SP} {w0 w:World} {I:HL} {L:List SP} {R:SP} (h:St w0 w I (A0::A1::A2::A3::A4::L) R):St w0 w I [A0,A1,A2,A3,A4] R:=h.rV 5 rfl
theorem St.km {A0 A1 A2 A3 A4 A5:SP} {w0 w:World} {I:HL} {L:List SP} {R:SP} (h:St w0 w I (A0::A1::A2::A3::A4::A5::L) R):St w0 w I [A0,A1,A2,A3,A4,A5] R:=h.rV 6 rfl
theorem St.ri {A0 A1 A2 A3 A4 A5 A6 A7 A8:SP} {w0 w:World} {I:HL} {L:List SP} {R:SP} (h:St w0 w I (A0::A1::A2::A3::A4::A5::A6::A7::A8::L) R):St w0 w I [A0,A1,A2,A3,A4,A5,A6,A7,A8] R:=h.rV 9 rfl
theorem St.ur {A0 A1 A2 A3 A4 A5 A6 A7 A8 A9:SP} {w0 w:World} {I:HL} {L:List SP} {R:SP} (h:St w0 w I (A0::A1::A2::A3::A4::A5::A6::A7::A8::A9::L) R):St w0 w I [A0,A1,A2,A3,A4,A5,A6,A7,A8,A9] R:=h.rV 10 rfl
theorem St.vi {A0 A1 A2 A3 A4 A5 A6 A7 A8 A9 A10:SP} {w0 w:World} {I:HL} {L:List SP} {R:SP} (h:St w0 w I (A0::A1::A2::A3::A4::A5::A6::A7::A8::A9::A10::L) R):St w0 w I [A0,A1,A2,A3,A4,A5,A6,A7,A8,A9,A10] R:=h.rV 11 rfl
theorem St.zO {A0 A1 A2 A3 A4 A5 A6 A7 A8 A9 A10 A11:SP} {w0 w:World} {I:HL} {L:List SP} {R:SP} (h:St w0 w I (A0::A1::A2::A3::A4::A5::A6::A7::A8::A9::A10::A11::L) R):St w0 w I [A0,A1,A2,A3,A4,A5,A6,A7,A8,A9,A10,A11] R:=h.rV 12 rfl
end Go.V
end
section
set_option linter.unusedVariables false
set_option linter.unusedSimpArgs false
namespace Go.V
open Go
section
variable {P:Program} {ops:Array Oper} {md:Region.Mode}
inductive Dep (md:Region.Mode) (ops:Array Oper):Nat→Nat→Prop
 | here {i:Nat} {o:Oper} {e:Edge} (ho:ops[i]?=some o) (he:e∈o.after) (hb:Region.binds md e=true):Dep md ops e.on i
 | more {u i:Nat} {o:Oper} {e:Edge} (ho:ops[i]?=some o) (he:e∈o.after) (hb:Region.binds md e=true) (h:Dep md ops u e.on):Dep md ops u i
def qa (md:Region.Mode):List Oper→List Nat→List Nat
 | [],acc=>acc
 | o::l,acc=>qa md l (acc++[o.after.toList.foldl (fun s e=>bif Region.binds md e then s ||| 2 ^ e.on ||| acc.getD e.on 0 else s) 0])
def bef (ms:List Nat) (u i:Nat):Bool:=Nat.testBit (ms.getD i 0) u
theorem zM (acc:List Nat) (es:List Edge):∀ (s u:Nat),Nat.testBit (es.foldl (fun s e=>bif Region.binds md e then s ||| 2 ^ e.on ||| acc.getD e.on 0 else s) s) u=true →
  Nat.testBit s u=true∨∃ e∈es,Region.binds md e=true∧(e.on=u∨Nat.testBit (acc.getD e.on 0) u=true):=by
 induction es with
 | nil=>intro s u h; exact .inl h
 | cons e es ih =>
  intro s u h
  rcases ih _ u h with h | ⟨e',he',hb,h⟩
  ·dsimp only at h
   cases hb:Region.binds md e with
   | false=>rw [hb] at h; exact .inl h
   | true =>
    rw [hb] at h
    simp only [cond_true,Nat.testBit_or,Bool.or_eq_true] at h
    rcases h with (h | h) | h
    ·exact .inl h
    ·rw [Nat.testBit_two_pow] at h
     exact .inr ⟨e,by simp,hb,.inl (by simpa using h)⟩
    ·exact .inr ⟨e,by simp,hb,.inr h⟩
  ·exact .inr ⟨e',by simp [he'],hb,h⟩
theorem yx (l:List Oper):∀ (k:Nat) (acc:List Nat),acc.length=k→(∀ j,l[j]?=ops[k+j]?)→(∀ i u,Nat.testBit (acc.getD i 0) u=true→Dep md ops u i) →
  ∀ i u,Nat.testBit ((qa md l acc).getD i 0) u=true→Dep md ops u i:=by
 induction l with
 | nil=>intro k acc _ _ h; exact h
 | cons o l ih =>
  intro k acc hk hl h
  have ho:ops[k]?=some o:=by simpa using (hl 0).symm
  refine ih (k+1) _ (by simp [hk]) (fun j=>by have:=hl (j+1); simpa [Nat.add_assoc,Nat.add_comm 1 j] using this) ?_
  intro i u hi
  rw [List.getD_eq_getElem?_getD] at hi
  by_cases e:i<acc.length
  ·rw [List.getElem?_append_left e,← List.getD_eq_getElem?_getD] at hi
   exact h i u hi
  ·rw [List.getElem?_append_right (by omega)] at hi
   by_cases e2:i=k
   ·subst e2
    simp only [hk,Nat.sub_self,List.getElem?_cons_zero,Option.getD_some] at hi
    rcases zM acc _ 0 u hi with h0 | ⟨ed,hed,hb,h1⟩
    ·simp at h0
    ·have hed':ed∈o.after:=by simpa using hed
     rcases h1 with rfl | h1
     ·exact .here ho hed' hb
     ·exact .more ho hed' hb (h _ _ h1)
   ·have : ∃ m,i - acc.length=m+1:=⟨i - acc.length - 1,by omega⟩
    obtain ⟨m,hm⟩:=this
    rw [hm] at hi
    simp at hi
theorem sI {u i:Nat} (h:bef (qa md ops.toList []) u i=true):Dep md ops u i :=
 yx (ops:=ops) ops.toList 0 [] rfl (by simp) (by simp) i u h
def ig (ops:Array Oper) (u:Nat):Option Tmp:=(ops[u]?).bind (·.dst)
def kg (ops:Array Oper) (a:Act):List (Nat×Value)→Act
 | []=>a
 | (u,v)::U=>(kg ops a U).put (ig ops u) v
def gE (P:Program) (ops:Array Oper) (C:World→Prop) (a:Act):List (Nat×Value)→Prop
 | []=>True
 | (u,v)::U=>(∃ o,ops[u]?=some o∧YieldsIn P ops C o v a)∧gE P ops C a U
theorem gE.get {C:World→Prop} {a:Act}:∀ {U:List (Nat×Value)},gE P ops C a U→∀ p∈U,∃ o,ops[p.1]?=some o∧YieldsIn P ops C o p.2 a
 | _::_,⟨h,k⟩,p,hp=>by
  rcases List.mem_cons.1 hp with rfl | hp
  ·exact h
  ·exact k.get p hp
def rdy (ms:List Nat) (items:List Nat):List Nat:=items.filter fun j=>items.all fun k=>!bef ms k j
def tak (ms wr:List Nat) (items:List Nat) (i:Nat):Option (List Nat):=bif (rdy ms items).contains i && !wr.contains i then some (items.erase i) else none
def wpS (P:Program) (ops:Array Oper) (ms wr:List Nat) (Q:Exit→Act→World→Prop):Nat→List Nat→List (Nat×Value)→Act→(World→Prop)→Prop
 | 0,_,_,a,C=>∀ w,C w→Q .normal a w
 | n+1,items,pend,a,C=>(∃ i rest,tak ms wr items i=some rest∧∃ o v,ops[i]?=some o∧YieldsIn P ops C o v a∧wpS P ops ms wr Q n rest ((i,v)::pend) (a.put o.dst v) C) ∨
   (∀ i∈rdy ms items,∃ o,ops[i]?=some o∧Region.wanted o (yielded ops a.tmps)=true∧∀ w,C w →
   o.wp P a w (fun a' w'=>∃ C':World→Prop,C' w'∧∃ pend',pend.filter (fun p=>!bef ms p.1 i)=pend'∧gE P ops C' a' pend'∧wpS P ops ms wr Q n (items.erase i) pend' a' C') (fun _ _ _=>False))
def wpE (P:Program) (ops:Array Oper) (ms wr:List Nat) (Q:Exit→Act→World→Prop) (n:Nat) (items:List Nat) (pend:List (Nat×Value)) (a:Act) (C:World→Prop):Prop :=
 ∀ i∈rdy ms items,∃ o,ops[i]?=some o∧Region.wanted o (yielded ops a.tmps)=true∧∀ w,C w →
   o.wp P a w (fun a' w'=>∃ C':World→Prop,C' w'∧∃ pend',pend.filter (fun p=>!bef ms p.1 i)=pend'∧gE P ops C' a' pend'∧wpS P ops ms wr Q n (items.erase i) pend' a' C') (fun _ _ _=>False)
def nJ (ops:Array Oper) (d:Option Tmp) (i:Nat):Bool:=match d,ops[i]? with
 | some d,some o=>(o.looksAt ops).contains d
 | _,_=>false
def chk (md:Region.Mode) (ops:Array Oper) (wr:List Nat):Bool :=
 let ms:=qa md ops.toList []
 Region.noSelect ops&&(List.range ops.size).all (fun i=>!nJ ops (ig ops i) i&&(List.range ops.size).all (fun j=>i==j||((match ig ops i,ig ops j with | some d,some e=>d !=e | _,_=>true)&&(!nJ ops (ig ops j) i||bef ms j i||(wr.contains j&&bef ms i j))))) &&
 (List.range ops.size).all (fun i=>match ops[i]? with | some o=>o.after.all (fun e=>!Region.binds md e||decide (e.on<i)) | none=>true)
theorem Act.sH {o:Oper} (hs:∀ cs b,o.op ≠ .select cs b) (a:Act) {i:Nat} (ho:ops[i]?=some o) (d:Option Tmp) (v:Value) (h:nJ ops d i=false) :
  execOp (a.put d v).eval o=execOp a.eval o∧Region.wanted o (yielded ops (a.put d v).tmps)=Region.wanted o (yielded ops a.tmps):=by
 have h':∀ e,d=some e→e∉o.looksAt ops:=fun e he hm=>by
  subst he
  simp only [nJ,ho] at h
  have : (o.looksAt ops).contains e=true:=List.contains_iff_mem.2 hm
  rw [this] at h; cases h
 exact ⟨execOp_put o hs a d v h',wanted_put o a d v h'⟩
theorem qZ {o:Oper} (hs:∀ cs b,o.op ≠ .select cs b) {i:Nat} (ho:ops[i]?=some o) (a:Act):∀ (U:List (Nat×Value)),(∀ p∈U,nJ ops (ig ops p.1) i=false) →
  execOp (kg ops a U).eval o=execOp a.eval o∧Region.wanted o (yielded ops (kg ops a U).tmps)=Region.wanted o (yielded ops a.tmps)
 | [],_=>⟨rfl,rfl⟩
 | (u,v)::U,h=>by
  have h1:=qZ hs ho a U (fun p hp=>h p (by simp [hp]))
  have h2:=Act.sH (ops:=ops) hs (kg ops a U) ho (ig ops u) v (h (u,v) (by simp))
  exact ⟨h2.1.trans h1.1,h2.2.trans h1.2⟩
theorem vV (a:Act) (d:Option Tmp) (v:Value):∀ (U:List (Nat×Value)),(∀ p∈U,∀ e,ig ops p.1=some e→d≠some e)→kg ops (a.put d v) U=(kg ops a U).put d v
 | [],_=>rfl
 | (u,x)::U,h=>by
  simp only [kg]
  rw [vV a d v U (fun p hp=>h p (by simp [hp]))]
  exact (Act.put_comm _ _ _ (fun e he=>h (u,x) (by simp) e he)).symm
theorem tZ (a:Act) (j:Nat) (v:Value):∀ (U:List (Nat×Value)),(j,v)∈U→(U.map (·.1)).Nodup→(∀ p∈U,p.1≠j→∀ e,ig ops p.1=some e→ig ops j≠some e) →
  kg ops a U=kg ops (a.put (ig ops j) v) (U.filter (fun p=>p.1 !=j))
 | (u,x)::U,hm,hn,hd=>by
  simp only [List.map_cons,List.nodup_cons] at hn
  by_cases e:u=j
  ·subst e
   have hx:x=v:=by
    rcases List.mem_cons.1 hm with h | h
    ·cases h; rfl
    ·exact absurd (List.mem_map.2 ⟨(u,v),h,rfl⟩) hn.1
   subst hx
   have hf:U.filter (fun p=>p.1 !=u)=U:=List.filter_eq_self.2 fun p hp=>by
    have : p.1≠u:=fun e=>hn.1 (List.mem_map.2 ⟨p,hp,e⟩)
    simpa using this
   simp only [List.filter_cons,bne_self_eq_false,Bool.false_eq_true,if_false,hf,kg]
   rw [vV a (ig ops u) x U (fun p hp e he=>hd p (by simp [hp]) (fun e=>hn.1 (List.mem_map.2 ⟨p,hp,e⟩)) e he)]
  ·have hm':(j,v)∈U:=by
    rcases List.mem_cons.1 hm with h | h
    ·cases h; exact absurd rfl e
    ·exact h
   have e':(u !=j)=true:=by simpa using e
   simp only [List.filter_cons,e',if_true,kg]
   rw [tZ a j v U hm' hn.2 (fun p hp=>hd p (by simp [hp]))]
theorem Oper.Ee {o:Oper} {a:Act} {w:World} {K:Act→World→Prop} {Q:Exit→Act→World→Prop} (h:o.wp P a w K (fun _ _ _=>False)):o.wp P a w K Q:=by
 unfold Oper.wp at *
 generalize (execOp a.eval o).run P w=r at *
 cases r with
 | ok n w' =>
  cases n <;> simp only [Oper.upon] at h ⊢ <;> try exact h
  exact Calls.mono h fun e w'' he=>by
   cases e with
   | returned v=>exact he
   | panicked c=>exact he.elim
   | outgrown=>obtain ⟨_,_,h⟩:=he; exact h.elim
 | halt x w'=>cases x <;> simp only [Oper.upon] at h ⊢
theorem Oper.Ch {o:Oper} (hs:∀ cs b,o.op ≠ .select cs b) {a:Act} {w:World} {K:Act→World→Prop} {d:Option Tmp} {v:Value} (hl:execOp (a.put d v).eval o=execOp a.eval o) (hd:∀ e,d=some e→o.dst≠some e)
  (h : o.wp P (a.put d v) w K (fun _ _ _=>False)):o.wp P a w (fun a' w'=>K (a'.put d v) w') (fun _ _ _=>False):=by
 unfold Oper.wp at *
 rw [hl] at h
 generalize (execOp a.eval o).run P w=r at *
 cases r with
 | ok n w' =>
  cases n <;> simp only [Oper.upon] at h ⊢
  case value u=>rw [← Act.put_comm a v u hd]; exact h
  case skip=>rw [← Act.put_comm a v undef hd]; exact h
  case defer x=>rw [← Act.put_comm _ v undef hd,← Act.put_defers]; exact h
  case enter f args =>
   refine Calls.mono h fun e w'' he=>?_
   cases e with
   | returned u=>simp only [] at he ⊢; rw [← Act.put_comm a v u hd]; exact he
   | panicked c=>exact he
   | outgrown=>exact he
  case row r args=>exact Rows.mono h fun u w'' he=>by rw [← Act.put_comm a v u hd]; exact he
 | halt x w'=>cases x <;> simp only [Oper.upon] at h ⊢
theorem Oper.uR {o:Oper} (hs:∀ cs b,o.op ≠ .select cs b) {i:Nat} (ho:ops[i]?=some o) {a:Act} {w:World}:∀ (U:List (Nat×Value)) {K:Act→World→Prop},(∀ p∈U,nJ ops (ig ops p.1) i=false)→(∀ p∈U,∀ e,ig ops p.1=some e→o.dst≠some e) →
  o.wp P (kg ops a U) w K (fun _ _ _=>False)→o.wp P a w (fun a' w'=>K (kg ops a' U) w') (fun _ _ _=>False)
 | [],K,_,_,h=>h
 | (u,v)::U,K,h1,h2,h=>by
  have h3:=Oper.Ch hs (Act.sH (ops:=ops) hs (kg ops a U) ho (ig ops u) v (h1 (u,v) (by simp))).1 (h2 (u,v) (by simp)) h
  exact Oper.uR hs ho U (fun p hp=>h1 p (by simp [hp])) (fun p hp=>h2 p (by simp [hp])) h3
structure zw (md:Region.Mode) (ops:Array Oper) (wr:List Nat):Prop where
 self : ∀ i,i<ops.size→nJ ops (ig ops i) i=false
 looks : ∀ i j,i<ops.size→j<ops.size→i≠j→nJ ops (ig ops j) i=true→bef (qa md ops.toList []) j i=true∨(j∈wr∧bef (qa md ops.toList []) i j=true)
 dsts : ∀ i j,i<ops.size→j<ops.size→i≠j→∀ e,ig ops i=some e→ig ops j≠some e
structure Inv (P:Program) (md:Region.Mode) (ops:Array Oper) (wr:List Nat) (Q:Exit→Act→World→Prop) (items:List Nat) (U pend:List (Nat×Value)) (a0:Act) (C:World→Prop) (listed:Array Bool):Prop where
 walk : wpS P ops (qa md ops.toList []) wr Q items.length items pend (kg ops a0 U) C
 mem : ∀ p∈U,p∈pend
 yields : ∀ p∈U,∃ o,ops[p.1]?=some o∧YieldsIn P ops C o p.2 (kg ops a0 U)
 nodup : (U.map (·.1)).Nodup
 inodup : items.Nodup
 left : ∀ j,j<ops.size→(listed.getD j true=false↔(j∈U.map (·.1)∨j∈items))
 lt : (∀ p∈U,p.1<ops.size)∧∀ p∈items,p<ops.size
 clear : ∀ p∈U,∀ j∈items,(nJ ops (ig ops j) p.1=true→j∈wr)∧j≠p.1
 nwr : ∀ p∈U,p.1∉wr
 size : listed.size=ops.size
 closed : ∀ x y,Dep md ops y x→listed.getD x false=true→listed.getD y false=true
theorem Eg {ms items:List Nat} {i:Nat} (h:i∈rdy ms items):i∈items∧∀ k∈items,bef ms k i=false:=by
 simp only [rdy,List.mem_filter,List.all_eq_true] at h
 exact ⟨h.1,fun k hk=>by simpa using h.2 k hk⟩
theorem DS {ms items:List Nat} {i:Nat} (h:i∈items) (hk:∀ k∈items,bef ms k i=false):i∈rdy ms items:=by
 simp only [rdy,List.mem_filter,List.all_eq_true]
 exact ⟨h,fun k h=>by simp [hk k h]⟩
theorem Dr {ms wr items rest:List Nat} {i:Nat} (h:tak ms wr items i=some rest):i∈items∧(∀ k∈items,bef ms k i=false)∧i∉wr∧rest=items.erase i:=by
 unfold tak at h
 cases hc:(rdy ms items).contains i with
 | false=>rw [hc] at h; cases h
 | true =>
  cases hw:wr.contains i with
  | true=>rw [hc,hw] at h; cases h
  | false =>
   rw [hc,hw] at h
   have := Eg (List.contains_iff_mem.1 hc)
   exact ⟨this.1,this.2,fun hm=>(by rw [List.contains_iff_mem.2 hm] at hw; cases hw),by cases h; rfl⟩
theorem rh {l:Array Bool} {j:Nat} (h:j<l.size):l.getD j true=l.getD j false:=by
 simp [Array.getD,h]
theorem Inv.adv {wr:List Nat} {Q:Exit→Act→World→Prop} (hp:zw md ops wr) (hsel:Region.noSelect ops=true):∀ (n:Nat) (items:List Nat) {U pend:List (Nat×Value)} {a0:Act} {C:World→Prop} {listed:Array Bool},items.length=n→Inv P md ops wr Q items U pend a0 C listed →
  ∃ items' U' pend',Inv P md ops wr Q items' U' pend' a0 C listed∧items'.length+U'.length=items.length+U.length∧(items'=[]∨∃ m,items'.length=m+1∧wpE P ops (qa md ops.toList []) wr Q m items' pend' (kg ops a0 U') C)
 | 0,items,U,pend,a0,C,listed,hn,h=>⟨items,U,pend,h,rfl,.inl (List.eq_nil_of_length_eq_zero hn)⟩
 | n+1,items,U,pend,a0,C,listed,hn,h=>by
  have hwk:=h.walk
  rw [hn] at hwk
  rcases hwk with ⟨i,rest,ht,o,v,ho,hy,hw⟩ | hE
  case inr=>exact ⟨items,U,pend,h,rfl,.inr ⟨n,hn,hE⟩⟩
  obtain ⟨hi,hbef,hiw,rfl⟩:=Dr ht
  have hilt:=h.lt.2 i hi
  have hso:=fun cs b=>Region.noSelect_spec hsel i o cs b ho
  have hdst:o.dst=ig ops i:=by simp [ig,ho]
  have hiU:i∉U.map (·.1):=by
   intro hm
   obtain ⟨p,hpU,e⟩:=List.mem_map.1 hm
   exact (h.clear p hpU i hi).2 e.symm
  have hlen:(items.erase i).length=n:=by rw [List.length_erase_of_mem hi]; omega
  have key:Inv P md ops wr Q (items.erase i) ((i,v)::U) ((i,v)::pend) a0 C listed:=by
   refine {walk:=by rw [hdst] at hw; rw [hlen]; exact hw,mem:=?_,yields:=?_,nodup:=by simp only [List.map_cons,List.nodup_cons]; exact ⟨hiU,h.nodup⟩,inodup:=h.inodup.erase i,left:=?_,lt:=?_,clear:=?_,nwr:=?_,size:=h.size,closed:=h.closed}
   ·intro p hp
    rcases List.mem_cons.1 hp with rfl | hp
    ·simp
    ·exact List.mem_cons_of_mem _ (h.mem p hp)
   ·intro p hpU
    rcases List.mem_cons.1 hpU with rfl | hpU
    ·obtain ⟨e1,e2⟩:=Act.sH (ops:=ops) hso (kg ops a0 U) ho (ig ops i) v (hp.self i hilt)
     exact ⟨o,ho,hy.of_same e1 e2⟩
    ·obtain ⟨op,hop,hyp⟩:=h.yields p hpU
     have hsp:=fun cs b=>Region.noSelect_spec hsel p.1 op cs b hop
     obtain ⟨e1,e2⟩:=Act.sH (ops:=ops) hsp (kg ops a0 U) hop (ig ops i) v (by cases hb:nJ ops (ig ops i) p.1 with | false=>rfl | true=>exact absurd ((h.clear p hpU i hi).1 hb) hiw)
     exact ⟨op,hop,hyp.of_same e1 e2⟩
   ·intro j hj
    rw [h.left j hj]
    simp only [List.map_cons,List.mem_cons,h.inodup.mem_erase_iff]
    constructor
    ·rintro (h1 | h1)
     ·exact .inl (.inr h1)
     ·by_cases e:j=i
      ·exact .inl (.inl e)
      ·exact .inr ⟨e,h1⟩
    ·rintro ((rfl | h1) | h1)
     ·exact .inr hi
     ·exact .inl h1
     ·exact .inr h1.2
   ·refine ⟨fun p hpU=>?_,fun p hpI=>h.lt.2 p (List.mem_of_mem_erase hpI)⟩
    rcases List.mem_cons.1 hpU with rfl | hpU
    ·exact hilt
    ·exact h.lt.1 p hpU
   ·intro p hpU j hj
    have hj':=h.inodup.mem_erase_iff.1 hj
    rcases List.mem_cons.1 hpU with rfl | hpU
    ·refine ⟨fun hl=>?_,hj'.1⟩
     rcases hp.looks i j hilt (h.lt.2 j hj'.2) (fun e=>hj'.1 e.symm) hl with hb | hb
     ·rw [hbef j hj'.2] at hb; cases hb
     ·exact hb.1
    ·exact h.clear p hpU j hj'.2
   ·intro p hpU
    rcases List.mem_cons.1 hpU with rfl | hpU
    ·exact hiw
    ·exact h.nwr p hpU
  obtain ⟨items',U',pend',h1,h2,h3⟩:=Inv.adv hp hsel n (items.erase i) hlen key
  exact ⟨items',U',pend',h1,by rw [h2,hlen,hn]; simp; omega,h3⟩
theorem vP {listed:Array Bool} {j:Nat} (hsz:listed.size=ops.size) (hj:j∈Region.ready md ops listed) (hc:∀ x y,Dep md ops y x→listed.getD x false=true→listed.getD y false=true) :
  ∀ x y,Dep md ops y x→(listed.setIfInBounds j true).getD x false=true→(listed.setIfInBounds j true).getD y false=true:=by
 intro x y hd hx
 by_cases e:j=x
 ·subst e
  obtain ⟨_,o,ho,hall⟩:=mem_ready.1 hj
  cases hd with
  | here ho' he hb=>rw [ho] at ho'; cases ho'; exact getD_set_true (hall _ he hb)
  | more ho' he hb h=>rw [ho] at ho'; cases ho'; exact getD_set_true (hc _ _ h (hall _ he hb))
 ·rw [getD_set_ne false e] at hx
  exact getD_set_true (hc x y hd hx)
theorem zF {listed:Array Bool} {j u:Nat} (hj:j∈Region.ready md ops listed) (hc:∀ x y,Dep md ops y x→listed.getD x false=true→listed.getD y false=true) (hd:Dep md ops u j):listed.getD u false=true:=by
 obtain ⟨_,o,ho,hall⟩:=mem_ready.1 hj
 cases hd with
 | here ho' he hb=>rw [ho] at ho'; cases ho'; exact hall _ he hb
 | more ho' he hb h=>rw [ho] at ho'; cases ho'; exact hc _ _ h (hall _ he hb)
theorem vo {listed:Array Bool} (hlex:∀ (i:Nat) (o:Oper),ops[i]?=some o→∀ e∈o.after,Region.binds md e=true→e.on<i) (hsz:listed.size=ops.size):∀ (n j:Nat),j≤n→j<ops.size→listed.getD j true=false→Region.ready md ops listed≠[]
 | n,j,hn,hj,hu=>by
  by_cases h:∃ k,k<j∧listed.getD k true=false
  ·obtain ⟨k,hk,hku⟩:=h
   cases n with
   | zero=>omega
   | succ n=>exact vo hlex hsz n k (by omega) (by omega) hku
  ·intro hr
   have : j∈Region.ready md ops listed:=by
    refine mem_ready.2 ⟨hu,ops[j],Array.getElem?_eq_getElem hj,fun e he hb=>?_⟩
    have hlt:=hlex j _ (Array.getElem?_eq_getElem hj) e he hb
    cases hg:listed.getD e.on true with
    | false=>exact absurd ⟨_,hlt,hg⟩ h
    | true=>rw [← rh (by omega)]; exact hg
   rw [hr] at this; cases this
theorem zy {wr:List Nat} {Q:Exit→Act→World→Prop} (hp:zw md ops wr) (hsel:Region.noSelect ops=true) (hlex:∀ (i:Nat) (o:Oper),ops[i]?=some o→∀ e∈o.after,Region.binds md e=true→e.on<i):∀ (fuel:Nat) (items:List Nat) (U pend:List (Nat×Value)) (a0:Act) (C:World→Prop) (listed:Array Bool) (w:World),
  Inv P md ops wr Q items U pend a0 C listed→C w→items.length+U.length≤fuel→wpAny P md ops Q fuel listed a0 w:=by
 intro fuel
 induction fuel with
 | zero =>
  intro items U pend a0 C listed w h hw hl
  have hi:items=[]:=List.eq_nil_of_length_eq_zero (by omega)
  have hU:U=[]:=List.eq_nil_of_length_eq_zero (by omega)
  subst hi; subst hU
  refine ⟨?_,h.walk w hw⟩
  cases hr:Region.ready md ops listed with
  | nil=>rfl
  | cons j l =>
   have hj:j∈Region.ready md ops listed:=by rw [hr]; simp
   obtain ⟨hu,o,ho,_⟩:=mem_ready.1 hj
   have := (h.left j (Array.getElem?_eq_some_iff.1 ho).1).1 hu
   simp at this
 | succ fuel ih =>
  intro items U pend a0 C listed w h0 hw hl
  obtain ⟨items',U',pend',h,hlen,hhead⟩:=Inv.adv hp hsel items.length items rfl h0
  rw [← hlen] at hl
  clear h0 hlen
  refine ⟨fun hr=>?_,fun j hj=>?_⟩
  · -- nothing is left
   have hnone:∀ j,j<ops.size→listed.getD j true≠false:=fun j hj hu=>vo hlex h.size j j (Nat.le_refl _) hj hu hr
   have hi:items'=[]:=by
    cases items' with
    | nil=>rfl
    | cons p r=>exact absurd ((h.left p (h.lt.2 p (by simp))).2 (.inr (by simp))) (hnone _ (h.lt.2 p (by simp)))
   have hU:U'=[]:=by
    cases U' with
    | nil=>rfl
    | cons p r=>exact absurd ((h.left p.1 (h.lt.1 p (by simp))).2 (.inl (by simp))) (hnone _ (h.lt.1 p (by simp)))
   subst hi; subst hU
   exact h.walk w hw
  ·obtain ⟨hun,oj,hoj,hall⟩:=mem_ready.1 hj
   have hjlt:=(Array.getElem?_eq_some_iff.1 hoj).1
   have hsj:=fun cs b=>Region.noSelect_spec hsel j oj cs b hoj
   have unl:∀ u,u<ops.size→listed.getD u true=false→¬ Dep md ops u j:=fun u hu hun' hd=>by
    have := zF hj h.closed hd
    rw [← rh (by rw [h.size]; exact hu),hun'] at this; cases this
   have hUunl:∀ p∈U',listed.getD p.1 true=false:=fun p hp=>(h.left p.1 (h.lt.1 p hp)).2 (.inl (List.mem_map.2 ⟨p,hp,rfl⟩))
   have left':∀ (V:List (Nat×Value)) (r:List Nat),(∀ k,k<ops.size→k≠j→((k∈U'.map (·.1)∨k∈items')↔(k∈V.map (·.1)∨k∈r)))→(¬ (j∈V.map (·.1)∨j∈r)) →
     ∀ k,k<ops.size→((listed.setIfInBounds j true).getD k true=false↔(k∈V.map (·.1)∨k∈r)):=by
    intro V r h1 h2 k hk
    by_cases e:j=k
    ·subst e
     have : (listed.setIfInBounds j true).getD j true=true:=by simp [h.size,hjlt]
     rw [this]
     exact ⟨fun h=>(by cases h),fun h=>absurd h h2⟩
    ·rw [getD_set_ne true e,h.left k hk]
     exact h1 k hk (fun e'=>e e'.symm)
   rcases (h.left j hjlt).1 hun with hjU | hjI
   · -- it was walked already
    obtain ⟨⟨j',v⟩,hpU,rfl⟩:=List.mem_map.1 hjU
    obtain ⟨o,ho,hy⟩:=h.yields (j',v) hpU
    simp only at ho hy hoj hjlt hsj unl hj left' hun hall hjU ⊢
    rw [hoj] at ho; cases ho
    have hno:∀ p∈U',nJ ops (ig ops p.1) j'=false:=fun p hp'=>by
     cases hb:nJ ops (ig ops p.1) j' with
     | false=>rfl
     | true =>
      by_cases e:p.1=j'
      ·rw [e] at hb; rw [hp.self j' hjlt] at hb; cases hb
      ·exact absurd (sI ((hp.looks j' p.1 hjlt (h.lt.1 p hp') (fun e'=>e e'.symm) hb).resolve_right fun hw=>h.nwr p hp' hw.1)) (unl p.1 (h.lt.1 p hp') (hUunl p hp'))
    obtain ⟨e1,e2⟩:=qZ hsj hoj a0 U' hno
    have hy0:YieldsIn P ops C oj v a0:=hy.of_same e1.symm e2.symm
    have hdst:oj.dst=ig ops j':=by simp [ig,hoj]
    have her:=tZ (ops:=ops) a0 j' v U' hpU h.nodup (fun p hp' hne e he=>hp.dsts p.1 j' (h.lt.1 p hp') hjlt hne e he)
    have hlenU:(U'.filter (fun p=>p.1 !=j')).length<U'.length:=by
     refine List.length_filter_lt_length_iff_exists.2 ⟨(j',v),hpU,by simp⟩
    refine wpOp_of_qOp (K:=fun a=>∀ w',C w'→wpAny P md ops Q fuel (listed.setIfInBounds j' true) a w') hw (fun a w' hw' hk=>hk w' hw') (hy0.qOp hoj ?_)
    intro w' hw'
    refine ih items' (U'.filter (fun p=>p.1 !=j')) pend' (a0.put oj.dst v) C _ w' ?_ hw' (by omega)
    rw [hdst]
    refine {walk:=her ▸ h.walk,mem:=fun p hp'=>h.mem p (List.mem_filter.1 hp').1,yields:=fun p hp'=>?_,nodup:=?_,inodup:=h.inodup,left:=?_,lt:=⟨fun p hp'=>h.lt.1 p (List.mem_filter.1 hp').1,h.lt.2⟩,clear:=fun p hp'=>h.clear p (List.mem_filter.1 hp').1,nwr:=fun p hp'=>h.nwr p (List.mem_filter.1 hp').1,size:=by simpa using h.size,closed:=vP h.size hj h.closed}
    ·rw [← her]; exact h.yields p (List.mem_filter.1 hp').1
    ·exact h.nodup.sublist (List.filter_sublist.map _)
    ·refine left' _ _ (fun k hk hne=>?_) ?_
     ·simp only [List.mem_map,List.mem_filter]
      constructor
      ·rintro (⟨p,hp',rfl⟩ | h1)
       ·exact .inl ⟨p,⟨hp',by simpa using hne⟩,rfl⟩
       ·exact .inr h1
      ·rintro (⟨p,⟨hp',_⟩,rfl⟩ | h1)
       ·exact .inl ⟨p,hp',rfl⟩
       ·exact .inr h1
     ·rintro (h1 | h1)
      ·obtain ⟨p,hp',e⟩:=List.mem_map.1 h1
       have := (List.mem_filter.1 hp').2
       simp [e] at this
      ·exact (h.clear (j',v) hpU j' h1).2 rfl
   · -- it acts
    rcases hhead with rfl | ⟨m,hm,hE⟩
    ·simp at hjI
    ·have hrd:j∈rdy (qa md ops.toList []) items':=DS hjI fun k hk=>by
      cases hb:bef (qa md ops.toList []) k j with
      | false=>rfl
      | true=>exact absurd (sI hb) (unl k (h.lt.2 k hk) ((h.left k (h.lt.2 k hk)).2 (.inr hk)))
     obtain ⟨o,ho,hwant,hwp⟩:=hE j hrd
     rw [hoj] at ho; cases ho
     have hlen:(items'.erase j).length=m:=by rw [List.length_erase_of_mem hjI]; omega
     have hnoD:∀ p∈U',¬ Dep md ops p.1 j:=fun p hp=>unl p.1 (h.lt.1 p hp) (hUunl p hp)
     have hneU:∀ p∈U',p.1≠j:=fun p hpU e=>(h.clear p hpU j hjI).2 e.symm
     have hno:∀ p∈U',nJ ops (ig ops p.1) j=false:=fun p hpU=>by
      cases hb:nJ ops (ig ops p.1) j with
      | false=>rfl
      | true=>exact absurd (sI ((hp.looks j p.1 hjlt (h.lt.1 p hpU) (fun e=>hneU p hpU e.symm) hb).resolve_right fun hw=>h.nwr p hpU hw.1)) (hnoD p hpU)
     have hdst:oj.dst=ig ops j:=by simp [ig,hoj]
     have hnd:∀ p∈U',∀ e,ig ops p.1=some e→oj.dst≠some e:=fun p hpU e he=>by rw [hdst]; exact hp.dsts p.1 j (h.lt.1 p hpU) hjlt (hneU p hpU) e he
     have h1:=Oper.uR hsj hoj U' hno hnd (hwp w hw)
     have h2:=Oper.Ee (Q:=Q) h1
     have hw0:Region.wanted oj (yielded ops a0.tmps)=true:=by rw [← (qZ hsj hoj a0 U' hno).2]; exact hwant
     unfold wpOp
     simp only [hoj,hw0,if_true]
     refine .inl (Oper.wp_mono (fun a' w' hk=>?_) h2)
     obtain ⟨C',hC',pend2,hpend,hok,hwalk⟩:=hk
     refine ih (items'.erase j) U' pend2 a' C' _ w' ?_ hC' (by omega)
     have hmem:∀ p∈U',p∈pend2:=fun p hpU=>by
      rw [← hpend]
      refine List.mem_filter.2 ⟨h.mem p hpU,?_⟩
      cases hb:bef (qa md ops.toList []) p.1 j with
      | false=>rfl
      | true=>exact absurd (sI hb) (hnoD p hpU)
     refine {walk:=by rw [hlen]; exact hwalk,mem:=hmem,yields:=fun p hp=>hok.get p (hmem p hp),nodup:=h.nodup,inodup:=h.inodup.erase j,left:=?_,lt:=⟨h.lt.1,fun p hp=>h.lt.2 p (List.mem_of_mem_erase hp)⟩,clear:=fun p hp q hq=>h.clear p hp q (List.mem_of_mem_erase hq),nwr:=h.nwr,size:=by simpa using h.size,closed:=vP h.size hj h.closed}
     refine left' _ _ (fun k hk hne=>?_) ?_
     ·rw [h.inodup.mem_erase_iff]
      constructor
      ·rintro (h1 | h1)
       ·exact .inl h1
       ·exact .inr ⟨hne,h1⟩
      ·rintro (h1 | h1)
       ·exact .inl h1
       ·exact .inr h1.2
     ·rintro (h1 | h1)
      ·obtain ⟨p,hpU,e⟩:=List.mem_map.1 h1
       exact hneU p hpU e
      ·exact (h.inodup.mem_erase_iff.1 h1).1 rfl
theorem yO {id:Nat} {l:List Oper} {a:Act} {w:World} {Q:Exit→Act→World→Prop} (wr:List Nat) (hm:P.follows .mixedOrders=true) (hc:chk .any l.toArray wr=true) (C:World→Prop) (hC:C {w with drawn:=w.drawn+1})
  (h : wpS P l.toArray (qa .any l []) wr Q l.length (List.range l.length) [] a C):(Code.region id l.toArray true).wp P Q a w:=by
 simp only [chk,Bool.and_eq_true,List.all_eq_true,List.mem_range] at hc
 obtain ⟨⟨c1,c2⟩,c3⟩:=hc
 have hlex:∀ (i:Nat) (o:Oper),l.toArray[i]?=some o→∀ e∈o.after,Region.binds .any e=true→e.on<i:=fun i o ho e he hb=>by
  have := c3 i (Array.getElem?_eq_some_iff.1 ho).1
  rw [ho] at this
  simp only [Array.all_eq_true_iff_forall_mem] at this
  simpa [hb] using this e he
 have hp:zw .any l.toArray wr:=by
  refine {self:=fun i hi=>by simpa using (c2 i hi).1,looks:=fun i j hi hj hne hl=>?_,dsts:=fun i j hi hj hne e he hc=>?_}
  ·have := (c2 i hi).2 j hj
   simp only [Bool.or_eq_true,beq_iff_eq,Bool.and_eq_true] at this
   rcases this with e | ⟨_,h2⟩
   ·exact absurd e hne
   ·simpa [hl] using h2
  ·have := (c2 i hi).2 j hj
   simp only [Bool.or_eq_true,beq_iff_eq,Bool.and_eq_true] at this
   rcases this with e | ⟨h1,_⟩
   ·exact absurd e hne
   ·rw [he,hc] at h1
    simp at h1
 refine wp_region_any hm (zy hp c1 hlex l.toArray.size (List.range l.length) [] [] a C _ _ ?_ hC (by simp))
 refine {walk:=by simpa [kg] using h,mem:=by simp,yields:=by simp,nodup:=by simp,inodup:=List.nodup_range,left:=?l,lt:=⟨by simp,fun p hp=>by simpa using hp⟩,clear:=by simp,nwr:=by simp,size:=by simp,closed:=fun x y _ hx=>?c}
 case l =>
  intro j hj
  have hj':j<l.length:=by simpa using hj
  have h1:(Array.replicate l.toArray.size false).getD j true=false:=by simp [hj']
  rw [h1]
  exact ⟨fun _=>Or.inr (by simpa using hj'),fun _=>rfl⟩
 case c =>
  exfalso
  by_cases hx2:x<l.length <;> simp [hx2] at hx
end
section
variable {P:Program} {l:List Oper} {ms wr:List Nat} {Q:Exit→Act→World→Prop} {items rest:List Nat} {pend pend':List (Nat×Value)} {N n:Nat} {σ:Nat→Value} {i d:Nat} {o:Oper} {v:Value} {C:World→Prop}
theorem zQ (h:l[i]?=some o):l.toArray[i]?=some o:=by simpa using h
theorem cT (hw:Region.wanted o (yielded l.toArray (Fr N σ).tmps)=true) (h:∀ w,C w→(execOp (ev N σ) o).run P w = .ok (.value v) w):YieldsIn P l.toArray C o v (Fr N σ):=by
 refine .inl ⟨hw,fun w hC=>?_⟩
 unfold Oper.quietAt
 rw [nF,h w hC]
 exact ⟨rfl,rfl⟩
theorem zo (hw:Region.wanted o (yielded l.toArray (Fr N σ).tmps)=false):YieldsIn P l.toArray C o undef (Fr N σ):=.inr ⟨hw,rfl⟩
theorem wH (i:Nat) (rest:List Nat) (ht:tak ms wr items i=some rest) (ho:l[i]?=some o) (hd:o.dst=some d) (hy:YieldsIn P l.toArray C o v (Fr N σ)) (h:wpS P l.toArray ms wr Q n rest ((i,v)::pend) (Fr N (upd σ d v)) C) :
  wpS P l.toArray ms wr Q (n+1) items pend (Fr N σ) C:=.inl ⟨i,rest,ht,o,v,zQ ho,hy,by rw [hd,rO]; exact h⟩
theorem bi (h:∀ w,C w→Q .normal (Fr N σ) w):wpS P l.toArray ms wr Q 0 items pend (Fr N σ) C:=h
def Nx (P:Program) (l:List Oper) (ms wr:List Nat) (Q:Exit→Act→World→Prop) (i n:Nat) (rest:List Nat) (pend:List (Nat×Value)) (a':Act) (w':World):Prop :=
 ∃ C':World→Prop,C' w'∧∃ pend',pend.filter (fun p=>!bef ms p.1 i)=pend'∧gE P l.toArray C' a' pend'∧wpS P l.toArray ms wr Q n rest pend' a' C'
def NxE (P:Program) (l:List Oper) (ms wr:List Nat) (Q:Exit→Act→World→Prop) (n:Nat) (items:List Nat) (pend:List (Nat×Value)) (a:Act) (C:World→Prop) (i:Nat):Prop :=
 ∃ o,l.toArray[i]?=some o∧Region.wanted o (yielded l.toArray a.tmps)=true∧∀ w,C w→o.wp P a w (Nx P l ms wr Q i n (items.erase i) pend) (fun _ _ _=>False)
theorem nxe (rest:List Nat) (he:items.erase i=rest) (ho:l[i]?=some o) (hw:Region.wanted o (yielded l.toArray (Fr N σ).tmps)=true) (h:∀ w,C w→o.wp P (Fr N σ) w (Nx P l ms wr Q i n rest pend) (fun _ _ _=>False)) :
  NxE P l ms wr Q n items pend (Fr N σ) C i:=⟨o,zQ ho,hw,by rw [he]; exact h⟩
theorem qT {c:Code} {a:Act} {w:World} (K:Act→World→Prop) (h:c.wp P (fun e a w=>e = .normal∧K a w) a w) (h2:∀ a w,K a w→Q .normal a w):c.wp P Q a w :=
 Code.wp_mono (fun e a w q=>by obtain ⟨rfl,q⟩:=q; exact h2 a w q) h
theorem ia (i:Nat) (hr:rdy ms items=[i]) (h:NxE P l ms wr Q n items pend (Fr N σ) C i):wpS P l.toArray ms wr Q (n+1) items pend (Fr N σ) C :=
 .inr fun j hj=>by rw [hr] at hj; cases List.mem_singleton.1 hj; exact h
theorem pC (i j:Nat) (hr:rdy ms items=[i,j]) (h:NxE P l ms wr Q n items pend (Fr N σ) C i) (h2:NxE P l ms wr Q n items pend (Fr N σ) C j):wpS P l.toArray ms wr Q (n+1) items pend (Fr N σ) C :=
 .inr fun k hk=>by
  rw [hr] at hk
  rcases List.mem_cons.1 hk with rfl | hk
  ·exact h
  ·cases List.mem_singleton.1 hk; exact h2
variable {w w':World} {K:Act→World→Prop}
theorem bS (hd:o.dst=some d) (h:(execOp (ev N σ) o).run P w = .ok (.value v) w') (k:K (Fr N (upd σ d v)) w'):o.wp P (Fr N σ) w K (fun _ _ _=>False):=by
 unfold Oper.wp
 rw [nF,h,Oper.upon_value,hd,rO]
 exact k
theorem qf (hd:o.dst=none) (h:(execOp (ev N σ) o).run P w = .ok .skip w') (k:K (Fr N σ) w'):o.wp P (Fr N σ) w K (fun _ _ _=>False):=by
 unfold Oper.wp
 rw [nF,h,Oper.upon_skip,hd]
 exact k
theorem ox {f:FuncId} {args:Array Value} (hd:o.dst=some d) (h:(execOp (ev N σ) o).run P w = .ok (.enter f args) w)
  (k : Calls P f args w fun e w'=>∃ v,e = .returned v∧K (Fr N (upd σ d v)) w'):o.wp P (Fr N σ) w K (fun _ _ _=>False):=by
 unfold Oper.wp
 rw [nF,h,Oper.upon_enter]
 refine k.mono fun e w' he=>?_
 obtain ⟨v,rfl,hk⟩:=he
 simp only [hd,rO]
 exact hk
theorem AJ {w0:World} {I:HL} {L:List SP} {R:SP} {a':Act} (hst:St w0 w' I L R) (hf:pend.filter (fun p=>!bef ms p.1 i)=pend') (hp:gE P l.toArray (fun w=>St w0 w I L R) a' pend')
  (h : wpS P l.toArray ms wr Q n rest pend' a' (fun w=>St w0 w I L R)):Nx P l ms wr Q i n rest pend a' w':=⟨_,hst,pend',hf,hp,h⟩
theorem bu {a:Act}:gE P l.toArray C a []:=trivial
theorem cX {U:List (Nat×Value)} (ho:l[i]?=some o) (hy:YieldsIn P l.toArray C o v (Fr N σ)) (h:gE P l.toArray C (Fr N σ) U):gE P l.toArray C (Fr N σ) ((i,v)::U):=⟨⟨o,zQ ho,hy⟩,h⟩
theorem xQ {id:Nat} {w0:World} {I:HL} {L:List SP} {R:SP} (hst:St w0 w I L R) (n:Nat) (items ms wr:List Nat) (hn:l.length=n) (hi:List.range n=items) (hs:qa .any l []=ms) (hm:P.follows .mixedOrders=true) (hc:chk .any l.toArray wr=true)
  (h : wpS P l.toArray ms wr Q n items [] (Fr N σ) (fun w=>St w0 w I L R)):(Code.region id l.toArray true).wp P Q (Fr N σ) w :=
 yO wr hm hc _ (hst.drawn _) (by subst hn; subst hi; subst hs; exact h)
end
theorem tn {w:World} {Q:Exit→Act→World→Prop} {K:Act→World→Prop} {a:Act} (h:K a w):Exit.then K Q .normal a w:=EO h
theorem wrl {P:Program} {Q:Exit→Act→World→Prop} {a:Act} {w:World} {id:Nat} {l:List Oper} (h:wpList P l.toArray Q l a w):(Code.region id l.toArray false).wp P Q a w:=wp_region_lit h
section
variable {P:Program} {ops:Array Oper} {Q:Exit→Act→World→Prop} {more:List Oper} {N d:Nat} {σ:Nat→Value} {w:World} {K:Act→World→Prop}
theorem wc {f:FuncId} {args:List Operand} {ats:Array TypeId} {ty:TypeId} {ps af g} (hc:∀ (args:Array Value) (w:World),(callFunc f args).run P w = .ok (.enter f args) w) (vs:List Value) (hf:ev N σ (.func f) = .func (.func f) #[] #[]) (ha:args.map (ev N σ)=vs)
  (hw : Region.wanted ⟨some d,.call {callee:=.value (.func f),args:=args.toArray,argTypes:=ats},ty,ps,af,g⟩ (yielded ops (Fr N σ).tmps)=true)
  (k : Calls P f vs.toArray w fun e w'=>∃ v,e = .returned v∧wpList P ops Q more (Fr N (upd σ d v)) w') :
  wpList P ops Q (⟨some d,.call {callee:=.value (.func f),args:=args.toArray,argTypes:=ats},ty,ps,af,g⟩::more) (Fr N σ) w:=de hw rfl (js hc hf ha) k
theorem wec {f:FuncId} {args:List Operand} {ats:Array TypeId} {ty:TypeId} {ps af g} (hc:∀ (args:Array Value) (w:World),(callFunc f args).run P w = .ok (.enter f args) w) (vs:List Value) (hf:ev N σ (.func f) = .func (.func f) #[] #[]) (ha:args.map (ev N σ)=vs)
  (k : Calls P f vs.toArray w fun e w'=>∃ v,e = .returned v∧K (Fr N (upd σ d v)) w') :
  Oper.wp P ⟨some d,.call {callee:=.value (.func f),args:=args.toArray,argTypes:=ats},ty,ps,af,g⟩ (Fr N σ) w K (fun _ _ _=>False):=ox rfl (js hc hf ha) k
end
theorem z {α:Type} {a:α}:a=a:=rfl
theorem cvb {a b:Bool} (h:a=b):Value.bool a=Value.bool b:=congrArg _ h
theorem fu {N:Nat} {σ:Nat→Value} {a:Act} (t:Nat) (v:Value) (h:σ t=v) (k:Fr N (upd σ t v)=a):Fr N σ=a:=(Fo h).trans k
theorem oC {v:Value} {vs:List Value} (h:v.oneCell'=true) (hs:∀ x∈vs,x.oneCell'=true):∀ x∈v::vs,x.oneCell'=true:=bL h hs
theorem oN:∀ x∈([]:List Value),x.oneCell'=true:=jL
abbrev U6 (n:Int):Value:=.int .u64 n
abbrev I6 (n:Int):Value:=.int .i64 n
abbrev U1 (n:Int):Value:=.int .u8 n
abbrev F6 (n:Nat):Value:=.float .f64 n
abbrev Zu:Value:=.int .u64 0
abbrev Zi:Value:=.int .i64 0
abbrev Zb:Value:=.int .u8 0
abbrev Zf:Value:=.float .f64 0
abbrev Zs:Value:=.slice none 0 0
abbrev Pt (b o:Nat):Value:=.pointer (some ⟨b,o,none⟩)
section
variable {P:Program} {ops:Array Oper} {Q:Exit→Act→World→Prop} {more:List Oper} {N d j t:Nat} {σ:Nat→Value} {o:Oper} {w:World} {b B want:Bool}
theorem wv (v:Value) (hw:Region.wanted o (yielded ops (Fr N σ).tmps)=true) (hd:o.dst=some d) (h:(execOp (ev N σ) o).run P w = .ok (.value v) w) (k:wpList P ops Q more (Fr N (upd σ d v)) w) :
  wpList P ops Q (o::more) (Fr N σ) w:=ER hw hd h k
theorem wz (hg:o.guard=some (j,want)) (hj:(ops[j]?).bind (·.dst)=some t) (ht:Nat.blt t N=true) (hv:σ t = .bool b) (hn:(b==want)=false) (hd:o.dst=some d) (k:wpList P ops Q more (Fr N (upd σ d undef)) w) :
  wpList P ops Q (o::more) (Fr N σ) w:=xR ((ar hg hj ht hv).trans hn) hd k
end
section
variable {P:Program} {l:List Oper} {ms wr:List Nat} {Q:Exit→Act→World→Prop} {items:List Nat} {pend:List (Nat×Value)} {N n d:Nat} {σ:Nat→Value} {o:Oper} {v:Value} {C:World→Prop}
theorem wsr (v:Value) (i:Nat) (ho:l[i]?=some o) (hd:o.dst=some d) (hw:Region.wanted o (yielded l.toArray (Fr N σ).tmps)=true) (ht:tak ms wr items i=some (items.erase i)) (h:∀ w,C w→(execOp (ev N σ) o).run P w = .ok (.value v) w) (k:wpS P l.toArray ms wr Q n (items.erase i) ((i,v)::pend) (Fr N (upd σ d v)) C) :
  wpS P l.toArray ms wr Q (n+1) items pend (Fr N σ) C:=wH i _ ht ho hd (cT hw h) k
theorem pkr {i:Nat} {U:List (Nat×Value)} (ho:l[i]?=some o) (hw:Region.wanted o (yielded l.toArray (Fr N σ).tmps)=true) (h:∀ w,C w→(execOp (ev N σ) o).run P w = .ok (.value v) w) (k:gE P l.toArray C (Fr N σ) U) :
  gE P l.toArray C (Fr N σ) ((i,v)::U):=cX ho (cT hw h) k
end
end Go.V
end
section
set_option linter.unusedVariables false
set_option linter.unusedSimpArgs false
namespace Go.V
open Go
def dh (sz:Nat) (v:Value) (l h:Nat):Value:=match v with
 | .slice a n cap=>.slice (if cap=l then a else a.map (·.add (l*sz))) (h - l) (cap - l)
 | v=>v
def nc {α:Type} (xs:List α) (l h:Int):List α:=(xs.take h.toNat).drop l.toNat
section
variable {sz l h:Nat} {css:List (List Value)} {I:HL} {R:SP} {v:Value} {w0 w:World} {L:List SP}
theorem wU (hl:∀ cs∈css,cs.length=sz) (h1:l≤css.length) {k:Nat} {x:Value} (hk:((css.take h).drop l).flatten[k]?=some x):css.flatten[l*sz+k]?=some x:=by
 have e:css.flatten=(css.take l).flatten++(css.drop l).flatten:=by rw [← List.flatten_append,List.take_append_drop]
 have e2:(css.take l).flatten.length=l*sz:=by
  rw [jG (sz:=sz) fun cs hc=>hl cs (List.mem_of_mem_take hc),List.length_take,Nat.min_eq_left h1]
 rw [List.drop_take] at hk
 have e3:(css.drop l).flatten=((css.drop l).take (h - l)).flatten++((css.drop l).drop (h - l)).flatten:=by rw [← List.flatten_append,List.take_append_drop]
 rw [e,e3,List.getElem?_append_right (by omega),e2,Nat.add_sub_cancel_left,List.getElem?_append_left (List.getElem?_eq_some_iff.1 hk).1]
 exact hk
theorem nq (h1:l≤h) (h2:h≤css.length):((css.take h).drop l).length=h - l:=by simp; omega
theorem wg {cs:List Value} (hc:cs∈(css.take h).drop l):cs∈css:=List.mem_of_mem_take (List.mem_of_mem_drop hc)
theorem Ak (h1:l≤h) (h2:h≤css.length) (hne:(css.take h).drop l≠[]):l<h:=by
 rcases Nat.lt_or_ge l h with e | e
 ·exact e
 ·exact absurd (List.eq_nil_of_length_eq_zero (by rw [nq h1 h2]; omega)) hne
theorem dU.part (hr:dU I sz v css) (h1:l≤h) (h2:h≤css.length):dU I sz (dh sz v l h) ((css.take h).drop l):=by
 obtain ⟨g1,a,cap,rfl,g3,g4⟩:=hr
 refine ⟨fun cs hc=>g1 cs (wg hc),if cap=l then a else a.map (·.add (l*sz)),cap - l,by rw [nq h1 h2]; rfl,by rw [nq h1 h2]; omega,fun hne=>?_⟩
 have hlt:=Ak h1 h2 hne
 obtain ⟨b,off,c,E,fr,rfl,h5,h6⟩:=g4 (fun e=>by subst e; simp at h2; omega)
 refine ⟨b,off+l*sz,c,E,fr,?_,h5,fun k x hk=>?_⟩
 ·rw [if_neg (by omega),Option.map_some,eT]
 ·have := h6 _ _ (wU g1 (by omega) hk)
  rwa [← Nat.add_assoc] at this
theorem ie.part (hr:ie R I sz v css) (h1:l≤h) (h2:h≤css.length):ie R I sz (dh sz v l h) ((css.take h).drop l):=by
 obtain ⟨g1,a,cap,rfl,g3,g4⟩:=hr
 refine ⟨fun cs hc=>g1 cs (wg hc),if cap=l then a else a.map (·.add (l*sz)),cap - l,by rw [nq h1 h2]; rfl,by rw [nq h1 h2]; omega,fun hne=>?_⟩
 have hlt:=Ak h1 h2 hne
 obtain ⟨b,off,rfl,h5⟩:=g4 (fun e=>by subst e; simp at h2; omega)
 refine ⟨b,off+l*sz,?_,fun w0 w I' L hI hst k x hk=>?_⟩
 ·rw [if_neg (by omega),Option.map_some,eT]
 ·have := h5 w0 w I' L hI hst _ _ (wU g1 (by omega) hk)
  rwa [← Nat.add_assoc] at this
theorem St.gY (hst:St w0 w I (row sz v css::L) R) (h1:l≤h) (h2:h≤css.length):St w0 w I (row sz (dh sz v l h) ((css.take h).drop l)::L) R:=by
 refine hst.impl fun k hk=>?_
 rcases hk with ⟨a,rfl,rfl⟩ | ⟨b,off,cap,pre,junk,rfl,g1,g2,g3,g4,g5⟩
 ·simp at h2; subst h2; simp at h1; subst h1
  exact .inl ⟨a,rfl,rfl⟩
 ·by_cases e:cap=l
  ·have eh:h=l:=by omega
   subst eh
   refine .inl ⟨some ⟨b,off,none⟩,?_,List.eq_nil_of_length_eq_zero (by rw [nq h1 h2]; omega)⟩
   simp [dh,e]
  ·refine .inr ⟨b,off+l*sz,cap - l,pre++(css.take l).flatten,(css.drop h).flatten++junk,?_,by rw [nq h1 h2]; omega,fun cs hc=>g2 cs (wg hc),?_,?_,?_⟩
   ·simp only [dh,if_neg e,Option.map_some,eT,nq h1 h2]
   ·rw [List.length_append,g3,jG (sz:=sz) fun cs hc=>g2 cs (List.mem_of_mem_take hc),List.length_take,Nat.min_eq_left (by omega)]
   ·rw [List.length_append,g4,jG (sz:=sz) fun cs hc=>g2 cs (List.mem_of_mem_drop hc),nq h1 h2,List.length_drop,← Nat.add_mul]
    congr 1
    omega
   ·have e3:css.flatten=(css.take l).flatten++(((css.take h).drop l).flatten++(css.drop h).flatten):=by
     rw [← List.flatten_append,← List.flatten_append]
     congr 1
     have := List.take_append_drop l (css.take h)
     rw [List.take_take,Nat.min_eq_left h1] at this
     rw [← List.append_assoc,this,List.take_append_drop]
    have e4:pre++(css.flatten++junk)=pre++(css.take l).flatten++(((css.take h).drop l).flatten++((css.drop h).flatten++junk)):=by
     rw [e3]; simp
    rw [← e4]; exact g5
end
section
variable {α:Type} {E:Ty α} {I:HL} {R:SP} {v:Value} {xs:List α} {w0 w:World} {L:List SP} {lo hi:Int}
theorem wM {r:α→List Value→Prop} {css:List (List Value)} (h:bz r xs css) (l k:Nat):bz r ((xs.take k).drop l) ((css.take k).drop l):=(h.take k).drop l
theorem Ro.part (h:Ro E I v xs) (h1:lo≤hi) (h2:hi≤xs.length) (h0:0≤lo):Ro E I (dh E.sz v lo.toNat hi.toNat) (nc xs lo hi):=by
 obtain ⟨css,g1,g2⟩:=h
 exact ⟨_,g1.part (by omega) (by rw [← g2.1]; omega),wM g2 _ _⟩
theorem Rd.part (h:Rd E R I v xs) (h1:lo≤hi) (h2:hi≤xs.length) (h0:0≤lo):Rd E R I (dh E.sz v lo.toNat hi.toNat) (nc xs lo hi):=by
 obtain ⟨css,g1,g2⟩:=h
 exact ⟨_,g1.part (by omega) (by rw [← g2.1]; omega),wM g2 _ _⟩
end
def fits {α:Type} (xs:List α) (lo hi:Int):Bool:=decide ((0:Int)≤lo)&&(decide (lo≤hi)&&decide (hi≤(xs.length:Int)))
theorem sL {α:Type} {xs:List α} {lo hi:Int} (h:fits xs lo hi=true):0≤lo∧lo≤hi∧hi≤xs.length:=by simpa [fits] using h
section
variable {P:Program} {ρ:Operand→Value} {w w':World} {dd:Option Tmp} {ty:TypeId} {ps:String} {af:Array Edge} {g:Option (Nat×Bool)} {v x:Value} {t e:TypeId} {n sz:Nat} {lo hi:Int}
theorem Bq (ht:P.underlying t=some (.slice e)) (hs:∀ w,(sizeOf e).run P w = .ok sz w) (hv:dc v n) (h0:0≤lo) (h1:lo≤hi) (h2:hi≤n) (klo khi:IntKind) (ol oh:Option Value)
  (hl : ol=some (.int klo lo)∨(ol=none∧lo=0)) (hh:oh=some (.int khi hi)∨(oh=none∧hi=n)) :
  (Instr.slice t v ol oh none).run P w = .ok (dh sz v lo.toNat hi.toNat) w:=by
 obtain ⟨a,cap,rfl,g2,_⟩:=hv
 have hu:∀ w:World,(underlying t).run P w = .ok (.slice e) w:=fun w=>by simp [underlying,ht]
 have c1:hi≤(cap:Int):=by omega
 have c2:(0:Int)≤hi:=by omega
 have c3:lo≤max hi 0:=by omega
 rcases hl with rfl | ⟨rfl,rfl⟩ <;> rcases hh with rfl | ⟨rfl,rfl⟩ <;>
  simp [Instr.slice,Instr.sliceBounds,Instr.sliceBound,asIntOf,hu,hs,Result.andThen,dh,c1,c2,c3,h0,h1,g2]
theorem cA {xo:Operand} {ol oh:Option Operand} (ht:P.underlying t=some (.slice e)) (hs:∀ w,(sizeOf e).run P w = .ok sz w) (hx:ρ xo=v) (hv:dc v n) (h0:0≤lo) (h1:lo≤hi) (h2:hi≤n) (klo khi:IntKind)
  (hl : ol.map ρ=some (.int klo lo)∨(ol.map ρ=none∧lo=0)) (hh:oh.map ρ=some (.int khi hi)∨(oh.map ρ=none∧hi=n)) :
  (execOp ρ ⟨dd,.slice t xo ol oh none,ty,ps,af,g⟩).run P w = .ok (.value (dh sz v lo.toNat hi.toNat)) w:=by
 have h:=Bq (P:=P) (w:=w) ht hs hv h0 h1 h2 klo khi (ol.map ρ) (oh.map ρ) hl hh
 refine nU ?_
 have hu:∀ w:World,(underlying t).run P w = .ok (.slice e) w:=fun w=>by simp [underlying,ht]
 simp only [Instr.sliceAt,hx,Option.map_none,h,hu,Sem.run_bind,Result.andThen]
end
def sEq (x y:ByteArray):Bool:=x.toList==y.toList
def jf (xs:List Int):ByteArray:=xs.foldl (fun s n=>s.push (UInt8.ofNat n.toNat)) .empty
section
variable {P:Program} {w:World} {I:HL} {V:Value} {ys:List Int}
theorem Eb {I:HL} {ys:List Int} {nss:List (List Value)} (h:bz ((cg .u8).rep (dU I)) ys nss):nss.flatten=ys.map (.int .u8):=by
 induction ys generalizing nss with
 | nil =>
  have : nss=[]:=List.eq_nil_of_length_eq_zero h.1.symm
  subst this; rfl
 | cons y ys ih =>
  cases nss with
  | nil=>have:=h.1; simp at this
  | cons c nss =>
   have h0:=h.2 0 y c rfl rfl
   have h1:bz ((cg .u8).rep (dU I)) ys nss:=⟨by have:=h.1; simp at this; exact this,fun i x cs hx hc=>h.2 (i+1) x cs (by simpa using hx) (by simpa using hc)⟩
   have h2:c=[.int .u8 y]:=h0
   simp [h2,ih h1]
theorem vQ (f:Value→ByteArray→Sem (ForInStep ByteArray)) (hf:∀ y r,f (.int .u8 y) r=pure (ForInStep.yield (r.push (UInt8.ofNat y.toNat)))):∀ (ys:List Int) (s:ByteArray) (w:World),
  (forIn (m:=Sem) (ys.map (Value.int .u8)) s f).run P w = .ok (ys.foldl (fun s n=>s.push (UInt8.ofNat n.toNat)) s) w
 | [],s,w=>rfl
 | y::ys,s,w=>by
  simp only [List.map_cons,List.forIn_cons,Sem.run_bind,Sem.run_pure,Result.andThen,List.foldl_cons,hf]
  exact vQ f hf ys _ w
theorem qe {ρ:Operand→Value} {dd:Option Tmp} {ty:TypeId} {ps:String} {af:Array Edge} {g:Option (Nat×Bool)} {s d e:TypeId} {x:Operand} (hs:P.underlying s=some (.slice e)) (hd:P.underlying d=some .string) (he:P.underlying e=some (.int .u8))
  (hx : ρ x=V) (hsrc:Src (cg .u8) w I V ys):(execOp ρ ⟨dd,.convert s d x,ty,ps,af,g⟩).run P w = .ok (.value (.string (jf ys))) w:=by
 refine nU ?_
 rw [hx]
 obtain ⟨hv,nss,hr,hc⟩:=hsrc
 have hf:=Eb hr
 have hus:∀ w:World,(underlying s).run P w = .ok (.slice e) w:=fun w=>by simp [underlying,hs]
 have hud:∀ w:World,(underlying d).run P w = .ok .string w:=fun w=>by simp [underlying,hd]
 have hue:∀ w:World,(underlying e).run P w = .ok (.int .u8) w:=fun w=>by simp [underlying,he]
 obtain ⟨a,cap,rfl,g2,g3⟩:=hv
 cases a with
 | none =>
  have h0:ys=[]:=by
   rcases Nat.eq_zero_or_pos ys.length with h | h
   ·exact List.eq_nil_of_length_eq_zero h
   ·obtain ⟨b,off,e⟩:=g3 (by omega); cases e
  subst h0
  simp only [convert,Sem.run_bind,Result.andThen,hus,hud,hue,Conv.bytesToString,Sem.run_pure]
  rfl
 | some a =>
  have hl:(loadCells a ys.length).run P w = .ok (ys.map (Value.int .u8)).toArray w:=by
   have := run_loadCells_list (P:=P) w a (ys.map (Value.int .u8)) (fun j y hj=>by
    have hne:ys.length≠0:=fun h0=>by
     have : ys=[]:=List.eq_nil_of_length_eq_zero h0
     subst this; simp at hj
    obtain ⟨b,off,e⟩:=g3 hne
    cases e
    rw [eT]
    exact hc j y (by rw [hf]; exact hj))
   simpa using this
  simp only [convert,Sem.run_bind,Result.andThen,hus,hud,hue,Conv.bytesToString,Sem.run_pure,hl,List.forIn_toArray]
  rw [vQ _ (fun _ _=>rfl)]
  rfl
end
def iJ {S R:Type} (c:Option (S ⊕ R)) (f:S→Option R):Option R:=c.bind fun x=>match x with | .inl s=>f s | .inr r=>some r
theorem dY {S R:Type} {c:Option (S ⊕ R)} {f:S→Option R} {r:R} (h:iJ c f=some r):∃ y,c=some y∧LR f y r:=by
 obtain ⟨y,hy,h⟩:=bind_some h
 refine ⟨y,hy,?_⟩
 cases y with
 | inl s=>exact h
 | inr z=>exact Option.some.inj h
section
variable {P:Program} {w0 w:World} {I:HL} {L:List SP} {R:SP} {b:Nat} {cs cs':List Value} {t:TypeId}
theorem qJ {x:Value} (h:x.oneCell'=true):x.cells = #[x]:=by cases x <;> first | rfl | cases h
theorem St.xl (hst:St w0 w I (cells b cs::L) R) (o:Nat) (x:Value) (h1:x.oneCell'=true) (hs:∀ w,(sizeOf t).run P w = .ok 1 w)
  (hl : Nat.ble (o+1) cs.length=true) (hcs:fP cs o [x]=cs') :
  ∃ w',(Instr.storeAt t (.pointer (some ⟨b,o,none⟩)) x).run P w = .ok () w'∧St w0 w' I (Go.V.cells b cs'::L) R :=
 hst.vS o x (by rw [qJ h1]; exact hs) (by rw [qJ h1]; exact Nat.le_of_ble_eq_true hl) (by rw [qJ h1]; intro v hv; simp at hv; subst hv; exact h1) (by rw [qJ h1]; exact hcs)
theorem St.by_ (hst:St w0 w I (cells b cs::L) R) (cs':List Value) (o:Nat) (x:Value) (hs:∀ w,(sizeOf t).run P w = .ok x.cells.size w) (hl:Nat.ble (o+x.cells.toList.length) cs.length=true) (hv:∀ v∈x.cells.toList,v.oneCell'=true) (hcs:fP cs o x.cells.toList=cs') :
  ∃ w',(Instr.storeAt t (.pointer (some ⟨b,o,none⟩)) x).run P w = .ok () w'∧St w0 w' I (Go.V.cells b cs'::L) R:=hst.vS o x hs (Nat.le_of_ble_eq_true hl) hv hcs
theorem St.bx (hst:St w0 w I (cells b cs::L) R) (vs:List Value) (hs:∀ w,(sizeOf t).run P w = .ok (Value.agg vs.toArray).cells.size w) (hl:Nat.ble (0+(Value.agg vs.toArray).cells.toList.length) cs.length=true) (hv:∀ v∈(Value.agg vs.toArray).cells.toList,v.oneCell'=true) (hcs:fP cs 0 (Value.agg vs.toArray).cells.toList=vs) :
  ∃ w',(Instr.storeAt t (.pointer (some ⟨b,0,none⟩)) (.agg vs.toArray)).run P w = .ok () w'∧St w0 w' I (Go.V.cells b vs::L) R:=hst.vS 0 (.agg vs.toArray) hs (Nat.le_of_ble_eq_true hl) hv hcs
end
section
variable {α:Type} {E:Ty α} {I:HL} {R:SP} {v:Value} {xs:List α} {y:α} {i:Nat}
theorem Ro.jV (h:Ro E I v xs) (hi:xs[i]?=some y):∃ cs,E.rep (dU I) y cs∧∀ {w0 w:World} {L:List SP} {R:SP} {I':HL},I.le I'→St w0 w I' L R→∀ o x,cs[o]?=some x→w.cell? (dN v (i*E.sz+o))=some x:=by
 obtain ⟨css,h1,h2⟩:=h
 obtain ⟨cs,hc,hr⟩:=h2.get hi
 exact ⟨cs,hr,fun {w0 w L R I'} hI hst o x ho=>(h1.rd R).cell hI hst hc ho⟩
theorem Rd.jV (h:Rd E R I v xs) (hi:xs[i]?=some y):∃ cs,E.rep (ie R I) y cs∧∀ {w0 w:World} {L:List SP} {I':HL},I.le I'→St w0 w I' L R→∀ o x,cs[o]?=some x→w.cell? (dN v (i*E.sz+o))=some x:=by
 obtain ⟨css,h1,h2⟩:=h
 obtain ⟨cs,hc,hr⟩:=h2.get hi
 exact ⟨cs,hr,fun {w0 w L I'} hI hst o x ho=>h1.cell hI hst hc ho⟩
end
section
variable {P:Program} {ρ:Operand→Value} {w:World} {d:Option Tmp} {ty:TypeId} {ps:String} {af:Array Edge} {g:Option (Nat×Bool)}
theorem iK {t E:TypeId} {x ix:Operand} {kd:IntKind} {i:Int} {V:Value} {N k o o' sz:Nat} (hx:ρ x = .pointer (some (dN V (k+o)))) (hi:ρ ix = .int kd i) (ht:P.underlying t=some (.array N E))
  (hs : ∀ w,(sizeOf E).run P w = .ok sz w) (h0:0≤i) (h1:i<N) (ho:o+i.toNat*sz=o') :
  (execOp ρ ⟨d,.indexAddr t x ix,ty,ps,af,g⟩).run P w = .ok (.value (.pointer (some (dN V (k+o'))))) w:=by
 refine nU ?_
 rw [hx,hi]
 have hu:∀ w:World,(underlying t).run P w = .ok (.array N E) w:=fun w=>by simp [underlying,ht]
 simp only [Instr.indexAt,asIntOf,Sem.run_bind,Sem.run_pure,Result.andThen,hu,hs,h0,h1,and_self,if_true,Instr.sureAddr,qL,Nat.add_assoc,ho]
end
section
variable {P:Program} {ρ:Operand→Value} {w:World} {d:Option Tmp} {ty:TypeId} {ps:String} {af:Array Edge} {g:Option (Nat×Bool)}
theorem dE {f:FuncId} {c:Operand} {args:List Operand} {ats:Array TypeId} {vs caps:List Value} (hc:∀ (args:Array Value) (w:World),(callFunc f args).run P w = .ok (.enter f args) w) (hf:ρ c = .func (.func f) #[] caps.toArray) (ha:args.map ρ=vs) :
  (execOp ρ ⟨d,.call {callee:=.value c,args:=args.toArray,argTypes:=ats},ty,ps,af,g⟩).run P w = .ok (.enter f (vs++caps).toArray) w:=by
 simp [execOp,resolve,Deferred.ofValue,invoke,hf,hc,ha]
end
end Go.V
end
