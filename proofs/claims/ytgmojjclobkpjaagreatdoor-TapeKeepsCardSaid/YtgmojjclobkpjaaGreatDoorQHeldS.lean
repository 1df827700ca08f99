import Derived.Test.YtgmojjclobkpjaaGreatDoorQHeldX
import Derived.Test.YtgmojjclobkpjaaGreatDoorQReadM
namespace Go.Proofs.YtgmojjclobkpjaaGreatDoor
set_option linter.all false
set_option maxHeartbeats 32000000
open Go.RowKit
def PendS (b:Bool) (base:Nat) (t:TypeId) (z:Array Value) (x:Value) (w:World):Prop:=b=true→∃ p,x = .slice (some ⟨p,0,none⟩) 1 1∧base≤p∧Blk w p t z
theorem PendS.bl {b:Bool} {base:Nat} {t:TypeId} {z:Array Value} {x:Value} {w w':World} (h:PendS b base t z x w) (hb:Below w.heap.size w w'):PendS b base t z x w':=fun hh=>by
 obtain ⟨p,h1,h2,h3⟩:=h hh
 exact ⟨p,h1,h2,h3.below' hb⟩
theorem PendS.no {base:Nat} {t:TypeId} {z:Array Value} {x:Value} {w:World}:PendS false base t z x w:=fun h=>by cases h
section
variable {P:Program} {ops:Array Oper} {Q:Exit→Act→World→Prop} {md:Region.Mode} {S:World→Prop} {l:List Nat}
structure LaysS (P:Program) (ops:Array Oper) (j d:Nat) (t:TypeId) (z:Array Value) (C:Act→Prop):Prop where
 run:∃ o,ops[j]?=some o∧o.guard=none∧o.dst=some d∧∀ (a:Act) (w:World),C a→(execOp a.eval o).run P w = .ok (.value (.slice (some ⟨w.heap.size,0,none⟩) 1 1)) (w.alloc (.cells z t))
theorem LaysS.wpOp {j d:Nat} {t:TypeId} {z:Array Value} {C:Act→Prop} (h:LaysS P ops j d t z C) {K:Act→World→Prop} {a:Act} {w:World} (hC:C a) (hK:K (a.put (some d) (.slice (some ⟨w.heap.size,0,none⟩) 1 1)) (w.alloc (.cells z t))):wpOp P ops Q j K a w:=by
 obtain ⟨o,h1,h2,h3,h4⟩:=h.run
 unfold Go.wpOp
 simp only [h1]
 rw [if_pos (by simp [Region.wanted,h2])]
 refine .inl ?_
 unfold Oper.wp
 rw [h4 a w hC,Oper.upon_value,h3]
 exact hK
theorem wpS_startA {j d:Nat} {t:TypeId} {z:Array Value} {T:Nat→Bool} {n n':Nat} {listed listed':Array Bool} {a:Act} {w:World} {C:Act→Prop} (a1:LaysS P ops j d t z C)
  (hn:n'=n) (hl:listed'=listed) (h:LaysS P ops j d t z C→wpAnyX P md ops Q S T n listed a w):wpAnyX P md ops Q S T n' listed' a w:=by subst hn;subst hl;exact h a1
theorem wpS_phaseA {j d base i:Nat} {oi:Oper} {t:TypeId} {z:Array Value} {C:Act→Prop} (a1:LaysS P ops j d t z C) {f:Nat} {L L':Bool→Array Bool} {A:Value→Act} {G:World→Prop} (hC:∀ x,C (A x))
  (r:phaseOk1 md ops L i j=true) (hi:ops[i]?=some oi) (hg:oi.guard=none)
  (e1:(L false).setIfInBounds j true=L true) (e3:∀ b,(L b).setIfInBounds i true=L' b)
  (p1:∀ x u,(A x).put (some d) u=A u)
  (hS:∀ w,G w→S w) (hG:∀ w o,G w→G (w.alloc o)) (hB:∀ w,G w→base≤w.heap.size)
  (main:∀ b x w,G w→PendS b base t z x w→∀ K:Act→World→Prop,
   Shut (∀ a' w',(l.contains i=true∨S w')→wpAnyX P md ops Q S (fun j=>l.contains j) (f+left1 b) (L' b) a' w'→Exit.then K Q .normal a' w')→wpList P ops (Exit.then K Q) [oi] (A x) w) :
  ∀ b x w,G w→PendS b base t z x w→wpAnyX P md ops Q S (fun j=>l.contains j) (f+1+left1 b) (L b) (A x) w:=by
 have step:∀ b,(b=false→∀ x w,G w→PendS true base t z x w→wpAnyX P md ops Q S (fun j=>l.contains j) (f+1+left1 true) (L true) (A x) w) →
   ∀ x w,G w→PendS b base t z x w→wpAnyX P md ops Q S (fun j=>l.contains j) (f+1+left1 b) (L b) (A x) w:=by
  intro b hb x w hGw hx
  have he:f+1+left1 b=(f+left1 b)+1:=by omega
  rw [he]
  obtain ⟨r1,r2⟩:=phaseOk1_spec r b
  refine ⟨fun h0=>absurd h0 r2,fun k hk=>?_⟩
  rcases r1 k hk with rfl|⟨rfl,rfl⟩
  ·rw [e3]
   exact wpOp_one hi hg (main b x w hGw hx _ (fun a' w' hS' hW=>⟨hS',hW⟩))
  ·refine a1.wpOp (hC _) ⟨.inr (hS _ (hG w _ hGw)),?_⟩
   rw [p1,e1]
   have hl:f+left1 false=f+1+left1 true:=by simp [left1]
   rw [hl]
   exact hb rfl _ _ (hG w _ hGw) (fun _=>⟨_,rfl,hB w hGw,Blk.new w _ _⟩)
 have tt:=step true (fun h=>by cases h)
 have ff:=step false (fun _=>tt)
 intro b
 cases b
 ·exact ff
 ·exact tt
theorem wpS_phaseA' {j d base i:Nat} {oi:Oper} {t:TypeId} {z:Array Value} {C:Act→Prop} (a1:LaysS P ops j d t z C) {f:Nat} {L L':Bool→Array Bool} {G:World→Prop}
  {x:Value} {w:World} {n:Nat} {listed:Array Bool} {a:Act} (hn:f+1+left1 false=n) (hl:L false=listed) (ha:a.put (some d) x=a)
  (hC:∀ x,C (a.put (some d) x)) (r:phaseOk1 md ops L i j=true) (hi:ops[i]?=some oi) (hg:oi.guard=none)
  (e1:(L false).setIfInBounds j true=L true) (e3:∀ b,(L b).setIfInBounds i true=L' b)
  (p1:∀ x u,((a.put (some d) x).put (some d) u)=a.put (some d) u)
  (hS:∀ w,G w→S w) (hG:∀ w o,G w→G (w.alloc o)) (hB:∀ w,G w→base≤w.heap.size) (hw:G w)
  (main:∀ b x w,G w→PendS b base t z x w→∀ K:Act→World→Prop,
   Shut (∀ a' w',(l.contains i=true∨S w')→wpAnyX P md ops Q S (fun j=>l.contains j) (f+left1 b) (L' b) a' w'→Exit.then K Q .normal a' w')→wpList P ops (Exit.then K Q) [oi] (a.put (some d) x) w) :
  wpAnyX P md ops Q S (fun j=>l.contains j) n listed a w:=by
 have h:=wpS_phaseA a1 (A:=fun x=>a.put (some d) x) hC r hi hg e1 e3 p1 hS hG hB main false x w hw PendS.no
 subst hn;subst hl
 simp only [ha] at h
 exact h
theorem wpS_phaseB' {j d base i:Nat} {oi:Oper} {t:TypeId} {z:Array Value} {C:Act→Prop} (a1:LaysS P ops j d t z C) {f:Nat} {L L':Bool→Array Bool} {G:World→Prop}
  {b:Bool} {x:Value} {w:World} {n:Nat} {listed:Array Bool} {a:Act} (hn:f+1+left1 b=n) (hl:L b=listed) (ha:a.put (some d) x=a)
  (hC:∀ x,C (a.put (some d) x)) (r:phaseOk1 md ops L i j=true) (hi:ops[i]?=some oi) (hg:oi.guard=none)
  (e1:(L false).setIfInBounds j true=L true) (e3:∀ b,(L b).setIfInBounds i true=L' b)
  (p1:∀ x u,((a.put (some d) x).put (some d) u)=a.put (some d) u)
  (hS:∀ w,G w→S w) (hG:∀ w o,G w→G (w.alloc o)) (hB:∀ w,G w→base≤w.heap.size) (hw:G w) (hx:PendS b base t z x w)
  (main:∀ b x w,G w→PendS b base t z x w→∀ K:Act→World→Prop,
   Shut (∀ a' w',(l.contains i=true∨S w')→wpAnyX P md ops Q S (fun j=>l.contains j) (f+left1 b) (L' b) a' w'→Exit.then K Q .normal a' w')→wpList P ops (Exit.then K Q) [oi] (a.put (some d) x) w) :
  wpAnyX P md ops Q S (fun j=>l.contains j) n listed a w:=by
 have h:=wpS_phaseA a1 (A:=fun x=>a.put (some d) x) hC r hi hg e1 e3 p1 hS hG hB main b x w hw hx
 subst hn;subst hl
 simp only [ha] at h
 exact h
theorem wpS_layA' {j d base:Nat} {t:TypeId} {z:Array Value} {C:Act→Prop} (a1:LaysS P ops j d t z C) {f:Nat} {L:Bool→Array Bool} {A:Value→Act} {G:World→Prop}
  {b:Bool} {x:Value} {w:World} {n:Nat} {listed:Array Bool} {a:Act} (hn:f+left1 b=n) (hl:L b=listed) (ha:A x=a)
  (hC:∀ x,C (A x)) (r:layOk1 md ops L j=true) (e1:(L false).setIfInBounds j true=L true) (p1:∀ x u,(A x).put (some d) u=A u)
  (hS:∀ w,G w→S w) (hG:∀ w o,G w→G (w.alloc o)) (hB:∀ w,G w→base≤w.heap.size) (hw:G w) (hx:PendS b base t z x w)
  (fin:∀ q w,G w→base≤q→Blk w q t z→wpAnyX P md ops Q S (fun j=>l.contains j) f (L true) (A (.slice (some ⟨q,0,none⟩) 1 1)) w) :
  wpAnyX P md ops Q S (fun j=>l.contains j) n listed a w:=by
 subst hn;subst hl;subst ha
 cases b with
 | true=>
  obtain ⟨q,rfl,h1,h2⟩:=hx rfl
  exact fin q w hw h1 h2
 | false=>
  have he:f+left1 false=f+1:=rfl
  rw [he]
  unfold layOk1 at r
  rw [Bool.and_eq_true] at r
  refine ⟨fun h0=>by rw [h0] at r;simp at r,fun k hk=>?_⟩
  have:=List.all_eq_true.1 r.1 k hk
  simp only [beq_iff_eq] at this
  subst this
  refine a1.wpOp (hC _) ⟨.inr (hS _ (hG w _ hw)),?_⟩
  rw [p1,e1]
  exact fin _ _ (hG w _ hw) (hB w hw) (Blk.new w _ _)
end
end Go.Proofs.YtgmojjclobkpjaaGreatDoor

