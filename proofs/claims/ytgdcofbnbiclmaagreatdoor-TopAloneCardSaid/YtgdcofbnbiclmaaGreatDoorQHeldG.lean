import Derived.Test.YtgdcofbnbiclmaaGreatDoorQHeldX
namespace Go.Proofs.YtgdcofbnbiclmaaGreatDoor
set_option linter.all false
set_option maxHeartbeats 32000000
open Go.RowKit
section
variable {P:Program} {ops:Array Oper} {Q:Exit→Act→World→Prop} {md:Region.Mode} {S:World→Prop} {l:List Nat}
structure LaysG (P:Program) (ops:Array Oper) (j d:Nat) (t:TypeId) (z:Array Value) (val:Nat→Value) (C:Act→Prop):Prop where
 run:∃ o,ops[j]?=some o∧o.guard=none∧o.dst=some d∧∀ (a:Act) (w:World),C a→(execOp a.eval o).run P w = .ok (.value (val w.heap.size)) (w.alloc (.cells z t))
 inj:∀ p q,val p=val q→p=q
def PendG (b:Bool) (base:Nat) (t:TypeId) (z:Array Value) (val:Nat→Value) (x:Value) (w:World):Prop:=b=true→∃ p,x=val p∧base≤p∧Blk w p t z
def TwoG (b c:Bool) (v1 v2:Nat→Value) (x y:Value):Prop:=b=true→c=true→∀ p q,x=v1 p→y=v2 q→p≠q
def vptr (p:Nat):Value:=.pointer (some ⟨p,0,none⟩)
def vsl (n:Nat) (p:Nat):Value:=.slice (some ⟨p,0,none⟩) n n
theorem vptr_inj (p q:Nat) (h:vptr p=vptr q):p=q:=by
 injection h with h;injection h with h;injection h
theorem vsl_inj (n:Nat) (p q:Nat) (h:vsl n p=vsl n q):p=q:=by
 injection h with h;injection h with h;injection h
section
variable {b c:Bool} {base:Nat} {t:TypeId} {z:Array Value} {val v1 v2:Nat→Value} {x y:Value} {w w':World}
theorem PendG.bl (h:PendG b base t z val x w) (hb:Below w.heap.size w w'):PendG b base t z val x w':=fun hh=>by
 obtain ⟨p,h1,h2,h3⟩:=h hh
 exact ⟨p,h1,h2,h3.below' hb⟩
theorem PendG.al (h:PendG b base t z val x w) (o:Obj):PendG b base t z val x (w.alloc o):=fun hh=>by
 obtain ⟨p,h1,h2,h3⟩:=h hh
 exact ⟨p,h1,h2,h3.alloc o⟩
theorem PendG.no:PendG false base t z val x w:=fun h=>by cases h
theorem TwoG.no:TwoG false c v1 v2 x y:=fun h=>by cases h
theorem PendG.lt (hi:∀ p q,val p=val q→p=q) (h:PendG b base t z val x w) (hb:b=true) (q:Nat) (hq:x=val q):q<w.heap.size:=by
 obtain ⟨p,rfl,h2,h3⟩:=h hb
 obtain rfl:=hi _ _ hq
 exact h3.lt
end
theorem LaysG.wpOp {j d:Nat} {t:TypeId} {z:Array Value} {val:Nat→Value} {C:Act→Prop} (h:LaysG P ops j d t z val C) {K:Act→World→Prop} {a:Act} {w:World} (hC:C a) (hK:K (a.put (some d) (val w.heap.size)) (w.alloc (.cells z t))):wpOp P ops Q j K a w:=by
 obtain ⟨o,h1,h2,h3,h4⟩:=h.run
 unfold Go.wpOp
 simp only [h1]
 rw [if_pos (by simp [Region.wanted,h2])]
 refine .inl ?_
 unfold Oper.wp
 rw [h4 a w hC,Oper.upon_value,h3]
 exact hK
theorem wpG_start1 {j d:Nat} {t:TypeId} {z:Array Value} {val:Nat→Value} {C:Act→Prop} {T:Nat→Bool} {n:Nat} {listed:Array Bool} {a:Act} {w:World} (a1:LaysG P ops j d t z val C)
  (h:LaysG P ops j d t z val C→wpAnyX P md ops Q S T n listed a w):wpAnyX P md ops Q S T n listed a w:=h a1
theorem wpG_start2 {j1 j2 d1 d2:Nat} {t1 t2:TypeId} {z1 z2:Array Value} {v1 v2:Nat→Value} {C1 C2:Act→Prop} {T:Nat→Bool} {n:Nat} {listed:Array Bool} {a:Act} {w:World} (a1:LaysG P ops j1 d1 t1 z1 v1 C1) (a2:LaysG P ops j2 d2 t2 z2 v2 C2)
  (h:LaysG P ops j1 d1 t1 z1 v1 C1→LaysG P ops j2 d2 t2 z2 v2 C2→wpAnyX P md ops Q S T n listed a w):wpAnyX P md ops Q S T n listed a w:=h a1 a2
section
variable {j1 j2 d1 d2 base:Nat} {t1 t2:TypeId} {z1 z2:Array Value} {v1 v2:Nat→Value} {C1 C2:Act→Prop}
theorem wpG_phase2 (a1:LaysG P ops j1 d1 t1 z1 v1 C1) (a2:LaysG P ops j2 d2 t2 z2 v2 C2) (i:Nat) {oi:Oper} {f:Nat} (L:Bool→Bool→Array Bool) (G:World→Prop)
  {b c:Bool} {x y:Value} {w:World} {n:Nat} {listed:Array Bool} {a:Act}
  (hS:∀ w,G w→S w) (hG:∀ w o,G w→G (w.alloc o)) (hB:∀ w,G w→base≤w.heap.size)
  (hC1:∀ x y,C1 ((a.put (some d1) x).put (some d2) y)) (hC2:∀ x y,C2 ((a.put (some d1) x).put (some d2) y))
  (hw:G w) (hx:PendG b base t1 z1 v1 x w) (hy:PendG c base t2 z2 v2 y w) (hxy:TwoG b c v1 v2 x y)
  (main:∀ b c x y w,G w→PendG b base t1 z1 v1 x w→PendG c base t2 z2 v2 y w→TwoG b c v1 v2 x y→∀ K:Act→World→Prop,
   Shut (∀ a' w',(l.contains i=true∨S w')→wpAnyX P md ops Q S (fun j=>l.contains j) (f+left2 b c) ((L b c).setIfInBounds i true) a' w'→Exit.then K Q .normal a' w')→wpList P ops (Exit.then K Q) [oi] ((a.put (some d1) x).put (some d2) y) w)
  (hn:f+1+left2 b c=n:=by rfl) (hl:L b c=listed:=by rfl) (ha:(a.put (some d1) x).put (some d2) y=a:=by rfl)
  (r:phaseOk md ops L i j1 j2=true:=by kernel_rfl) (hi:ops[i]?=some oi:=by (try simp only [List.getElem?_toArray,List.getElem?_cons_zero,List.getElem?_cons_succ]);exact rfl) (hg:oi.guard=none:=by rfl)
  (e1:∀ c,(L false c).setIfInBounds j1 true=L true c:=by intros;rfl) (e2:∀ b,(L b false).setIfInBounds j2 true=L b true:=by intros;rfl)
  (p1:∀ x y u,(((a.put (some d1) x).put (some d2) y).put (some d1) u)=(a.put (some d1) u).put (some d2) y:=by intros;rfl) (p2:∀ x y u,(((a.put (some d1) x).put (some d2) y).put (some d2) u)=(a.put (some d1) x).put (some d2) u:=by intros;rfl) :
  wpAnyX P md ops Q S (fun j=>l.contains j) n listed a w:=by
 have step:∀ b c,(b=false→∀ x y w,G w→PendG true base t1 z1 v1 x w→PendG c base t2 z2 v2 y w→TwoG true c v1 v2 x y→wpAnyX P md ops Q S (fun j=>l.contains j) (f+1+left2 true c) (L true c) ((a.put (some d1) x).put (some d2) y) w) →
   (c=false→∀ x y w,G w→PendG b base t1 z1 v1 x w→PendG true base t2 z2 v2 y w→TwoG b true v1 v2 x y→wpAnyX P md ops Q S (fun j=>l.contains j) (f+1+left2 b true) (L b true) ((a.put (some d1) x).put (some d2) y) w) →
   ∀ x y w,G w→PendG b base t1 z1 v1 x w→PendG c base t2 z2 v2 y w→TwoG b c v1 v2 x y→wpAnyX P md ops Q S (fun j=>l.contains j) (f+1+left2 b c) (L b c) ((a.put (some d1) x).put (some d2) y) w:=by
  intro b c hb hc x y w hGw hx hy hxy
  have he:f+1+left2 b c=(f+left2 b c)+1:=by omega
  rw [he]
  obtain ⟨r1,r2⟩:=phaseOk_spec r b c
  refine ⟨fun h0=>absurd h0 r2,fun k hk=>?_⟩
  rcases r1 k hk with rfl|⟨rfl,rfl⟩|⟨rfl,rfl⟩
  ·exact wpOp_one hi hg (main b c x y w hGw hx hy hxy _ (fun a' w' hS' hW=>⟨hS',hW⟩))
  ·refine a1.wpOp (hC1 _ _) ⟨.inr (hS _ (hG w _ hGw)),?_⟩
   rw [p1,e1]
   have hl:f+left2 false c=f+1+left2 true c:=by simp only [left2];simp;omega
   rw [hl]
   refine hb rfl _ _ _ (hG w _ hGw) (fun _=>⟨_,rfl,hB w hGw,Blk.new w _ _⟩) (hy.al _) (fun _ hct p q h1 h2 e=>?_)
   have:=hy.lt a2.inj hct q h2
   have:=a1.inj _ _ h1
   omega
  ·refine a2.wpOp (hC2 _ _) ⟨.inr (hS _ (hG w _ hGw)),?_⟩
   rw [p2,e2]
   have hl:f+left2 b false=f+1+left2 b true:=by simp only [left2];simp;omega
   rw [hl]
   refine hc rfl _ _ _ (hG w _ hGw) (hx.al _) (fun _=>⟨_,rfl,hB w hGw,Blk.new w _ _⟩) (fun hbt _ p q h1 h2 e=>?_)
   have:=hx.lt a1.inj hbt p h1
   have:=a2.inj _ _ h2
   omega
 have tt:=step true true (fun h=>by cases h) (fun h=>by cases h)
 have tf:=step true false (fun h=>by cases h) (fun _=>tt)
 have ft:=step false true (fun _=>tt) (fun h=>by cases h)
 have ff:=step false false (fun _=>tf) (fun _=>ft)
 subst hn;subst hl
 have key:wpAnyX P md ops Q S (fun j=>l.contains j) (f+1+left2 b c) (L b c) ((a.put (some d1) x).put (some d2) y) w:=by
  cases b <;> cases c
  ·exact ff x y w hw hx hy hxy
  ·exact ft x y w hw hx hy hxy
  ·exact tf x y w hw hx hy hxy
  ·exact tt x y w hw hx hy hxy
 rw [ha] at key
 exact key
def forceOk (md:Region.Mode) (ops:Array Oper) (L:Bool→Bool→Array Bool) (j1 j2:Nat):Bool:=
 [true,false].all fun c=>(Region.ready md ops (L false c)).all (fun k=>k == j1 || (k == j2 && !c)) && !(Region.ready md ops (L false c)).isEmpty
theorem wpG_force (a1:LaysG P ops j1 d1 t1 z1 v1 C1) (a2:LaysG P ops j2 d2 t2 z2 v2 C2) {f:Nat} (L:Bool→Bool→Array Bool) (G:World→Prop)
  {b c:Bool} {x y:Value} {w:World} {n:Nat} {listed:Array Bool} {a:Act}
  (hS:∀ w,G w→S w) (hG:∀ w o,G w→G (w.alloc o)) (hB:∀ w,G w→base≤w.heap.size)
  (hC1:∀ x y,C1 ((a.put (some d1) x).put (some d2) y)) (hC2:∀ x y,C2 ((a.put (some d1) x).put (some d2) y))
  (hw:G w) (hx:PendG b base t1 z1 v1 x w) (hy:PendG c base t2 z2 v2 y w) (hxy:TwoG b c v1 v2 x y)
  (fin:∀ c p y w,G w→base≤p→Blk w p t1 z1→PendG c base t2 z2 v2 y w→(c=true→∀ q,y=v2 q→p≠q)→wpAnyX P md ops Q S (fun j=>l.contains j) (f+left1 c) (L true c) ((a.put (some d1) (v1 p)).put (some d2) y) w)
  (hn:f+left2 b c=n:=by rfl) (hl:L b c=listed:=by rfl) (ha:(a.put (some d1) x).put (some d2) y=a:=by rfl)
  (r:forceOk md ops L j1 j2=true:=by kernel_rfl)
  (e1:∀ c,(L false c).setIfInBounds j1 true=L true c:=by intros;rfl) (e2:∀ b,(L b false).setIfInBounds j2 true=L b true:=by intros;rfl)
  (p1:∀ x y u,(((a.put (some d1) x).put (some d2) y).put (some d1) u)=(a.put (some d1) u).put (some d2) y:=by intros;rfl) (p2:∀ x y u,(((a.put (some d1) x).put (some d2) y).put (some d2) u)=(a.put (some d1) x).put (some d2) u:=by intros;rfl) :
  wpAnyX P md ops Q S (fun j=>l.contains j) n listed a w:=by
 have tc:∀ c x y w,G w→PendG true base t1 z1 v1 x w→PendG c base t2 z2 v2 y w→TwoG true c v1 v2 x y→wpAnyX P md ops Q S (fun j=>l.contains j) (f+left2 true c) (L true c) ((a.put (some d1) x).put (some d2) y) w:=by
  intro c x y w hGw hx hy hxy
  obtain ⟨p,rfl,h1,h2⟩:=hx rfl
  have hl:left2 true c=left1 c:=by simp [left2,left1]
  rw [hl]
  exact fin c p y w hGw h1 h2 hy (fun hc q h=>hxy rfl hc p q rfl h)
 have step:∀ c,(c=false→∀ x y w,G w→PendG false base t1 z1 v1 x w→PendG true base t2 z2 v2 y w→TwoG false true v1 v2 x y→wpAnyX P md ops Q S (fun j=>l.contains j) (f+left2 false true) (L false true) ((a.put (some d1) x).put (some d2) y) w) →
   ∀ x y w,G w→PendG false base t1 z1 v1 x w→PendG c base t2 z2 v2 y w→TwoG false c v1 v2 x y→wpAnyX P md ops Q S (fun j=>l.contains j) (f+left2 false c) (L false c) ((a.put (some d1) x).put (some d2) y) w:=by
  intro c hc x y w hGw hx hy hxy
  have he:f+left2 false c=(f+left2 true c)+1:=by simp only [left2];simp;omega
  rw [he]
  have h1:=List.all_eq_true.1 r c (by cases c <;> simp)
  rw [Bool.and_eq_true] at h1
  refine ⟨fun h0=>by rw [h0] at h1;simp at h1,fun k hk=>?_⟩
  have:=List.all_eq_true.1 h1.1 k hk
  simp only [Bool.or_eq_true,Bool.and_eq_true,beq_iff_eq,Bool.not_eq_true'] at this
  rcases this with rfl|⟨rfl,rfl⟩
  ·refine a1.wpOp (hC1 _ _) ⟨.inr (hS _ (hG w _ hGw)),?_⟩
   rw [p1,e1]
   refine tc c _ _ _ (hG w _ hGw) (fun _=>⟨_,rfl,hB w hGw,Blk.new w _ _⟩) (hy.al _) (fun _ hct p q h1 h2 e=>?_)
   have:=hy.lt a2.inj hct q h2
   have:=a1.inj _ _ h1
   omega
  ·refine a2.wpOp (hC2 _ _) ⟨.inr (hS _ (hG w _ hGw)),?_⟩
   rw [p2,e2]
   exact hc rfl _ _ _ (hG w _ hGw) PendG.no (fun _=>⟨_,rfl,hB w hGw,Blk.new w _ _⟩) TwoG.no
 have ft:=step true (fun h=>by cases h)
 have ff:=step false (fun _=>ft)
 subst hn;subst hl
 have key:wpAnyX P md ops Q S (fun j=>l.contains j) (f+left2 b c) (L b c) ((a.put (some d1) x).put (some d2) y) w:=by
  cases b
  ·cases c
   ·exact ff x y w hw hx hy hxy
   ·exact ft x y w hw hx hy hxy
  ·exact tc c x y w hw hx hy hxy
 rw [ha] at key
 exact key
end
section
variable {j d base:Nat} {t:TypeId} {z:Array Value} {val:Nat→Value} {C:Act→Prop}
theorem wpG_phase1 (a1:LaysG P ops j d t z val C) (i:Nat) {oi:Oper} {f:Nat} (L:Bool→Array Bool) (G:World→Prop)
  {b:Bool} {x:Value} {w:World} {n:Nat} {listed:Array Bool} {a:Act}
  (hS:∀ w,G w→S w) (hG:∀ w o,G w→G (w.alloc o)) (hB:∀ w,G w→base≤w.heap.size)
  (hC:∀ x,C (a.put (some d) x)) (hw:G w) (hx:PendG b base t z val x w)
  (main:∀ b x w,G w→PendG b base t z val x w→∀ K:Act→World→Prop,
   Shut (∀ a' w',(l.contains i=true∨S w')→wpAnyX P md ops Q S (fun j=>l.contains j) (f+left1 b) ((L b).setIfInBounds i true) a' w'→Exit.then K Q .normal a' w')→wpList P ops (Exit.then K Q) [oi] (a.put (some d) x) w)
  (hn:f+1+left1 b=n:=by rfl) (hl:L b=listed:=by rfl) (ha:a.put (some d) x=a:=by rfl)
  (r:phaseOk1 md ops L i j=true:=by kernel_rfl) (hi:ops[i]?=some oi:=by (try simp only [List.getElem?_toArray,List.getElem?_cons_zero,List.getElem?_cons_succ]);exact rfl) (hg:oi.guard=none:=by rfl)
  (e1:(L false).setIfInBounds j true=L true:=by rfl) (p1:∀ x u,((a.put (some d) x).put (some d) u)=a.put (some d) u:=by intros;rfl) :
  wpAnyX P md ops Q S (fun j=>l.contains j) n listed a w:=by
 have step:∀ b,(b=false→∀ x w,G w→PendG true base t z val x w→wpAnyX P md ops Q S (fun j=>l.contains j) (f+1+left1 true) (L true) (a.put (some d) x) w) →
   ∀ x w,G w→PendG b base t z val x w→wpAnyX P md ops Q S (fun j=>l.contains j) (f+1+left1 b) (L b) (a.put (some d) x) w:=by
  intro b hb x w hGw hx
  have he:f+1+left1 b=(f+left1 b)+1:=by omega
  rw [he]
  obtain ⟨r1,r2⟩:=phaseOk1_spec r b
  refine ⟨fun h0=>absurd h0 r2,fun k hk=>?_⟩
  rcases r1 k hk with rfl|⟨rfl,rfl⟩
  ·exact wpOp_one hi hg (main b x w hGw hx _ (fun a' w' hS' hW=>⟨hS',hW⟩))
  ·refine a1.wpOp (hC _) ⟨.inr (hS _ (hG w _ hGw)),?_⟩
   rw [p1,e1]
   have hl:f+left1 false=f+1+left1 true:=by simp [left1]
   rw [hl]
   exact hb rfl _ _ (hG w _ hGw) (fun _=>⟨_,rfl,hB w hGw,Blk.new w _ _⟩)
 have tt:=step true (fun h=>by cases h)
 have ff:=step false (fun _=>tt)
 subst hn;subst hl
 have key:wpAnyX P md ops Q S (fun j=>l.contains j) (f+1+left1 b) (L b) (a.put (some d) x) w:=by
  cases b
  ·exact ff x w hw hx
  ·exact tt x w hw hx
 rw [ha] at key
 exact key
theorem wpG_lay1 (a1:LaysG P ops j d t z val C) {f:Nat} (L:Bool→Array Bool) (G:World→Prop)
  {b:Bool} {x:Value} {w:World} {n:Nat} {listed:Array Bool} {a:Act}
  (hS:∀ w,G w→S w) (hG:∀ w o,G w→G (w.alloc o)) (hB:∀ w,G w→base≤w.heap.size)
  (hC:∀ x,C (a.put (some d) x)) (hw:G w) (hx:PendG b base t z val x w)
  (fin:∀ q w,G w→base≤q→Blk w q t z→wpAnyX P md ops Q S (fun j=>l.contains j) f (L true) (a.put (some d) (val q)) w)
  (hn:f+left1 b=n:=by rfl) (hl:L b=listed:=by rfl) (ha:a.put (some d) x=a:=by rfl)
  (r:layOk1 md ops L j=true:=by kernel_rfl) (e1:(L false).setIfInBounds j true=L true:=by rfl) (p1:∀ x u,((a.put (some d) x).put (some d) u)=a.put (some d) u:=by intros;rfl) :
  wpAnyX P md ops Q S (fun j=>l.contains j) n listed a w:=by
 subst hn;subst hl
 rw [←ha]
 cases b with
 | true=>
  obtain ⟨q,rfl,h1,h2⟩:=hx rfl
  exact fin q w hw h1 h2
 | false=>
  have he:f+left1 false=f+1:=rfl
  rw [he]
  unfold layOk1 at r
  rw [Bool.and_eq_true] at r
  refine ⟨fun h0=>by rw [h0] at r;simp at r,fun k hk=>?_⟩
  have:=List.all_eq_true.1 r.1 k hk
  simp only [beq_iff_eq] at this
  subst this
  refine a1.wpOp (hC _) ⟨.inr (hS _ (hG w _ hw)),?_⟩
  rw [p1,e1]
  exact fin _ _ (hG w _ hw) (hB w hw) (Blk.new w _ _)
end
theorem wpG_take1 (i:Nat) {oi:Oper} {v:Value} {f:Nat} (L:Bool→Array Bool) {b:Bool} {a a':Act} {w:World} {n:Nat} {listed:Array Bool}
  (h:wpAnyX P md ops Q S (fun j=>l.contains j) (f+left1 b) ((L b).setIfInBounds i true) a' w)
  (hn:f+1+left1 b=n:=by rfl) (hl:L b=listed:=by rfl) (hi:ops[i]?=some oi:=by rfl)
  (hy:YieldsIf P ops S oi v a:=by exact Or.inl ⟨by rfl,by (intro w hSw;(try dsimp only at hSw);go_simp;(try with_reducible rfl))⟩)
  (ha:a.put oi.dst v=a':=by (try simp only [Act.put,List.setIfInBounds_toArray,List.set_cons_zero,List.set_cons_succ,List.getElem_toArray,List.getElem_cons_zero,List.getElem_cons_succ]);exact rfl)
  (hs:Region.noSelect ops=true:=by kernel_rfl) (r:takeOk1 md ops L i=true:=by kernel_rfl) (hT:sparedOk md ops l i=true:=by kernel_rfl)
  (hQ:∀ c a w,Q (.panic c) (a.put oi.dst v) w→Q (.panic c) a w:=by exact fun _ _ _ h=>h) (hS:S w:=by assumption) :
  wpAnyX P md ops Q S (fun j=>l.contains j) n listed a w:=by
 subst ha
 exact wpX_takeA' (L':=fun b=>(L b).setIfInBounds i true) hn hl hi hs r hT (fun _=>rfl) hQ hy hS h
end
section
variable {P:Program} {w w':World}
theorem wpList_pushes_g {ops:Array Oper} {rest:List Oper} {o:Oper} {a:Act} {Q:Exit→Act→World→Prop} (hgd:o.guard=none) (s x:Operand) (t:TypeId)
  (ho:o.op = .call { callee:=.builtin .append,args:=#[s,x],argTypes:=#[t,t] })
  {base:Nat} {e:TypeId} {z:Value} {size bytes:Nat} (ht:P.underlying t=some (.slice e)) (hi:(P.info? e).map (fun i=>(i.zero,i.size,i.bytes))=some (some z,size,bytes)) (hzs:z.cells.size=size) (hsz:0<size)
  {v:Value} {rows news:List (List Value)} (hs:a.eval s=v) (hown:Own w base e size v rows) {A:Option Addr} {m c:Nat} (hx:a.eval x = .slice A m c) (hsl:Sl w size A m c news) (h1:∀ r∈news,∀ u∈r,u.oneCell'=true)
  (h63:rows.length+m≤maxLen) (hbytes:(rows.length+m)*bytes≤140737488355328) (hbase:base≤w.heap.size)
  (h:∀ A' n' c' w',Own w' base e size (.slice A' n' c') (rows ++ news)→Below base w w'→w.grownBy w' v.ownBlock→wpList P ops Q rest (a.put o.dst (.slice A' n' c')) w'):wpList P ops Q (o :: rest) a w:=by
 obtain ⟨i,hi1,hi2,hi3,hi4⟩:=info_parts hi
 have hm:=hsl.len
 have frow:∀ k,v.ownBlock=some k→base≤k:=by
  intro k hk
  rcases hown.form with ⟨rfl,_⟩|⟨g,cap,rfl,hg,_⟩
  ·simp [Value.ownBlock] at hk
  ·simp [Value.ownBlock] at hk;omega
 cases A with
 | none=>
  obtain ⟨rfl,rfl⟩:=hsl.n0 rfl
  obtain rfl:=List.eq_nil_of_length_eq_zero hm
  obtain ⟨A',c',hv,_⟩:=hown.sl
  refine wpList_append_own_none hgd s x t ho base e i size ht hi1 v rows.length rows.flatten hs hown.1 hx ?_
  have:=h A' rows.length c' w (by rw [List.append_nil,←hv];exact hown) (Below.refl _ _) ⟨rfl,rfl,rfl,Nat.le_refl _,fun _ _ _=>rfl⟩
  rw [←hv] at this
  exact this
 | some ad=>
  refine wpList_append_own _ hgd s x t ho base e i z size bytes ht hi1 hi2 hi3 hi4 hzs hsz v rows.length rows.flatten hs hown.1 ad m c news.flatten hx (by rw [flatten_length hsl.row,hm]) ?_ ?_ h63 hbytes hbase ?_
  ·intro j u hu
   by_cases hn:0<news.length
   ·obtain ⟨b,off,e1,hb,hc⟩:=hsl.seg hn
    injection e1 with e1
    subst e1
    obtain ⟨r,h2,h3⟩:=flatten_inv hsz hsl.row hu
    rw [Addr.add_lit,←hc _ r h2 _ u h3,Nat.mul_comm,Nat.div_add_mod]
   ·obtain rfl:=List.eq_nil_of_length_eq_zero (show news.length=0 by omega)
    simp at hu
  ·intro u hu
   obtain ⟨r,hr,hur⟩:=List.mem_flatten.1 hu
   exact h1 r hr u hur
  ·intro v' w' h2 h3 _
   have ho':Own w' base e size v' (rows ++ news):=⟨by simpa [hm] using h2,fun r hr=>(List.mem_append.1 hr).elim (hown.2 r) (hsl.row r)⟩
   obtain ⟨A',c',rfl,_⟩:=ho'.sl
   exact h A' _ c' w' ho' ((Below.refl base w).grown h3 hbase frow) h3
theorem own_block_ne {B:Nat} {e t:TypeId} {size p:Nat} {v:Value} {rows:List (List Value)} {z:Array Value} (h:Own w B e size v rows) (R:Blk w p t z) (hne:t≠e):v.ownBlock≠some p:=by
 intro he
 rcases h.form with ⟨rfl,_⟩|⟨g,cap,rfl,hg,_,_,cur,h3,_⟩
 ·simp [Value.ownBlock] at he
 ·simp [Value.ownBlock] at he
  subst he
  have:=R.symm.trans h3
  injection this with this
  injection this with _ this _
  exact hne this
theorem PendG.grew {b:Bool} {base:Nat} {t:TypeId} {z:Array Value} {val:Nat→Value} {x:Value} {r:Option Nat} (h:PendG b base t z val x w) (hg:w.grownBy w' r) (hne:∀ p,x=val p→Blk w p t z→r≠some p):PendG b base t z val x w':=fun hh=>by
 obtain ⟨p,h1,h2,h3⟩:=h hh
 exact ⟨p,h1,h2,(hg.block p h3.lt (fun e=>hne p h1 h3 e.symm)).trans h3⟩
end
end Go.Proofs.YtgdcofbnbiclmaaGreatDoor

