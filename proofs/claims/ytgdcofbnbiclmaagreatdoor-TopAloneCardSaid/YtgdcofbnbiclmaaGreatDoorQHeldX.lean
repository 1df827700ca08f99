import Derived.Test.YtgdcofbnbiclmaaGreatDoorQBase
import Derived.Deep.RegionHeld3
import Derived.StillTailTactics
import Derived.Test.YtgdcofbnbiclmaaGreatDoorQOwn
namespace Go.Proofs.YtgdcofbnbiclmaaGreatDoor
set_option linter.all false
set_option maxHeartbeats 32000000
open Go.RowKit
section
variable {P:Program} {ops:Array Oper} {Q:Exit→Act→World→Prop} {md:Region.Mode} {S:World→Prop} {T:Nat→Bool}
def wpAnyX (P:Program) (md:Region.Mode) (ops:Array Oper) (Q:Exit→Act→World→Prop) (S:World→Prop) (T:Nat→Bool):Nat→Array Bool→Act→World→Prop
 | 0,listed,a,w=>Region.ready md ops listed=[]∧Q .normal a w
 | fuel+1,listed,a,w=>
  (Region.ready md ops listed=[]→Q .normal a w) ∧
  ∀ i∈Region.ready md ops listed,wpOp P ops Q i (fun a' w'=>(T i=true∨S w')∧wpAnyX P md ops Q S T fuel (listed.setIfInBounds i true) a' w') a w
theorem wpAny_of_x:∀ (fuel:Nat) (listed:Array Bool) (a:Act) (w:World),wpAnyX P md ops Q S T fuel listed a w→wpAny P md ops Q fuel listed a w
 | 0,_,_,_,h=>h
 | fuel+1,_,_,_,h=>⟨h.1,fun i hi=>wpOp_mono (fun a' w' h'=>wpAny_of_x fuel _ a' w' h'.2) (h.2 i hi)⟩
theorem unlisted {listed:Array Bool} {i:Nat} (h:i∈Region.ready md ops listed):listed.getD i false=false:=getD_both (mem_ready.1 h).1
theorem not_spared {listed:Array Bool} {i j:Nat} (hT:∀ j,T j=true→Region.waitsFor md ops j i=true) (hi:i∈Region.ready md ops listed) (hj:j∈Region.ready md ops listed):T j≠true:=by
 intro h
 obtain ⟨oj,ho,e,he,hb,hon⟩:=Region.waitsFor_spec (hT j h)
 obtain ⟨_,o',ho',hall⟩:=mem_ready.1 hj
 obtain rfl:o'=oj:=Option.some.inj (ho'.symm.trans ho)
 have:=hall e he hb
 rw [hon,unlisted hi] at this
 cases this
theorem wpAnyX_first {i:Nat} {oi:Oper} {v:Value} (hi:ops[i]?=some oi) (hsel:∀ (j:Nat) (o:Oper) cs b,ops[j]?=some o→o.op ≠ .select cs b)
  (hQ:∀ c a w,Q (.panic c) (a.put oi.dst v) w→Q (.panic c) a w) (hT:∀ j,T j=true→Region.waitsFor md ops j i=true) :
  ∀ (fuel:Nat) (listed:Array Bool) (a:Act) (w:World),
   (∀ j oj,ops[j]?=some oj→j≠i→listed.getD j true=false→(∀ e∈oj.after,Region.binds md e=true→e.on≠i)→oi.apart ops oj=true) →
   i∈Region.ready md ops listed→YieldsIf P ops S oi v a→S w →
   wpAnyX P md ops Q S T fuel (listed.setIfInBounds i true) (a.put oi.dst v) w→wpAnyX P md ops Q S T (fuel+1) listed a w
 | 0,listed,a,w,_,hr,hy,hS,H=>by
  refine ⟨fun h=>(by rw [h] at hr;cases hr),fun j hj=>?_⟩
  by_cases hji:j=i
  ·subst hji;exact hy.wpOp hi hS ⟨.inr hS,H⟩
  ·have:=ready_mono hj hji
   rw [H.1] at this
   cases this
 | fuel+1,listed,a,w,hfree,hr,hy,hS,H=>by
  refine ⟨fun h=>(by rw [h] at hr;cases hr),fun j hj=>?_⟩
  by_cases hji:j=i
  ·subst hji;exact hy.wpOp hi hS ⟨.inr hS,H⟩
  ·have h1:=H.2 j (ready_mono hj hji)
   obtain ⟨hjun,oj,hoj,hall⟩:=mem_ready.1 hj
   have hnot:∀ e∈oj.after,Region.binds md e=true→e.on≠i:=fun e he hb heq=>by
    have h1:=hall e he hb
    rw [heq,unlisted hr] at h1
    cases h1
   have hsp:=not_spared hT hr hj
   have h2:=wpOp_putIf hoj (hfree j oj hoj hji hjun hnot) (fun cs b=>hsel i oi cs b hi) (fun cs b=>hsel j oj cs b hoj) hQ hy h1
   have hfree':∀ k ok,ops[k]?=some ok→k≠i→(listed.setIfInBounds j true).getD k true=false →
     (∀ e∈ok.after,Region.binds md e=true→e.on≠i)→oi.apart ops ok=true:=fun k ok hk hki hun hno=>by
    refine hfree k ok hk hki ?_ hno
    by_cases hjk:j=k
    ·subst hjk;exact hjun
    ·rw [getD_set_ne true hjk] at hun;exact hun
   refine wpOp_mono (fun a' w' h3=>?_) h2
   have hS':S w':=h3.2.1.resolve_left hsp
   refine ⟨.inr hS',wpAnyX_first hi hsel hQ hT fuel (listed.setIfInBounds j true) a' w' hfree' (ready_mono hr (Ne.symm hji)) h3.1 hS' ?_⟩
   rw [Array.setIfInBounds_comm _ _ hji]
   exact h3.2.2
def sparedOk (md:Region.Mode) (ops:Array Oper) (l:List Nat) (i:Nat):Bool:=l.all fun j=>Region.waitsFor md ops j i
theorem wpAnyX_take {l:List Nat} {i:Nat} {oi:Oper} {v:Value} {fuel:Nat} {listed:Array Bool} {a:Act} {w:World} (hi:ops[i]?=some oi)
  (hs:Region.noSelect ops=true) (hf:Region.free md ops listed i=true) (hr:(Region.ready md ops listed).contains i=true) (hT:sparedOk md ops l i=true)
  (hQ:∀ c a w,Q (.panic c) (a.put oi.dst v) w→Q (.panic c) a w) (hy:YieldsIf P ops S oi v a) (hS:S w)
  (h:wpAnyX P md ops Q S (fun j=>l.contains j) fuel (listed.setIfInBounds i true) (a.put oi.dst v) w):wpAnyX P md ops Q S (fun j=>l.contains j) (fuel+1) listed a w:=
 wpAnyX_first hi (Region.noSelect_spec hs) hQ (fun j hj=>List.all_eq_true.1 hT j (by simpa using hj)) fuel listed a w (Region.free_spec hi hf) (by simpa using hr) hy hS h
theorem wpAnyX_tk {l:List Nat} {i:Nat} {oi:Oper} {v:Value} {fuel:Nat} {listed:Array Bool} {a:Act} {w:World} (hi:ops[i]?=some oi) (hy:YieldsIf P ops S oi v a)
  (h:wpAnyX P md ops Q S (fun j=>l.contains j) fuel (listed.setIfInBounds i true) (a.put oi.dst v) w)
  (hs:Region.noSelect ops=true:=by kernel_rfl) (hf:Region.free md ops listed i=true:=by kernel_rfl) (hr:(Region.ready md ops listed).contains i=true:=by kernel_rfl) (hT:sparedOk md ops l i=true:=by kernel_rfl)
  (hQ:∀ c a w,Q (.panic c) (a.put oi.dst v) w→Q (.panic c) a w:=by exact fun _ _ _ h=>h) (hS:S w:=by assumption):wpAnyX P md ops Q S (fun j=>l.contains j) (fuel+1) listed a w:=
 wpAnyX_take hi hs hf hr hT hQ hy hS h
theorem wpAnyX_pure {l:List Nat} {i:Nat} {oi:Oper} {v:Value} {fuel:Nat} {listed:Array Bool} {a:Act} {w:World} (hi:ops[i]?=some oi) (hr:Region.ready md ops listed=[i])
  (hy:Yields P ops oi v a) (hS:l.contains i=true∨S w)
  (h:wpAnyX P md ops Q S (fun j=>l.contains j) fuel (listed.setIfInBounds i true) (a.put oi.dst v) w):wpAnyX P md ops Q S (fun j=>l.contains j) (fuel+1) listed a w:=by
 refine ⟨fun h0=>(by rw [hr] at h0;cases h0),fun j hj=>?_⟩
 rw [hr] at hj
 obtain rfl:j=i:=by simpa using hj
 exact hy.wpOp hi ⟨hS,h⟩
theorem wpAnyX_one {l:List Nat} {i:Nat} {oi:Oper} {fuel:Nat} {listed:Array Bool} {a:Act} {w:World} (hr:Region.ready md ops listed=[i]) (hi:ops[i]?=some oi) (hg:oi.guard=none)
  (h:∀ K:Act→World→Prop,Shut (∀ a' w',(l.contains i=true∨S w')→((l.contains i=true∨S w')→wpAnyX P md ops Q S (fun j=>l.contains j) fuel (listed.setIfInBounds i true) a' w')→Exit.then K Q .normal a' w')→wpList P ops (Exit.then K Q) [oi] a w) :
  wpAnyX P md ops Q S (fun j=>l.contains j) (fuel+1) listed a w:=by
 refine ⟨fun h0=>(by rw [hr] at h0;cases h0),fun j hj=>?_⟩
 rw [hr] at hj
 obtain rfl:j=i:=by simpa using hj
 have h1:=h (fun a' w'=>(l.contains j=true∨S w')∧wpAnyX P md ops Q S (fun j=>l.contains j) fuel (listed.setIfInBounds j true) a' w') (fun a' w' hS hW=>⟨hS,hW hS⟩)
 have hw:Region.wanted oi (yielded ops a.tmps)=true:=by simp [Region.wanted,hg]
 unfold wpList at h1
 rw [if_pos hw] at h1
 unfold wpOp
 simp only [hi]
 rw [if_pos hw]
 rcases h1 with h1|⟨h1,h2⟩
 ·refine .inl ?_
  unfold Oper.wp at h1 ⊢
  generalize (execOp a.eval oi).run P w=r at *
  cases r with
  | ok n w'=>
   cases n <;> simp only [Oper.upon] at h1 ⊢ <;> first|exact h1|(refine Calls.mono h1 fun e w'' he=>?_;cases e <;> exact he)
  | halt x w'=>cases x <;> simp only [Oper.upon] at h1 ⊢ <;> exact h1
 ·exact .inr ⟨h1,by simpa [LetsOut,Exit.then] using h2⟩
theorem wpAnyX_tq {l:List Nat} (i:Nat) {oi:Oper} {v:Value} {fuel:Nat} {listed L':Array Bool} {a a':Act} {w:World}
  (h:wpAnyX P md ops Q S (fun j=>l.contains j) fuel L' a' w) (hi:ops[i]?=some oi:=by rfl)
  (hy:YieldsIf P ops S oi v a:=by exact Or.inl ⟨by rfl,by (intro w hSw;(try dsimp only at hSw);go_simp;(try with_reducible rfl))⟩)
  (hL:listed.setIfInBounds i true=L':=by (try simp only [List.setIfInBounds_toArray,List.set_cons_zero,List.set_cons_succ]);exact rfl)
  (ha:a.put oi.dst v=a':=by (try simp only [Act.put,List.setIfInBounds_toArray,List.set_cons_zero,List.set_cons_succ,List.getElem_toArray,List.getElem_cons_zero,List.getElem_cons_succ]);exact rfl)
  (hs:Region.noSelect ops=true:=by kernel_rfl) (hf:Region.free md ops listed i=true:=by kernel_rfl) (hr:(Region.ready md ops listed).contains i=true:=by kernel_rfl) (hT:sparedOk md ops l i=true:=by kernel_rfl)
  (hQ:∀ c a w,Q (.panic c) (a.put oi.dst v) w→Q (.panic c) a w:=by exact fun _ _ _ h=>h) (hS:S w:=by assumption):wpAnyX P md ops Q S (fun j=>l.contains j) (fuel+1) listed a w:=by
 subst hL;subst ha;exact wpAnyX_take hi hs hf hr hT hQ hy hS h
theorem wpAnyX_ps {l:List Nat} (i:Nat) {oi:Oper} {v:Value} {fuel:Nat} {listed L':Array Bool} {a a':Act} {w:World}
  (h:wpAnyX P md ops Q S (fun j=>l.contains j) fuel L' a' w) (hr:Region.ready md ops listed=[i]:=by kernel_rfl) (hi:ops[i]?=some oi:=by rfl)
  (hy:Yields P ops oi v a:=by exact Or.inl ⟨by rfl,by (intro w;go_simp;(try with_reducible rfl))⟩)
  (hL:listed.setIfInBounds i true=L':=by (try simp only [List.setIfInBounds_toArray,List.set_cons_zero,List.set_cons_succ]);exact rfl)
  (ha:a.put oi.dst v=a':=by (try simp only [Act.put,List.setIfInBounds_toArray,List.set_cons_zero,List.set_cons_succ,List.getElem_toArray,List.getElem_cons_zero,List.getElem_cons_succ]);exact rfl)
  (hS:l.contains i=true∨S w:=by exact Or.inr (by assumption)):wpAnyX P md ops Q S (fun j=>l.contains j) (fuel+1) listed a w:=by
 subst hL;subst ha;exact wpAnyX_pure hi hr hy hS h
theorem wpAnyX_oq {l:List Nat} (i:Nat) {oi:Oper} {fuel:Nat} {listed:Array Bool} {a:Act} {w:World}
  (h:∀ K:Act→World→Prop,Shut (∀ a' w',(l.contains i=true∨S w')→((l.contains i=true∨S w')→wpAnyX P md ops Q S (fun j=>l.contains j) fuel (listed.setIfInBounds i true) a' w')→Exit.then K Q .normal a' w')→wpList P ops (Exit.then K Q) [oi] a w)
  (hr:Region.ready md ops listed=[i]:=by kernel_rfl) (hi:ops[i]?=some oi:=by (try simp only [List.getElem?_toArray,List.getElem?_cons_zero,List.getElem?_cons_succ]);exact rfl) (hg:oi.guard=none:=by rfl) :
  wpAnyX P md ops Q S (fun j=>l.contains j) (fuel+1) listed a w:=wpAnyX_one hr hi hg h
theorem wpAnyX_done {listed:Array Bool} {a:Act} {w:World} (hr:Region.ready md ops listed=[]) (h:Q .normal a w):∀ fuel,wpAnyX P md ops Q S T fuel listed a w
 | 0=>⟨hr,h⟩
 | _+1=>⟨fun _=>h,by rw [hr];simp⟩
theorem wp_region_x {l:List Nat} {id:Nat} {a:Act} {w:World} (hm:P.follows .mixedOrders=true) (hS:S w.drew)
  (h:S w.drew→wpAnyX P .any ops Q S (fun j=>l.contains j) ops.size (Array.replicate ops.size false) a w.drew):(Code.region id ops true).wp P Q a w:=
 wp_region_any hm (wpAny_of_x _ _ _ _ (h hS))
end
section
variable {P:Program} {ops:Array Oper} {Q:Exit→Act→World→Prop} {md:Region.Mode} {S:World→Prop}
theorem wpAnyX_onew {l:List Nat} {i:Nat} {oi:Oper} {fuel:Nat} {listed:Array Bool} {a:Act} {w:World} (hr:Region.ready md ops listed=[i]) (hi:ops[i]?=some oi) (hw:Region.wanted oi (yielded ops a.tmps)=true)
  (h:∀ K:Act→World→Prop,Shut (∀ a' w',(l.contains i=true∨S w')→((l.contains i=true∨S w')→wpAnyX P md ops Q S (fun j=>l.contains j) fuel (listed.setIfInBounds i true) a' w')→Exit.then K Q .normal a' w')→Oper.wp P oi a w (fun a' w'=>Exit.then K Q .normal a' w') (Exit.then K Q)) :
  wpAnyX P md ops Q S (fun j=>l.contains j) (fuel+1) listed a w:=by
 refine ⟨fun h0=>(by rw [hr] at h0;cases h0),fun j hj=>?_⟩
 rw [hr] at hj
 obtain rfl:j=i:=by simpa using hj
 have h1:=h (fun a' w'=>(l.contains j=true∨S w')∧wpAnyX P md ops Q S (fun j=>l.contains j) fuel (listed.setIfInBounds j true) a' w') (fun a' w' hS hW=>⟨hS,hW hS⟩)
 unfold wpOp
 simp only [hi]
 rw [if_pos hw]
 refine .inl ?_
 unfold Oper.wp at h1 ⊢
 generalize (execOp a.eval oi).run P w=r at *
 cases r with
 | ok n w'=>
  cases n <;> simp only [Oper.upon] at h1 ⊢ <;> first|exact h1|(refine Calls.mono h1 fun e w'' he=>?_;cases e <;> exact he)
 | halt x w'=>cases x <;> simp only [Oper.upon] at h1 ⊢ <;> exact h1
end
def Pend (b:Bool) (base:Nat) (t:TypeId) (z:Array Value) (x:Value) (w:World):Prop:=b=true→∃ p,x = .pointer (some ⟨p,0,none⟩)∧base≤p∧Blk w p t z
def Two (b c:Bool) (x y:Value):Prop:=b=true→c=true→x≠y
theorem Pend.no {base:Nat} {t:TypeId} {z:Array Value} {x:Value} {w:World}:Pend false base t z x w:=fun h=>by cases h
theorem Pend.lt {b:Bool} {base:Nat} {t:TypeId} {z:Array Value} {x:Value} {w:World} (h:Pend b base t z x w) (hb:b=true):x ≠ .pointer (some ⟨w.heap.size,0,none⟩):=by
 obtain ⟨p,rfl,h2,h3⟩:=h hb
 intro e
 injection e with e
 injection e with e
 injection e with e
 have:=h3.lt
 omega
def left2 (b c:Bool):Nat:=(if b=true then 0 else 1)+(if c=true then 0 else 1)
section
variable {P:Program} {ops:Array Oper} {Q:Exit→Act→World→Prop} {md:Region.Mode} {S:World→Prop} {l:List Nat}
structure Lays (P:Program) (ops:Array Oper) (j d:Nat) (t:TypeId) (z:Array Value):Prop where
 run:∃ o,ops[j]?=some o∧o.guard=none∧o.dst=some d∧∀ (a:Act) (w:World),(execOp a.eval o).run P w = .ok (.value (.pointer (some ⟨w.heap.size,0,none⟩))) (w.alloc (.cells z t))
theorem Lays.wpOp {j d:Nat} {t:TypeId} {z:Array Value} (h:Lays P ops j d t z) {K:Act→World→Prop} {a:Act} {w:World} (hK:K (a.put (some d) (.pointer (some ⟨w.heap.size,0,none⟩))) (w.alloc (.cells z t))):wpOp P ops Q j K a w:=by
 obtain ⟨o,h1,h2,h3,h4⟩:=h.run
 unfold Go.wpOp
 simp only [h1]
 rw [if_pos (by simp [Region.wanted,h2])]
 refine .inl ?_
 unfold Oper.wp
 rw [h4,Oper.upon_value,h3]
 exact hK
theorem wpOp_one {i:Nat} {oi:Oper} {K:Act→World→Prop} {a:Act} {w:World} (hi:ops[i]?=some oi) (hg:oi.guard=none)
  (h1:wpList P ops (Exit.then K Q) [oi] a w):Go.wpOp P ops Q i K a w:=by
 have hw:Region.wanted oi (yielded ops a.tmps)=true:=by simp [Region.wanted,hg]
 unfold wpList at h1
 rw [if_pos hw] at h1
 unfold Go.wpOp
 simp only [hi]
 rw [if_pos hw]
 rcases h1 with h1|⟨h1,h2⟩
 ·refine .inl ?_
  unfold Oper.wp at h1 ⊢
  generalize (execOp a.eval oi).run P w=r at *
  cases r with
  | ok n w'=>
   cases n <;> simp only [Oper.upon] at h1 ⊢ <;> first|exact h1|(refine Calls.mono h1 fun e w'' he=>?_;cases e <;> exact he)
  | halt x w'=>cases x <;> simp only [Oper.upon] at h1 ⊢ <;> exact h1
 ·exact .inr ⟨h1,by simpa [LetsOut,Exit.then] using h2⟩
def phaseOk (md:Region.Mode) (ops:Array Oper) (L:Bool→Bool→Array Bool) (i j1 j2:Nat):Bool:=
 [true,false].all fun b=>[true,false].all fun c=>(Region.ready md ops (L b c)).all (fun k=>k == i || (k == j1 && !b) || (k == j2 && !c)) && !(Region.ready md ops (L b c)).isEmpty
theorem phaseOk_spec {L:Bool→Bool→Array Bool} {i j1 j2:Nat} (h:phaseOk md ops L i j1 j2=true) (b c:Bool) :
  (∀ k∈Region.ready md ops (L b c),k=i∨(k=j1∧b=false)∨(k=j2∧c=false))∧Region.ready md ops (L b c)≠[]:=by
 unfold phaseOk at h
 have h1:=List.all_eq_true.1 (List.all_eq_true.1 h b (by cases b <;> simp)) c (by cases c <;> simp)
 rw [Bool.and_eq_true] at h1
 refine ⟨fun k hk=>?_,fun e=>by rw [e] at h1;simp at h1⟩
 have:=List.all_eq_true.1 h1.1 k hk
 simp only [Bool.or_eq_true,Bool.and_eq_true,beq_iff_eq,Bool.not_eq_true'] at this
 exact or_assoc.1 this
end
def left1 (b:Bool):Nat:=if b=true then 0 else 1
section
variable {P:Program} {ops:Array Oper} {Q:Exit→Act→World→Prop} {md:Region.Mode} {S:World→Prop} {l:List Nat}
theorem wpX_startA {j d:Nat} {t:TypeId} {z:Array Value} {T:Nat→Bool} {n n':Nat} {listed listed':Array Bool} {a:Act} {w:World} (a1:Lays P ops j d t z)
  (hn:n'=n) (hl:listed'=listed) (h:Lays P ops j d t z→wpAnyX P md ops Q S T n listed a w):wpAnyX P md ops Q S T n' listed' a w:=by subst hn;subst hl;exact h a1
def phaseOk1 (md:Region.Mode) (ops:Array Oper) (L:Bool→Array Bool) (i j:Nat):Bool:=
 [true,false].all fun b=>(Region.ready md ops (L b)).all (fun k=>k == i || (k == j && !b)) && !(Region.ready md ops (L b)).isEmpty
theorem phaseOk1_spec {L:Bool→Array Bool} {i j:Nat} (h:phaseOk1 md ops L i j=true) (b:Bool) :
  (∀ k∈Region.ready md ops (L b),k=i∨(k=j∧b=false))∧Region.ready md ops (L b)≠[]:=by
 unfold phaseOk1 at h
 have h1:=List.all_eq_true.1 h b (by cases b <;> simp)
 rw [Bool.and_eq_true] at h1
 refine ⟨fun k hk=>?_,fun e=>by rw [e] at h1;simp at h1⟩
 have:=List.all_eq_true.1 h1.1 k hk
 simpa only [Bool.or_eq_true,Bool.and_eq_true,beq_iff_eq,Bool.not_eq_true'] using this
theorem wpX_phaseA {j d base i:Nat} {oi:Oper} {t:TypeId} {z:Array Value} (a1:Lays P ops j d t z) {f:Nat} {L L':Bool→Array Bool} {A:Value→Act} {G:World→Prop}
  (r:phaseOk1 md ops L i j=true) (hi:ops[i]?=some oi) (hg:oi.guard=none)
  (e1:(L false).setIfInBounds j true=L true) (e3:∀ b,(L b).setIfInBounds i true=L' b)
  (p1:∀ x u,(A x).put (some d) u=A u)
  (hS:∀ w,G w→S w) (hG:∀ w o,G w→G (w.alloc o)) (hB:∀ w,G w→base≤w.heap.size)
  (main:∀ b x w,G w→Pend b base t z x w→∀ K:Act→World→Prop,
   Shut (∀ a' w',(l.contains i=true∨S w')→wpAnyX P md ops Q S (fun j=>l.contains j) (f+left1 b) (L' b) a' w'→Exit.then K Q .normal a' w')→wpList P ops (Exit.then K Q) [oi] (A x) w) :
  ∀ b x w,G w→Pend b base t z x w→wpAnyX P md ops Q S (fun j=>l.contains j) (f+1+left1 b) (L b) (A x) w:=by
 have step:∀ b,(b=false→∀ x w,G w→Pend true base t z x w→wpAnyX P md ops Q S (fun j=>l.contains j) (f+1+left1 true) (L true) (A x) w) →
   ∀ x w,G w→Pend b base t z x w→wpAnyX P md ops Q S (fun j=>l.contains j) (f+1+left1 b) (L b) (A x) w:=by
  intro b hb x w hGw hx
  have he:f+1+left1 b=(f+left1 b)+1:=by omega
  rw [he]
  obtain ⟨r1,r2⟩:=phaseOk1_spec r b
  refine ⟨fun h0=>absurd h0 r2,fun k hk=>?_⟩
  rcases r1 k hk with rfl|⟨rfl,rfl⟩
  ·rw [e3]
   exact wpOp_one hi hg (main b x w hGw hx _ (fun a' w' hS' hW=>⟨hS',hW⟩))
  ·refine a1.wpOp ⟨.inr (hS _ (hG w _ hGw)),?_⟩
   rw [p1,e1]
   have hl:f+left1 false=f+1+left1 true:=by simp [left1]
   rw [hl]
   exact hb rfl _ _ (hG w _ hGw) (fun _=>⟨_,rfl,hB w hGw,Blk.new w _ _⟩)
 have tt:=step true (fun h=>by cases h)
 have ff:=step false (fun _=>tt)
 intro b
 cases b
 ·exact ff
 ·exact tt
theorem wpX_phaseA' {j d base i:Nat} {oi:Oper} {t:TypeId} {z:Array Value} (a1:Lays P ops j d t z) {f:Nat} {L L':Bool→Array Bool} {G:World→Prop}
  {x:Value} {w:World} {n:Nat} {listed:Array Bool} {a:Act} (hn:f+1+left1 false=n) (hl:L false=listed) (ha:a.put (some d) x=a)
  (r:phaseOk1 md ops L i j=true) (hi:ops[i]?=some oi) (hg:oi.guard=none)
  (e1:(L false).setIfInBounds j true=L true) (e3:∀ b,(L b).setIfInBounds i true=L' b)
  (p1:∀ x u,((a.put (some d) x).put (some d) u)=a.put (some d) u)
  (hS:∀ w,G w→S w) (hG:∀ w o,G w→G (w.alloc o)) (hB:∀ w,G w→base≤w.heap.size) (hw:G w)
  (main:∀ b x w,G w→Pend b base t z x w→∀ K:Act→World→Prop,
   Shut (∀ a' w',(l.contains i=true∨S w')→wpAnyX P md ops Q S (fun j=>l.contains j) (f+left1 b) (L' b) a' w'→Exit.then K Q .normal a' w')→wpList P ops (Exit.then K Q) [oi] (a.put (some d) x) w) :
  wpAnyX P md ops Q S (fun j=>l.contains j) n listed a w:=by
 have h:=wpX_phaseA a1 (A:=fun x=>a.put (some d) x) r hi hg e1 e3 p1 hS hG hB main false x w hw Pend.no
 subst hn;subst hl
 simp only [ha] at h
 exact h
def layOk1 (md:Region.Mode) (ops:Array Oper) (L:Bool→Array Bool) (j:Nat):Bool:=
 (Region.ready md ops (L false)).all (fun k=>k == j) && !(Region.ready md ops (L false)).isEmpty
theorem wpX_layA' {j d base:Nat} {t:TypeId} {z:Array Value} (a1:Lays P ops j d t z) {f:Nat} {L:Bool→Array Bool} {A:Value→Act} {G:World→Prop}
  {b:Bool} {x:Value} {w:World} {n:Nat} {listed:Array Bool} {a:Act} (hn:f+left1 b=n) (hl:L b=listed) (ha:A x=a)
  (r:layOk1 md ops L j=true) (e1:(L false).setIfInBounds j true=L true) (p1:∀ x u,(A x).put (some d) u=A u)
  (hS:∀ w,G w→S w) (hG:∀ w o,G w→G (w.alloc o)) (hB:∀ w,G w→base≤w.heap.size) (hw:G w) (hx:Pend b base t z x w)
  (fin:∀ q w,G w→base≤q→Blk w q t z→wpAnyX P md ops Q S (fun j=>l.contains j) f (L true) (A (.pointer (some ⟨q,0,none⟩))) w) :
  wpAnyX P md ops Q S (fun j=>l.contains j) n listed a w:=by
 subst hn;subst hl;subst ha
 cases b with
 | true=>
  obtain ⟨q,rfl,h1,h2⟩:=hx rfl
  exact fin q w hw h1 h2
 | false=>
  have he:f+left1 false=f+1:=rfl
  rw [he]
  unfold layOk1 at r
  rw [Bool.and_eq_true] at r
  refine ⟨fun h0=>by rw [h0] at r;simp at r,fun k hk=>?_⟩
  have:=List.all_eq_true.1 r.1 k hk
  simp only [beq_iff_eq] at this
  subst this
  refine a1.wpOp ⟨.inr (hS _ (hG w _ hw)),?_⟩
  rw [p1,e1]
  exact fin _ _ (hG w _ hw) (hB w hw) (Blk.new w _ _)
end
section
variable {P:Program} {ops:Array Oper} {Q:Exit→Act→World→Prop} {md:Region.Mode} {S:World→Prop} {l:List Nat}
def takeOk1 (md:Region.Mode) (ops:Array Oper) (L:Bool→Array Bool) (i:Nat):Bool:=
 [true,false].all fun b=>Region.free md ops (L b) i && (Region.ready md ops (L b)).contains i
theorem wpX_takeA' {i:Nat} {oi:Oper} {v:Value} {f:Nat} {L L':Bool→Array Bool} {b:Bool} {a:Act} {w:World} {n:Nat} {listed:Array Bool} (hn:f+1+left1 b=n) (hl:L b=listed) (hi:ops[i]?=some oi)
  (hs:Region.noSelect ops=true) (r:takeOk1 md ops L i=true) (hT:sparedOk md ops l i=true) (e3:∀ b,(L b).setIfInBounds i true=L' b)
  (hQ:∀ c a w,Q (.panic c) (a.put oi.dst v) w→Q (.panic c) a w) (hy:YieldsIf P ops S oi v a) (hS:S w)
  (h:wpAnyX P md ops Q S (fun j=>l.contains j) (f+left1 b) (L' b) (a.put oi.dst v) w):wpAnyX P md ops Q S (fun j=>l.contains j) n listed a w:=by
 subst hn;subst hl
 have he:f+1+left1 b=(f+left1 b)+1:=by omega
 rw [he]
 have h1:=List.all_eq_true.1 r b (by cases b <;> simp)
 rw [Bool.and_eq_true] at h1
 exact wpAnyX_take hi hs h1.1 h1.2 hT hQ hy hS (by rw [e3];exact h)
theorem wpX_phaseB' {j d base i:Nat} {oi:Oper} {t:TypeId} {z:Array Value} (a1:Lays P ops j d t z) {f:Nat} {L L':Bool→Array Bool} {G:World→Prop}
  {b:Bool} {x:Value} {w:World} {n:Nat} {listed:Array Bool} {a:Act} (hn:f+1+left1 b=n) (hl:L b=listed) (ha:a.put (some d) x=a)
  (r:phaseOk1 md ops L i j=true) (hi:ops[i]?=some oi) (hg:oi.guard=none)
  (e1:(L false).setIfInBounds j true=L true) (e3:∀ b,(L b).setIfInBounds i true=L' b)
  (p1:∀ x u,((a.put (some d) x).put (some d) u)=a.put (some d) u)
  (hS:∀ w,G w→S w) (hG:∀ w o,G w→G (w.alloc o)) (hB:∀ w,G w→base≤w.heap.size) (hw:G w) (hx:Pend b base t z x w)
  (main:∀ b x w,G w→Pend b base t z x w→∀ K:Act→World→Prop,
   Shut (∀ a' w',(l.contains i=true∨S w')→wpAnyX P md ops Q S (fun j=>l.contains j) (f+left1 b) (L' b) a' w'→Exit.then K Q .normal a' w')→wpList P ops (Exit.then K Q) [oi] (a.put (some d) x) w) :
  wpAnyX P md ops Q S (fun j=>l.contains j) n listed a w:=by
 have h:=wpX_phaseA a1 (A:=fun x=>a.put (some d) x) r hi hg e1 e3 p1 hS hG hB main b x w hw hx
 subst hn;subst hl
 simp only [ha] at h
 exact h
end
structure Pr where (field text:ByteArray)
structure Sc where (member:ByteArray) (n:Int)
def Pr.cells (x:Pr):List Value:=[.string x.field,.string x.text]
def Sc.cells (x:Sc):List Value:=[.string x.member,.int .i64 x.n]
def pairRows (l:List Pr):List (List Value):=l.map Pr.cells
structure PrAt (w:World) (b o:Nat) (x:Pr):Prop where
 c0:w.cell? ⟨b,o,none⟩=some (.string x.field)
 c1:w.cell? ⟨b,o+1,none⟩=some (.string x.text)
theorem Seg.pair {w:World} {A:Option Addr} {l:List Pr} (h:Seg w 2 A (pairRows l)) {k:Nat} (hk:k<l.length) :
  ∃ b off,A=some ⟨b,off,none⟩∧b<w.heap.size∧PrAt w b (off+k*2) l[k]:=by
 obtain ⟨b,off,e,hb,hc⟩:=h.at_ (i:=k) (by simpa [pairRows] using hk)
 have hc':∀ j u,l[k].cells[j]?=some u→w.cell? ⟨b,off+k*2+j,none⟩=some u:=by
  intro j u hu
  rw [Nat.add_assoc]
  exact hc j u (by simpa [pairRows] using hu)
 exact ⟨b,off,e,hb,hc' 0 _ rfl,hc' 1 _ rfl⟩
theorem pair_one:∀ (l:List Pr),∀ r∈pairRows l,∀ u∈r,u.oneCell'=true:=by
 intro l r hr u hu
 obtain ⟨x,_,rfl⟩:=List.mem_map.1 hr
 simp only [Pr.cells,List.mem_cons,List.not_mem_nil,or_false] at hu
 rcases hu with rfl|rfl <;> rfl
def scoreRows (l:List Sc):List (List Value):=l.map Sc.cells
structure ScAt (w:World) (b o:Nat) (x:Sc):Prop where
 c0:w.cell? ⟨b,o,none⟩=some (.string x.member)
 c1:w.cell? ⟨b,o+1,none⟩=some (.int .i64 x.n)
theorem Seg.score {w:World} {A:Option Addr} {l:List Sc} (h:Seg w 2 A (scoreRows l)) {k:Nat} (hk:k<l.length) :
  ∃ b off,A=some ⟨b,off,none⟩∧b<w.heap.size∧ScAt w b (off+k*2) l[k]:=by
 obtain ⟨b,off,e,hb,hc⟩:=h.at_ (i:=k) (by simpa [scoreRows] using hk)
 have hc':∀ j u,l[k].cells[j]?=some u→w.cell? ⟨b,off+k*2+j,none⟩=some u:=by
  intro j u hu
  rw [Nat.add_assoc]
  exact hc j u (by simpa [scoreRows] using hu)
 exact ⟨b,off,e,hb,hc' 0 _ rfl,hc' 1 _ rfl⟩
theorem pair_info:(Tryz.prog.info? 160).map (fun i=>(i.zero,i.size,i.bytes))=some (some (.agg #[.string ByteArray.empty,.string ByteArray.empty]),2,32):=by kernel_rfl
theorem Clone_pair (A:Option Addr) (n c:Nat) (rows:List (List Value)) (w:World) (h:Sl w 2 A n c rows) (h1:∀ r∈rows,∀ u∈r,u.oneCell'=true) (hb:n*32≤140737488355328) :
  Calls Tryz.prog 73 #[.slice A n c] w fun e w'=>∃ v,e = .returned v∧Own w' w.heap.size 160 2 v rows∧Below w.heap.size w w':=by
 have hS:=h
 obtain ⟨hl,hnc,hcm,hn0,hs,hr⟩:=h
 have hq:=fun w=>Lib.run_eql_slice_nil (P:=Tryz.prog) w 79 160 A n c 0 0 Tryz.underlying79
 cases A with
 | none=>
  obtain rfl:=hn0 rfl
  obtain rfl:n=0:=by omega
  obtain rfl:=List.eq_nil_of_length_eq_zero hl
  go_enter Tryz.func73,Tryz.ntmps73
  go_wp2_with fail
  go_ret
  exact ⟨_,rfl,Own.nil,below_by⟩
 | some a=>
  by_cases hn:n=0
  ·subst hn
   obtain rfl:=List.eq_nil_of_length_eq_zero hl
   go_enter Tryz.func73,Tryz.ntmps73
   go_wp2_with fail
   go_ret
   exact ⟨_,rfl,Own.empty _ _ _ (Nat.le_refl _),below_by⟩
  ·go_enter Tryz.func73,Tryz.ntmps73
   go_wp2_with (at_builtin;refine wpList_grow rfl _ _ _ rfl Tryz.underlying79 pair_info rfl (by decide) (rows:=[]) rfl rfl (by simp) Seg.nil (by simp) rfl hl hr (hs.alloc _) h1 (by omega) (by omega) (by rw [Nat.zero_add];omega) (by omega) ?_;intro v' w1 hown hb1)
   go_ret
   exact ⟨_,rfl,by simpa using hown.mono (by simp),bstep below_by hb1⟩
theorem score_info:(Tryz.prog.info? 163).map (fun i=>(i.zero,i.size,i.bytes))=some (some (.agg #[.string ByteArray.empty,.int .i64 0]),2,24):=by kernel_rfl
theorem text_info:(Tryz.prog.info? 9).map (fun i=>(i.zero,i.size,i.bytes))=some (some (.string ByteArray.empty),1,16):=by kernel_rfl
theorem Clone_text (A:Option Addr) (n c:Nat) (rows:List (List Value)) (w:World) (h:Sl w 1 A n c rows) (h1:∀ r∈rows,∀ u∈r,u.oneCell'=true) (hb:n*16≤140737488355328) :
  Calls Tryz.prog 50 #[.slice A n c] w fun e w'=>∃ v,e = .returned v∧Own w' w.heap.size 9 1 v rows∧Below w.heap.size w w':=by
 have hS:=h
 obtain ⟨hl,hnc,hcm,hn0,hs,hr⟩:=h
 have hq:=fun w=>Lib.run_eql_slice_nil (P:=Tryz.prog) w 74 9 A n c 0 0 Tryz.underlying74
 cases A with
 | none=>
  obtain rfl:=hn0 rfl
  obtain rfl:n=0:=by omega
  obtain rfl:=List.eq_nil_of_length_eq_zero hl
  go_enter Tryz.func50,Tryz.ntmps50
  go_wp2_with fail
  go_ret
  exact ⟨_,rfl,Own.nil,below_by⟩
 | some a=>
  by_cases hn:n=0
  ·subst hn
   obtain rfl:=List.eq_nil_of_length_eq_zero hl
   go_enter Tryz.func50,Tryz.ntmps50
   go_wp2_with fail
   go_ret
   exact ⟨_,rfl,Own.empty _ _ _ (Nat.le_refl _),below_by⟩
  ·go_enter Tryz.func50,Tryz.ntmps50
   go_wp2_with (at_builtin;refine wpList_grow rfl _ _ _ rfl Tryz.underlying74 text_info rfl (by decide) (rows:=[]) rfl rfl (by simp) Seg.nil (by simp) rfl hl hr (hs.alloc _) h1 (by omega) (by omega) (by rw [Nat.zero_add];omega) (by omega) ?_;intro v' w1 hown hb1)
   go_ret
   exact ⟨_,rfl,by simpa using hown.mono (by simp),bstep below_by hb1⟩
structure Va where
 kind:Int
 text:ByteArray
 count:Int
 pairs:List Pr
 items:List ByteArray
 scores:List Sc
structure VSl (w:World) (v:Va) (A1:Option Addr) (n1 c1:Nat) (A2:Option Addr) (n2 c2:Nat) (A3:Option Addr) (n3 c3:Nat):Prop where
 p:Sl w 2 A1 n1 c1 (pairRows v.pairs)
 i:Sl w 1 A2 n2 c2 (strRows v.items)
 s:Sl w 2 A3 n3 c3 (scoreRows v.scores)
section
variable {w w':World} {v:Va} {A1 A2 A3:Option Addr} {n1 c1 n2 c2 n3 c3:Nat}
theorem VSl.bl (h:VSl w v A1 n1 c1 A2 n2 c2 A3 n3 c3) (hb:Below w.heap.size w w'):VSl w' v A1 n1 c1 A2 n2 c2 A3 n3 c3:=⟨h.p.below hb,h.i.below hb,h.s.below hb⟩
theorem VSl.n1_ (h:VSl w v A1 n1 c1 A2 n2 c2 A3 n3 c3):v.pairs.length=n1:=by have:=h.p.len;simpa [pairRows] using this
theorem VSl.n2_ (h:VSl w v A1 n1 c1 A2 n2 c2 A3 n3 c3):v.items.length=n2:=by have:=h.i.len;simpa [strRows] using this
theorem VSl.n3_ (h:VSl w v A1 n1 c1 A2 n2 c2 A3 n3 c3):v.scores.length=n3:=by have:=h.s.len;simpa [scoreRows] using this
end
theorem str_one:∀ (l:List ByteArray),∀ r∈strRows l,∀ u∈r,u.oneCell'=true:=by
 intro l r hr u hu
 obtain ⟨x,_,rfl⟩:=List.mem_map.1 hr
 simp only [List.mem_cons,List.not_mem_nil,or_false] at hu
 subst hu;rfl
theorem own_slice {w:World} {B size:Nat} {e:TypeId} {v:Value} {rows:List (List Value)} (h:Own w B e size v rows):∃ A n c,v = .slice A n c:=by
 obtain ⟨A,c,hv,_⟩:=h.sl
 exact ⟨A,_,c,hv⟩
end Go.Proofs.YtgdcofbnbiclmaaGreatDoor

