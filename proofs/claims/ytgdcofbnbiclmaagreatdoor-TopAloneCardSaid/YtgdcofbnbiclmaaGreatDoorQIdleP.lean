import Derived.Test.YtgdcofbnbiclmaaGreatDoorQIdle
namespace Go.Proofs.YtgdcofbnbiclmaaGreatDoor
set_option linter.all false
set_option maxHeartbeats 32000000
open Go.RowKit
section
variable {s:Cw} {i j:Nat}
def startK (p:Int):Int:=if p=0 then 10 else if p=1 then 3 else if p=2 then 4 else if p=3 then 12 else if p=4 then 11 else if p=5 then 9 else 5
def startA (l:List Int) (k:Nat):List ActD:=(l.take k).map fun x=>bareAct (startK (picked x 7)) 0 0
def startActs (l:List Int):List ActD:=startA l 20 ++ [bareAct 10 0 0]
theorem startK_ok (p:Int):checkAct (bareAct (startK p) 0 0)=0∧startK p≠1∧startK p≠2:=by
 unfold startK
 repeat' split
 all_goals exact ⟨by decide +kernel,by decide,by decide⟩
theorem start_ok (l:List Int):∀ a∈startActs l,checkAct a=0∧a.kind≠1∧a.kind≠2:=by
 intro a ha
 rcases List.mem_append.1 ha with h|h
 ·obtain ⟨x,-,rfl⟩:=List.mem_map.1 h
  exact startK_ok _
 ·simp at h;subst h;exact ⟨by decide +kernel,by decide,by decide⟩
theorem mute_run:∀ (l:List ActD) (s:Cw),(∀ a∈l,checkAct a=0∧a.kind≠1∧a.kind≠2)→Mute s→Mute (l.foldl Cw.go s)
 | [],_,_,h=>h
 | a :: l,s,ha,h=>mute_run l _ (fun b hb=>ha b (by simp [hb])) (go_mute h (actOk_of (ha a (by simp)).1) (ha a (by simp)).2)
theorem mute0:Mute newC:=⟨idle0,fun x hx=>by match x,hx with|0,_=>rfl|1,_=>rfl|2,_=>rfl,rfl,rfl⟩
theorem runC_app (a b:List ActD):runC (a ++ b)=b.foldl Cw.go (runC a):=by unfold runC;rw [List.foldl_append]
theorem start_mute (l:List Int):Mute (runC (startActs l))∧((runC (startActs l)).nd.get 0).up=true:=by
 refine ⟨mute_run _ _ (start_ok l) mute0,?_⟩
 unfold startActs
 rw [runC_app]
 show ((Cw.go _ (bareAct 10 0 0)).nd.get 0).up=true
 rfl
def aloneActs (l:List ActD) (i:Nat):List ActD:=bareAct 9 (((i+1) % 3:Nat):Int) 0 :: bareAct 9 (((i+2) % 3:Nat):Int) 0 :: l.filter fun a=>a.kind != 10
theorem crash_act {j:Nat} (hj:j<3):checkAct (bareAct 9 (j:Int) 0)=0:=bare_ok (by omega) (by omega) (.inl ⟨rfl,by omega,by omega⟩) (.inl ⟨rfl,by omega,by omega⟩)
theorem alone_ok {l:List ActD} (h:∀ a∈l,checkAct a=0) (i:Nat):∀ a∈aloneActs l i,checkAct a=0∧a.kind≠10:=by
 intro a ha
 unfold aloneActs at ha
 rcases List.mem_cons.1 ha with rfl|ha
 ·exact ⟨crash_act (by omega),by show (9:Int)≠10;omega⟩
 rcases List.mem_cons.1 ha with rfl|ha
 ·exact ⟨crash_act (by omega),by show (9:Int)≠10;omega⟩
 obtain ⟨h1,h2⟩:=List.mem_filter.1 ha
 exact ⟨h a h1,by simpa using h2⟩
theorem go_kind9 {a:ActD} (h9:a.kind=9) (hj:a.node.toNat<3):((s.go a).nd.get a.node.toNat).up=false:=by
 unfold Cw.go
 simp only
 rw [if_neg (by omega),if_neg (by omega),if_neg (by omega),if_neg (by omega),if_neg (by omega),if_neg (by omega)]
 split
 ·unfold Cw.act
  simp only
  rw [if_neg (by omega),if_neg (by omega),if_neg (by omega),if_pos h9]
  rw [idle_put_get hj _ _ hj,if_pos rfl]
  rfl
 ·rename_i h;simpa using h
theorem go_crash (hj:j<3):((s.go (bareAct 9 (j:Int) 0)).nd.get j).up=false:=go_kind9 (a:=bareAct 9 (j:Int) 0) rfl (by show (j:Int).toNat<3;omega)
structure Fine (s:Cw):Prop where
 idle:Idle s
 away:s.away.length≤300
 told:s.told.length≤3000
 lists:∀ t∈s.told,t.rep.list=[]
theorem alone_run:∀ (l:List ActD) (s:Cw),(∀ a∈l,checkAct a=0∧a.kind≠10)→Alone i s→s.told.length+l.length≤3000→Fine s→Alone i (l.foldl Cw.go s)∧Fine (l.foldl Cw.go s)
 | [],_,_,h,_,f=>⟨h,f⟩
 | a :: l,s,ha,h,hn,f=>by
  obtain ⟨h1,I⟩:=go_alone h (actOk_of (ha a (by simp)).1) (ha a (by simp)).2
  have ht:=I.told
  simp only [List.length_cons] at hn
  exact alone_run l (s.go a) (fun b hb=>ha b (by simp [hb])) h1 (by omega) ⟨I.idle,I.al f.away,by omega,fun t h=>(I.lists t h).elim (f.lists t) id⟩
theorem fine0:Fine newC:=⟨idle0,by show 0≤300;omega,by show 0≤3000;omega,fun t h=>by cases h⟩
theorem crash_fine (f:Fine s) (hj:j<3):Fine (s.go (bareAct 9 (j:Int) 0))∧(s.go (bareAct 9 (j:Int) 0)).told=s.told∧∀ x,x<3→((s.go (bareAct 9 (j:Int) 0)).nd.get x).up=true→(s.nd.get x).up=true:=by
 have I:=go_idle f.idle (a:=bareAct 9 (j:Int) 0) (actOk_of (crash_act hj)) (by show (9:Int)≠10;omega) (fun h=>absurd (show (9:Int)=2 from h) (by omega))
 have e:=I.same (by show (9:Int)≠1;omega)
 exact ⟨⟨I.idle,I.al f.away,by rw [e];exact f.told,by rw [e];exact f.lists⟩,e,I.up⟩
theorem alone_two (hi:i<3):Alone i ((newC.go (bareAct 9 (((i+1) % 3:Nat):Int) 0)).go (bareAct 9 (((i+2) % 3:Nat):Int) 0))∧Fine ((newC.go (bareAct 9 (((i+1) % 3:Nat):Int) 0)).go (bareAct 9 (((i+2) % 3:Nat):Int) 0))∧((newC.go (bareAct 9 (((i+1) % 3:Nat):Int) 0)).go (bareAct 9 (((i+2) % 3:Nat):Int) 0)).told=[]:=by
 obtain ⟨f1,e1,u1⟩:=crash_fine fine0 (j:=(i+1) % 3) (by omega)
 obtain ⟨f2,e2,u2⟩:=crash_fine f1 (j:=(i+2) % 3) (by omega)
 refine ⟨⟨f2.idle,fun x hx hne=>?_⟩,f2,by rw [e2,e1];rfl⟩
 by_cases h2:x=(i+2) % 3
 ·subst h2;exact go_crash (by omega)
 ·have h1:x=(i+1) % 3:=by omega
  subst h1
  cases hh:(((newC.go (bareAct 9 (((i+1) % 3:Nat):Int) 0)).go (bareAct 9 (((i+2) % 3:Nat):Int) 0)).nd.get ((i+1) % 3)).up with
  | false=>rfl
  | true=>exact absurd (u2 _ hx hh) (by rw [go_crash (by omega)];decide)
theorem alone_at {l:List ActD} (h:∀ a∈l,checkAct a=0) (hl:l.length≤2000) (hi:i<3) (k:Nat):Fine (runC ((aloneActs l i).take k))∧(2≤k→Alone i (runC ((aloneActs l i).take k))):=by
 match k with
 | 0=>exact ⟨fine0,fun h=>by omega⟩
 | 1=>exact ⟨(crash_fine fine0 (j:=(i+1) % 3) (by omega)).1,fun h=>by omega⟩
 | k+2=>
  obtain ⟨h1,h2,h3⟩:=alone_two hi
  have hf:=List.length_filter_le (fun a:ActD=>a.kind != 10) l
  have hk:=List.length_take_le' k (l.filter fun a=>a.kind != 10)
  obtain ⟨k1,k2⟩:=alone_run ((l.filter fun a=>a.kind != 10).take k) _ (fun a ha=>alone_ok h i a (by unfold aloneActs;simp only [List.mem_cons];exact .inr (.inr (List.mem_of_mem_take ha)))) h1 (by rw [h3,List.length_nil];omega) h2
  exact ⟨k2,fun _=>k1⟩
theorem alone_all {l:List ActD} (h:∀ a∈l,checkAct a=0) (hl:l.length≤2000) (hi:i<3):Fine (runC (aloneActs l i)):=by
 have:=(alone_at h hl hi (aloneActs l i).length).1
 rwa [List.take_length] at this
theorem start_fine (l:List Int) (k:Nat):Fine (runC ((startActs l).take k)):=by
 have h:=mute_run ((startActs l).take k) newC (fun a ha=>start_ok l a (List.mem_of_mem_take ha)) mute0
 exact ⟨h.idle,by rw [show (runC ((startActs l).take k)).away=[] from h.away];simp,by rw [show (runC ((startActs l).take k)).told=[] from h.told];simp,by rw [show (runC ((startActs l).take k)).told=[] from h.told];exact fun t h=>by cases h⟩
end
end Go.Proofs.YtgdcofbnbiclmaaGreatDoor

