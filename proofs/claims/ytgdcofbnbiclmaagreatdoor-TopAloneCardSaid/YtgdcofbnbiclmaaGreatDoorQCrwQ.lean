import Derived.Test.YtgdcofbnbiclmaaGreatDoorQCrwP
namespace Go.Proofs.YtgdcofbnbiclmaaGreatDoor
set_option linter.all false
set_option maxHeartbeats 32000000
open Go.RowKit
theorem T3_get_set_ {α:Type} (t:T3 α) {i:Nat} (hi:i<3) (v:α):(t.set i v).get i=v:=by
 match i,hi with|0,_=>rfl|1,_=>rfl|2,_=>rfl
theorem T3_get_ne_ {α:Type} (t:T3 α) {i j:Nat} (hi:i<3) (hj:j<3) (h:j≠i) (v:α):(t.set i v).get j=t.get j:=by
 match i,hi,j,hj with|0,_,0,_=>exact absurd rfl h|0,_,1,_=>rfl|0,_,2,_=>rfl|1,_,0,_=>rfl|1,_,1,_=>exact absurd rfl h|1,_,2,_=>rfl|2,_,0,_=>rfl|2,_,1,_=>rfl|2,_,2,_=>exact absurd rfl h
structure ActOk (a:ActD):Prop where
 n0:0≤a.node
 n3:a.node<3
 p0:0≤a.pick
 p1:a.pick≤400000
theorem actOk_of {a:ActD} (h:checkAct a=0):ActOk a:=by
 unfold checkAct at h
 split at h
 ·cases h
 split at h
 ·cases h
 split at h
 ·cases h
 rename_i h1 h2 h3
 have hn:hasNode a.kind=true∨hasNode a.kind=false:=by cases hasNode a.kind <;> simp
 have hp:hasPick a.kind=true∨hasPick a.kind=false:=by cases hasPick a.kind <;> simp
 have hN:0≤a.node∧a.node<3:=by
  rcases hn with hn|hn
  ·constructor
   ·rcases Int.lt_or_le a.node 0 with h|h
    ·exact absurd (.inl ⟨hn,.inl h⟩) h2
    ·exact h
   ·rcases Int.lt_or_le a.node 3 with h|h
    ·exact h
    ·exact absurd (.inl ⟨hn,.inr h⟩) h2
  ·have:a.node=0:=Decidable.byContradiction fun h=>h3 (.inl ⟨hn,h⟩)
   omega
 have hP:0≤a.pick∧a.pick≤400000:=by
  rcases hp with hp|hp
  ·constructor
   ·rcases Int.lt_or_le a.pick 0 with h|h
    ·exact absurd (.inr ⟨hp,.inl h⟩) h2
    ·exact h
   ·rcases Int.lt_or_le 400000 a.pick with h|h
    ·exact absurd (.inr ⟨hp,.inr h⟩) h2
    ·exact h
  ·have:a.pick=0:=Decidable.byContradiction fun h=>h3 (.inr (.inl ⟨hp,h⟩))
   omega
 exact ⟨hN.1,hN.2,hP.1,hP.2⟩
end Go.Proofs.YtgdcofbnbiclmaaGreatDoor

