import Derived.Test.YtgdcofbnbiclmaaGreatDoorQCrwQ
namespace Go.Proofs.YtgdcofbnbiclmaaGreatDoor
set_option linter.all false
set_option maxHeartbeats 32000000
open Go.RowKit
structure BareN (n:Nd) (x:Nat):Prop where
 me:n.me=x
 term:n.term=0
 b:n.b=0
 bt:n.bt=0
 L:n.L=[]
 m:n.m=newMach
 commit:n.commit=0
 recs:n.recs=[]
 sn:n.sn=0
 ro:n.role=0∨n.role=1
 clk0:0≤n.clock
 clk1:n.clock≤1073741824
def Down (s:Cw) (m:Msg):Prop:=0≤m.dst∧m.dst<3∧(s.nd.get m.dst.toNat).up=false
structure Idle (s:Cw):Prop where
 nd:∀ x,x<3→BareN (s.nd.get x) x
 out:∀ x,x<3→∀ m∈(s.nd.get x).out,Down s m
 away:∀ m∈s.away,Down s m
 led:s.led=[]
section
variable {s s':Cw} {i:Nat} {n:Nd} {a:ActD}
theorem Bare.nl (h:BareN n i):n.role≠3:=by have:=h.ro;omega
theorem T3.cases3 {P:Nat→Prop} {x:Nat} (h:x<3) (h0:P 0) (h1:P 1) (h2:P 2):P x:=by
 match x,h with|0,_=>exact h0|1,_=>exact h1|2,_=>exact h2
theorem idle_put_get (hi:i<3) (n:Nd) (j:Nat) (hj:j<3):(s.put i n).nd.get j=if j=i then n else s.nd.get j:=by
 show (s.nd.set i n).get j=_
 split
 ·rename_i h;subst h;exact T3_get_set_ _ hi n
 ·rename_i h;exact T3_get_ne_ _ hi hj h n
theorem Idle.put (h:Idle s) (hi:i<3) (hb:BareN n i) (ho:∀ m∈n.out,Down (s.put i n) m) (hu:n.up=true→(s.nd.get i).up=true):Idle (s.put i n):=by
 have hd:∀ m,Down s m→Down (s.put i n) m:=by
  intro m ⟨d0,d3,d⟩
  refine ⟨d0,d3,?_⟩
  rw [idle_put_get hi n _ (by omega)]
  split
  ·rename_i e
   cases hh:n.up with
   | false=>rfl
   | true=>rw [e,hu hh] at d;cases d
  ·exact d
 refine ⟨fun x hx=>?_,fun x hx m hm=>?_,fun m hm=>hd m (h.away m hm),h.led⟩
 ·rw [idle_put_get hi n x hx]
  split
  ·rename_i e;subst e;exact hb
  ·exact h.nd x hx
 ·rw [idle_put_get hi n x hx] at hm
  split at hm
  ·exact ho m hm
  ·exact hd m (h.out x hx m hm)
theorem come_down {m:Msg} (h:Down s m):s.come m=s:=by unfold Cw.come;simp only;rw [if_pos h.2.2]
theorem comes_down:∀ (l:List Msg) (s:Cw),(∀ m∈l,Down s m)→comes l s=s
 | [],_,_=>rfl
 | m :: l,s,h=>by
  show comes l (s.come m)=s
  rw [come_down (h m (by simp))]
  exact comes_down l s fun m' hm=>h m' (by simp [hm])
theorem bare_left (h:BareN n i) (keep:Int):n.left keep=[]:=by unfold Nd.left;rw [h.recs];simp
theorem bare_crash (h:BareN n i) (keep:Int):n.crash keep=freshN n.me newDk [] n.clock:=by unfold Nd.crash;rw [bare_left h];rfl
theorem bare_fresh (h:BareN n i):BareN (freshN n.me newDk [] n.clock) i:=⟨h.me,rfl,rfl,rfl,rfl,rfl,rfl,rfl,rfl,.inl rfl,h.clk0,h.clk1⟩
theorem bare_trim (h:BareN n i):n.trim=n:=by unfold Nd.trim;rw [if_pos (by rw [h.commit,h.b])]
theorem send_same (n:Nd) (q:Int) (m:Msg):∃ l,n.send q m={ n with out:=l }∧∀ x∈l,x∈n.out∨x.dst=q:=by
 unfold Nd.send
 split
 ·exact ⟨_,rfl,fun x hx=>by rcases List.mem_append.1 hx with h|h;exact .inl h;simp at h;subst h;exact .inr rfl⟩
 ·exact ⟨n.out,rfl,fun x hx=>.inl hx⟩
theorem tellTo_same (n:Nd) (q:Int) (m:Msg):∃ l,n.tellTo m q={ n with out:=l }∧∀ x∈l,x∈n.out∨(x.dst=q∧q≠n.me):=by
 unfold Nd.tellTo
 split
 ·rename_i h
  obtain ⟨l,e,hl⟩:=send_same n q m
  exact ⟨l,e,fun x hx=>(hl x hx).imp id fun e=>⟨e,h⟩⟩
 ·exact ⟨n.out,rfl,fun x hx=>.inl hx⟩
theorem tell_same (n:Nd) (m:Msg):∃ l,n.tell m={ n with out:=l }∧∀ x∈l,x∈n.out∨(0≤x.dst∧x.dst<3∧x.dst≠n.me):=by
 unfold Nd.tell
 obtain ⟨l0,e0,h0⟩:=tellTo_same n 0 m
 rw [e0]
 obtain ⟨l1,e1,h1⟩:=tellTo_same { n with out:=l0 } 1 m
 rw [e1]
 obtain ⟨l2,e2,h2⟩:=tellTo_same { n with out:=l1 } 2 m
 rw [e2]
 refine ⟨l2,rfl,fun x hx=>?_⟩
 rcases h2 x hx with h|⟨h,h'⟩
 ·rcases h1 x h with h|⟨h,h'⟩
  ·rcases h0 x h with h|⟨h,h'⟩
   ·exact .inl h
   ·exact .inr ⟨by omega,by omega,by rw [h];exact h'⟩
  ·exact .inr ⟨by omega,by omega,by rw [h];exact h'⟩
 ·exact .inr ⟨by omega,by omega,by rw [h];exact h'⟩
theorem ask_idle (h:Idle s) (hi:i<3) (c:CallM):∃ t,s.ask i c={ s with told:=s.told ++ [t] }∧t.rep.list=[]:=by
 unfold Cw.ask
 simp only
 split
 ·exact ⟨_,rfl,rfl⟩
 ·rw [if_pos (Bare.nl (h.nd i hi))];exact ⟨_,rfl,rfl⟩
structure IdleUp (k:Int) (s s':Cw):Prop where
 idle:Idle s'
 up:∀ x,x<3→(s'.nd.get x).up=true→(s.nd.get x).up=true
 out:∀ x,x<3→∀ m∈(s'.nd.get x).out,m∈(s.nd.get x).out∨(k=2∧(s.nd.get x).up=true∧0≤m.dst∧m.dst<3∧m.dst≠x)
 away:∀ m∈s'.away,m∈s.away∨∃ x,x<3∧m∈(s.nd.get x).out
 told:s'.told.length≤s.told.length+1
 same:k≠1→s'.told=s.told
 al:s.away.length≤300→s'.away.length≤300
 lists:∀ t∈s'.told,t∈s.told∨t.rep.list=[]
theorem IdleUp.refl {k:Int} (h:Idle s):IdleUp k s s:=⟨h,fun _ _ h=>h,fun _ _ _ h=>.inl h,fun _ h=>.inl h,by omega,fun _=>rfl,id,fun _ h=>.inl h⟩
theorem Idle.withAway (h:Idle s) {l:List Msg} (hl:∀ m∈l,m∈s.away∨∃ x,x<3∧m∈(s.nd.get x).out):Idle { s with away:=l }:=
 ⟨h.nd,h.out,fun m hm=>(hl m hm).elim (h.away m) (fun ⟨x,hx,hm⟩=>h.out x hx m hm),h.led⟩
theorem IdleUp.withAway {k:Int} (h:Idle s) {l:List Msg} (hl:∀ m∈l,m∈s.away) (hn:s.away.length≤300→l.length≤300):IdleUp k s { s with away:=l }:=
 ⟨h.withAway fun m hm=>.inl (hl m hm),fun _ _ h=>h,fun _ _ _ h=>.inl h,fun m hm=>.inl (hl m hm),by show s.told.length≤_;omega,fun _=>rfl,hn,fun _ h=>.inl h⟩
theorem IdleUp.put {k:Int} (h:Idle s) (hi:i<3) (hb:BareN n i) (hu:n.up=true→(s.nd.get i).up=true) (ho:∀ m∈n.out,m∈(s.nd.get i).out∨(k=2∧(s.nd.get i).up=true∧0≤m.dst∧m.dst<3∧m.dst≠i)) (hd:∀ m∈n.out,Down (s.put i n) m):IdleUp k s (s.put i n):=by
 refine ⟨h.put hi hb hd hu,fun x hx hh=>?_,fun x hx m hm=>?_,fun m hm=>.inl hm,by show s.told.length≤_;omega,fun _=>rfl,id,fun _ h=>.inl h⟩
 ·rw [idle_put_get hi n x hx] at hh
  split at hh
  ·rename_i e;subst e;exact hu hh
  ·exact hh
 ·rw [idle_put_get hi n x hx] at hm
  split at hm
  ·rename_i e;subst e;exact ho m hm
  ·exact .inl hm
theorem Down.put (hi:i<3) {m:Msg} (hu:n.up=true→(s.nd.get i).up=true) (h:Down s m):Down (s.put i n) m:=by
 obtain ⟨d0,d3,d⟩:=h
 refine ⟨d0,d3,?_⟩
 rw [idle_put_get hi n _ (by omega)]
 split
 ·rename_i e
  cases hh:n.up with
  | false=>rfl
  | true=>rw [e,hu hh] at d;cases d
 ·exact d
theorem go_idle (h:Idle s) (ha:ActOk a) (h10:a.kind≠10) (h2:a.kind=2→(s.nd.get a.node.toNat).up=true→∀ x,x<3→x≠a.node.toNat→(s.nd.get x).up=false):IdleUp a.kind s (s.go a):=by
 have n0:=ha.n0;have n3:=ha.n3;have p0:=ha.p0
 have hi:a.node.toNat<3:=by omega
 have B:=h.nd _ hi
 unfold Cw.go
 simp only
 split
 ·obtain ⟨t,e,ht⟩:=ask_idle h hi (callA a)
  rw [e]
  exact ⟨⟨h.nd,h.out,h.away,h.led⟩,fun _ _ h=>h,fun _ _ _ h=>.inl h,fun m hm=>.inl hm,by simp,fun h=>absurd (by assumption) h,id,fun t' ht'=>by rcases List.mem_append.1 ht' with h|h;exact .inl h;simp at h;subst h;exact .inr ht⟩
 split
 ·refine IdleUp.put h hi { B with clk0:=?_,clk1:=?_ } (fun h=>h) (fun m hm=>.inl hm) (fun m hm=>(h.out _ hi m hm).put hi (fun h=>h))
  ·have:=B.clk0;show 0≤min ((s.nd.get a.node.toNat).clock+a.pick) 1073741824;omega
  ·show min ((s.nd.get a.node.toNat).clock+a.pick) 1073741824≤1073741824;omega
 try rw [if_neg h10]
 split
 ·split
  ·rename_i m hm
   have hmem:m∈s.away:=List.mem_of_getElem? hm
   have I1:=IdleUp.withAway (k:=a.kind) h (l:=s.away.eraseIdx (a.pick.toNat % s.away.length)) (fun m hm=>List.mem_of_mem_eraseIdx hm) (fun h=>by have:=List.length_eraseIdx_le s.away (a.pick.toNat % s.away.length);omega)
   split
   ·rw [come_down (s:={ s with away:=s.away.eraseIdx (a.pick.toNat % s.away.length) }) (h.away m hmem)];exact I1
   ·exact I1
  ·exact IdleUp.refl h
 split
 ·split
  ·rename_i m hm
   have hmem:m∈s.away:=List.mem_of_getElem? hm
   split
   ·refine IdleUp.withAway h (fun m' hm'=>?_) (fun _=>by rw [List.length_append];simp;omega)
    rcases List.mem_append.1 hm' with h|h
    ·exact h
    ·simp at h;subst h;exact hmem
   ·exact IdleUp.refl h
  ·exact IdleUp.refl h
 split
 ·rw [comes_down s.away { s with away:=[] } h.away]
  exact IdleUp.withAway h (fun m hm=>by cases hm) (fun _=>by simp)
 split
 ·rename_i hup
  unfold Cw.act
  simp only
  split
  ·rename_i hk
   split
   ·obtain ⟨l,e,hl⟩:=tell_same { s.nd.get a.node.toNat with role:=1,votes:=aloneV (s.nd.get a.node.toNat).me } { Msg.of 1 ((s.nd.get a.node.toNat).term+1) with last:=(s.nd.get a.node.toNat).lastP.1,lastTerm:=(s.nd.get a.node.toNat).lastP.2 }
    rw [e]
    have hme:(s.nd.get a.node.toNat).me=(a.node.toNat:Int):=B.me
    refine IdleUp.put h hi { B with ro:=.inr rfl } (fun h=>h) (fun m hm=>(hl m hm).imp id fun ⟨q1,q2,q3⟩=>⟨hk,hup,q1,q2,by rw [hme] at q3;exact q3⟩) (fun m hm=>?_)
    rcases hl m hm with h1|⟨q1,q2,q3⟩
    ·exact (h.out _ hi m h1).put hi (fun h=>h)
    ·rw [hme] at q3
     exact Down.put hi (fun h=>h) ⟨q1,q2,h2 hk hup m.dst.toNat (by omega) (by omega)⟩
   ·exact IdleUp.refl h
  split
  ·rw [if_neg (Bare.nl B)];exact IdleUp.refl h
  split
  ·unfold Cw.sync
   simp only
   have hs:∀ m,m∈s.away ++ (s.nd.get a.node.toNat).out.take (300 - s.away.length)→m∈s.away∨∃ x,x<3∧m∈(s.nd.get x).out:=fun m hm=>by
    rcases List.mem_append.1 hm with h|h
    ·exact .inl h
    ·exact .inr ⟨_,hi,List.mem_of_mem_take h⟩
   have I1:=IdleUp.put (k:=a.kind) (n:={ s.nd.get a.node.toNat with sn:=(s.nd.get a.node.toNat).recs.length,out:=[] }) h hi { B with sn:=by show (s.nd.get a.node.toNat).recs.length=0;rw [B.recs];rfl } (fun h=>h) (fun m hm=>by cases hm) (fun m hm=>by cases hm)
   refine ⟨⟨I1.idle.nd,I1.idle.out,fun m hm=>?_,h.led⟩,I1.up,I1.out,hs,by show s.told.length≤_;omega,fun _=>rfl,fun h=>(by simp only [List.length_append,List.length_take];omega),fun _ h=>.inl h⟩
   rcases hs m hm with h1|⟨x,hx,h1⟩
   ·exact (h.away m h1).put (n:={ s.nd.get a.node.toNat with sn:=(s.nd.get a.node.toNat).recs.length,out:=[] }) hi (fun h=>h)
   ·exact (h.out x hx m h1).put (n:={ s.nd.get a.node.toNat with sn:=(s.nd.get a.node.toNat).recs.length,out:=[] }) hi (fun h=>h)
  split
  ·rw [bare_crash B]
   exact IdleUp.put h hi (bare_fresh B) (fun h=>by cases h) (fun m hm=>by cases hm) (fun m hm=>by cases hm)
  split
  ·rw [bare_trim B]
   exact IdleUp.put h hi B (fun h=>h) (fun m hm=>.inl hm) (fun m hm=>(h.out _ hi m hm).put hi (fun h=>h))
  ·exact IdleUp.refl h
 ·exact IdleUp.refl h
theorem idle0:Idle newC:=by
 have e:∀ x,x<3→newC.nd.get x=newN x:=fun x hx=>by match x,hx with|0,_=>rfl|1,_=>rfl|2,_=>rfl
 exact ⟨fun x hx=>by rw [e x hx];exact ⟨rfl,rfl,rfl,rfl,rfl,rfl,rfl,rfl,rfl,.inl rfl,by show (0:Int)≤0;omega,by show (0:Int)≤_;omega⟩,fun x hx m hm=>(by rw [e x hx] at hm;cases hm),fun m hm=>(by cases hm),rfl⟩
-- what has not begun
structure Mute (s:Cw):Prop where
 idle:Idle s
 out:∀ x,x<3→(s.nd.get x).out=[]
 away:s.away=[]
 told:s.told=[]
theorem go_mute (h:Mute s) (ha:ActOk a) (hk:a.kind≠1∧a.kind≠2):Mute (s.go a):=by
 have hi:a.node.toNat<3:=by have:=ha.n0;have:=ha.n3;omega
 by_cases h10:a.kind=10
 ·have e:s.go a=s.put a.node.toNat { s.nd.get a.node.toNat with up:=true }:=by
   unfold Cw.go;simp only;rw [if_neg (by omega),if_neg (by omega),if_pos h10]
  rw [e]
  have B:=h.idle.nd _ hi
  have ho:∀ x,x<3→((s.put a.node.toNat { s.nd.get a.node.toNat with up:=true }).nd.get x).out=[]:=fun x hx=>by
   rw [idle_put_get hi _ x hx]
   split
   ·exact h.out _ hi
   ·exact h.out x hx
  refine ⟨⟨fun x hx=>?_,fun x hx m hm=>(by rw [ho x hx] at hm;cases hm),fun m hm=>(by have:=h.away;rw [show (s.put a.node.toNat { s.nd.get a.node.toNat with up:=true }).away=s.away from rfl,this] at hm;cases hm),h.idle.led⟩,ho,h.away,h.told⟩
  rw [idle_put_get hi _ x hx]
  split
  ·rename_i e;subst e;exact { B with }
  ·exact h.idle.nd x hx
 ·have I:=go_idle h.idle ha h10 (fun h=>absurd h hk.2)
  refine ⟨I.idle,fun x hx=>?_,?_,by rw [I.same hk.1];exact h.told⟩
  ·apply List.eq_nil_iff_forall_not_mem.2
   intro m hm
   rcases I.out x hx m hm with h1|h1
   ·rw [h.out x hx] at h1;cases h1
   ·exact hk.2 h1.1
  ·apply List.eq_nil_iff_forall_not_mem.2
   intro m hm
   rcases I.away m hm with h1|⟨x,hx,h1⟩
   ·rw [h.away] at h1;cases h1
   ·rw [h.out x hx] at h1;cases h1
structure Alone (i:Nat) (s:Cw):Prop where
 idle:Idle s
 down:∀ x,x<3→x≠i→(s.nd.get x).up=false
theorem go_alone (h:Alone i s) (ha:ActOk a) (hk:a.kind≠10):Alone i (s.go a)∧IdleUp a.kind s (s.go a):=by
 have I:=go_idle h.idle ha hk fun _ hu x hx hne=>by
  refine h.down x hx fun e=>?_
  have hi:a.node.toNat<3:=by have:=ha.n0;have:=ha.n3;omega
  by_cases hn:a.node.toNat=i
  ·exact hne (e.trans hn.symm)
  ·rw [h.down _ hi hn] at hu;cases hu
 refine ⟨⟨I.idle,fun x hx hne=>?_⟩,I⟩
 cases hh:((s.go a).nd.get x).up with
 | false=>rfl
 | true=>exact absurd (I.up x hx hh) (by rw [h.down x hx hne];decide)
end
end Go.Proofs.YtgdcofbnbiclmaaGreatDoor

