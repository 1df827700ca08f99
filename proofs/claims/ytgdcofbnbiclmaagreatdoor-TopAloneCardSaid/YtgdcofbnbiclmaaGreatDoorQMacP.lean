import Derived.Test.YtgdcofbnbiclmaaGreatDoorQEncM
import Derived.Test.YtgdcofbnbiclmaaGreatDoorQDec
namespace Go.Proofs.YtgdcofbnbiclmaaGreatDoor
set_option linter.all false
set_option maxHeartbeats 32000000
open Go.RowKit
open Go.Lib (strCells strCells_length)
theorem takeR_neg {n:Int} (h:n<0) (st:RS):takeR n st=([],st):=by
 obtain ⟨l,s⟩:=st
 unfold takeR
 cases s
 ·rw [if_neg (by simp;omega)]
  have:n.toNat=0:=by omega
  simp [this]
 ·rw [if_pos (by left;rfl)]
theorem parse_takeR (n:Int):Parse (takeR n):=by
 by_cases h:n<0
 ·rw [show takeR n=fun st=>([],st) from funext (takeR_neg h)];exact Parse.pure _
 ·exact parse_take n (by omega)
theorem parse_textRd:Parse textRd:=Parse.bind (Q:=fun n st=>(strOf (takeR n st).1,(takeR n st).2)) parse_small fun n=>(parse_takeR n).map strOf
structure Codec {α:Type} (P:RS→α×RS) (f:α→List Value) (K B:α→Prop):Prop where
 parse:Parse P
 back:∀ x r,K x→P (f x ++ r,false)=(x,(r,false))
 enc:∀ x,K x→U8s (f x)
 u8s:∀ st:RS,U8s st.1→U8s (P st).2.1
 bd:∀ st:RS,U8s st.1→B (P st).1
 fix:∀ st:RS,U8s st.1→(P st).2.2=false→K (P st).1→st.1=f (P st).1 ++ (P st).2.1
section
variable {α β:Type} {P:RS→α×RS} {f f':α→List Value} {K K' B B':α→Prop}
theorem Codec.to (h:Codec P f K B) (hf:∀ x,f x=f' x) (hK:∀ x,K' x ↔ K x) (hB:∀ x,B x→B' x):Codec P f' K' B':=by
 obtain rfl:f=f':=funext hf
 obtain rfl:K'=K:=funext fun x=>propext (hK x)
 exact ⟨h.parse,h.back,h.enc,h.u8s,fun st hu=>hB _ (h.bd st hu),h.fix⟩
theorem Codec.pure (a:α):Codec (fun st=>(a,st)) (fun _=>[]) (fun x=>x=a) (fun x=>x=a):=
 ⟨Parse.pure a,fun x r h=>by rw [h];rfl,fun _ _ u hu=>(by cases hu),fun _ hu=>hu,fun _ _=>rfl,fun _ _ _ _=>rfl⟩
theorem Parse.stuck (h:Parse P) {st:RS} (hs:st.2=true):(P st).2.2=true:=by
 obtain ⟨l,s⟩:=st;simp only at hs;subst hs;exact h.stick l
theorem Codec.bind {Q:α→RS→β×RS} {g:α→β→List Value} {L C:α→β→Prop} (p:β→α) (hP:Codec P f K B) (hQ:∀ a,Codec (Q a) (g a) (L a) (C a)) (hp:∀ a st,p (Q a st).1=a) :
  Codec (bindR P Q) (fun b=>f (p b) ++ g (p b) b) (fun b=>K (p b)∧L (p b) b) (fun b=>B (p b)∧C (p b) b):=by
 refine ⟨Parse.bind hP.parse fun a=>(hQ a).parse,fun x r h=>?_,fun x h=>(hP.enc _ h.1).app ((hQ _).enc _ h.2),fun st hu=>(hQ _).u8s _ (hP.u8s st hu),fun st hu=>?_,fun st hu hs h=>?_⟩
 ·unfold bindR
  rw [List.append_assoc,hP.back _ _ h.1]
  exact (hQ _).back _ _ h.2
 ·have e:p (bindR P Q st).1=(P st).1:=hp _ _
  rw [e]
  exact ⟨hP.bd st hu,(hQ _).bd _ (hP.u8s st hu)⟩
 ·have e:p (bindR P Q st).1=(P st).1:=hp _ _
  rw [e] at h ⊢
  have hs1:(P st).2.2=false:=by
   cases hc:(P st).2.2 with
   | false=>rfl
   | true=>
    have:=(hQ (P st).1).parse.stuck hc
    unfold bindR at hs
    rw [this] at hs;cases hs
  have e1:=hP.fix st hu hs1 h.1
  have e2:=(hQ (P st).1).fix _ (hP.u8s st hu) hs h.2
  rw [List.append_assoc]
  have e3:(P st).2.1=g (P st).1 (bindR P Q st).1 ++ (bindR P Q st).2.1:=e2
  rw [←e3]
  exact e1
def loopR (P:RS→α×RS):Nat→RS→List α→List α×RS
 | 0,st,acc=>(acc,st)
 | k+1,st,acc=>if st.2=true then (acc,st) else loopR P k (P st).2 (acc ++ [(P st).1])
def eachR (P:RS→α×RS):RS→List α×RS:=bindR smallR fun n st=>loopR P n.toNat st []
theorem loop_stuck (k:Nat) {st:RS} (acc:List α) (h:st.2=true):loopR P k st acc=(acc,st):=by
 cases k with
 | zero=>rfl
 | succ k=>unfold loopR;rw [if_pos h]
theorem parse_loop (hP:Parse P):∀ (k:Nat) (acc:List α),Parse fun st=>loopR P k st acc
 | 0,acc=>Parse.pure acc
 | k+1,acc=>by
  have ih:Parse (bindR P fun a st=>loopR P k st (acc ++ [a])):=Parse.bind hP fun a=>parse_loop hP k (acc ++ [a])
  refine ⟨fun l=>by show (loopR P (k+1) (l,true) acc).2.2=true;rw [loop_stuck _ _ rfl],fun p q h=>?_⟩
  have e:∀ l:List Value,loopR P (k+1) (l,false) acc=bindR P (fun a st=>loopR P k st (acc ++ [a])) (l,false):=fun l=>by
   rw [loopR,if_neg (by simp)];rfl
  simp only [e] at h ⊢
  exact ih.pre p q h
theorem loop_back (h:Codec P f K B):∀ (l:List α) (r:List Value) (acc:List α),(∀ x∈l,K x)→loopR P l.length ((l.map f).flatten ++ r,false) acc=(acc ++ l,(r,false))
 | [],r,acc,_=>by simp [loopR]
 | x :: l,r,acc,hl=>by
  rw [List.length_cons,loopR,if_neg (by simp),List.map_cons,List.flatten_cons,List.append_assoc,h.back _ _ (hl x (by simp))]
  simp only
  rw [loop_back h l r (acc ++ [x]) fun y hy=>hl y (by simp [hy])]
  simp
theorem loop_u8 (h:Codec P f K B):∀ (k:Nat) (st:RS) (acc:List α),U8s st.1→U8s (loopR P k st acc).2.1
 | 0,_,_,hu=>hu
 | k+1,st,acc,hu=>by
  unfold loopR
  split
  ·exact hu
  ·exact loop_u8 h k _ _ (h.u8s st hu)
theorem loop_len:∀ (k:Nat) (st:RS) (acc:List α),(loopR P k st acc).1.length≤acc.length+k
 | 0,_,acc=>by simp [loopR]
 | k+1,st,acc=>by
  unfold loopR
  split
  ·simp
  ·refine Nat.le_trans (loop_len k _ _) ?_
   simp;omega
theorem loop_bd (h:Codec P f K B):∀ (k:Nat) (st:RS) (acc:List α),U8s st.1→(∀ x∈acc,B x)→∀ x∈(loopR P k st acc).1,B x
 | 0,_,_,_,ha=>ha
 | k+1,st,acc,hu,ha=>by
  unfold loopR
  split
  ·exact ha
  ·refine loop_bd h k _ _ (h.u8s st hu) fun x hx=>?_
   rcases List.mem_append.1 hx with hx|hx
   ·exact ha x hx
   ·rw [List.mem_singleton] at hx;subst hx;exact h.bd st hu
theorem loop_fix (h:Codec P f K B):∀ (k:Nat) (st:RS) (acc:List α),U8s st.1→(loopR P k st acc).2.2=false→(∀ x∈(loopR P k st acc).1,K x) →
  ∃ l,(loopR P k st acc).1=acc ++ l∧l.length=k∧st.1=(l.map f).flatten ++ (loopR P k st acc).2.1
 | 0,st,acc,_,_,_=>⟨[],by simp [loopR],rfl,by simp [loopR]⟩
 | k+1,st,acc,hu,hs,hk=>by
  unfold loopR at hs hk ⊢
  split at hs
  ·rename_i hc;rw [hc] at hs;cases hs
  ·rename_i hc
   rw [if_neg hc] at hk ⊢
   obtain ⟨l,e1,e2,e3⟩:=loop_fix h k _ _ (h.u8s st hu) hs hk
   refine ⟨(P st).1 :: l,by rw [e1];simp,by simp [e2],?_⟩
   have hs1:(P st).2.2=false:=by
    cases hc:(P st).2.2 with
    | false=>rfl
    | true=>rw [loop_stuck _ _ hc] at hs;rw [hc] at hs;cases hs
   have e4:=h.fix st hu hs1 (hk _ (by rw [e1];simp))
   rw [List.map_cons,List.flatten_cons,List.append_assoc,←e3]
   exact e4
theorem codec_small:Codec smallR (fun n=>[u8 n]) (fun n=>0≤n∧n<256) (fun n=>0≤n∧n<256):=
 ⟨parse_small,fun x r _=>smallR_u8 x r,fun _ h=>U8s.one h.1 h.2,fun _ hu=>(small_bd hu).2.2,fun _ hu=>⟨(small_bd hu).1,(small_bd hu).2.1⟩,fun _ hu hs _=>small_fix hu hs⟩
theorem codec_num:Codec numR num8 (fun n=>-1099511627776≤n∧n≤1099511627776) (fun _=>True):=
 ⟨parse_num,fun x r h=>numR_num8 x r h.1 h.2,fun x _=>u8s_num8 x,fun _ hu=>num_u8 hu,fun _ _=>trivial,fun _ hu hs h=>num_fix hu hs h.1 h.2⟩
theorem strOf_size (l:List Value):(strOf l).size=l.length:=by simp [strOf,ByteArray.size]
theorem codec_text:Codec textRd txtB (fun s=>s.size<256) (fun s=>s.size<256):=
 ⟨parse_textRd,fun x r _=>textRd_txt x r,fun _ h=>u8s_txt h,fun _ hu=>text_u8 hu,fun st hu=>by
  obtain ⟨s0,s1,s2⟩:=small_bd hu
  unfold textRd
  rw [strOf_size]
  unfold takeR
  split
  ·simp
  ·simp only [List.length_take];omega,fun _ hu hs _=>text_fix hu hs⟩
theorem Codec.each (h:Codec P f K B):Codec (eachR P) (fun l=>[u8 l.length] ++ (l.map f).flatten) (fun l=>l.length<256∧∀ x∈l,K x) (fun l=>l.length<256∧∀ x∈l,B x):=by
 refine ⟨Parse.bind parse_small fun n=>parse_loop h.parse _ _,fun x r hx=>?_,fun x hx=>?_,fun st hu=>loop_u8 h _ _ _ (small_bd hu).2.2,fun st hu=>?_,fun st hu hs hk=>?_⟩
 ·unfold eachR bindR
  rw [List.append_assoc,List.singleton_append,smallR_u8]
  have:=loop_back h x r [] hx.2
  simpa using this
 ·refine (U8s.one (by omega) (by omega)).app ?_
  intro u hu
  obtain ⟨b,hb,hub⟩:=List.mem_flatten.1 hu
  obtain ⟨y,hy,rfl⟩:=List.mem_map.1 hb
  exact h.enc y (hx.2 y hy) u hub
 ·obtain ⟨s0,s1,s2⟩:=small_bd hu
  refine ⟨?_,loop_bd h _ _ _ s2 fun x hx=>by cases hx⟩
  have:=loop_len (P:=P) (smallR st).1.toNat (smallR st).2 []
  show (loopR P (smallR st).1.toNat (smallR st).2 []).1.length<256
  simp at this;omega
 ·obtain ⟨s0,s1,s2⟩:=small_bd hu
  have e0:eachR P st=loopR P (smallR st).1.toNat (smallR st).2 []:=rfl
  rw [e0] at hs hk ⊢
  have hs1:(smallR st).2.2=false:=by
   cases hc:(smallR st).2.2 with
   | false=>rfl
   | true=>rw [loop_stuck _ _ hc] at hs;rw [hc] at hs;cases hs
  obtain ⟨l,e1,e2,e3⟩:=loop_fix h _ _ _ s2 hs hk.2
  have e4:=small_fix hu hs1
  have e5:u8 (smallR st).1=u8 (l.length:Int):=by rw [e2];unfold u8;congr 1;omega
  rw [e5] at e4
  rw [e4,e1,List.nil_append,List.append_assoc,List.singleton_append,←e3]
end
def textsR:RS→List ByteArray×RS:=eachR textRd
def pairR:RS→Pr×RS:=bindR textRd fun a=>bindR textRd fun b st=>(⟨a,b⟩,st)
def scoreR:RS→Sc×RS:=bindR textRd fun a=>bindR numR fun n st=>(⟨a,n⟩,st)
def valueR:RS→Va×RS:=bindR smallR fun k=>bindR textRd fun t=>bindR numR fun c=>bindR (eachR pairR) fun ps=>bindR textsR fun is_=>bindR (eachR scoreR) fun ss st=>(⟨k,t,c,ps,is_,ss⟩,st)
def entR:RS→En×RS:=bindR textRd fun k=>bindR valueR fun v=>bindR numR fun t st=>(⟨k,v,t⟩,st)
def cliR:RS→Cl×RS:=bindR numR fun i=>bindR numR fun s=>bindR numR fun t=>bindR smallR fun c=>bindR textRd fun x=>bindR numR fun n=>bindR textsR fun l st=>(⟨i,s,t,⟨c,x,n,l⟩⟩,st)
def machR:RS→Mach×RS:=bindR numR fun now=>bindR (eachR entR) fun es=>bindR numR fun next=>bindR (eachR cliR) fun cs st=>(⟨now,es,next,cs⟩,st)
def In40 (n:Int):Prop:=-1099511627776≤n∧n≤1099511627776
def In8 (n:Int):Prop:=0≤n∧n<256
def Txs (l:List ByteArray):Prop:=l.length<256∧∀ s∈l,s.size<256
theorem codec_texts:Codec textsR txtsB Txs Txs:=codec_text.each
def PrF (p:Pr):Prop:=p.field.size<256∧p.text.size<256
theorem codec_pair:Codec pairR pairB PrF PrF:=by
 refine (Codec.bind (fun b:Pr=>b.field) codec_text (fun a=>Codec.bind (fun b:Pr=>b.text) codec_text (fun b=>Codec.pure (⟨a,b⟩:Pr)) (fun _ _=>rfl)) (fun _ _=>rfl)).to (fun x=>?_) (fun x=>?_) fun x h=>⟨h.1,h.2.1⟩
 ·simp [pairB]
 ·simp [PrF]
def ScF (p:Sc):Prop:=p.member.size<256∧In40 p.n
theorem codec_score:Codec scoreR scoreB ScF (fun p=>p.member.size<256):=by
 refine (Codec.bind (fun b:Sc=>b.member) codec_text (fun a=>Codec.bind (fun b:Sc=>b.n) codec_num (fun b=>Codec.pure (⟨a,b⟩:Sc)) (fun _ _=>rfl)) (fun _ _=>rfl)).to (fun x=>?_) (fun x=>?_) fun x h=>h.1
 ·simp [scoreB]
 ·simp [ScF,In40]
structure VaF (v:Va):Prop where
 kind:In8 v.kind
 text:v.text.size<256
 count:In40 v.count
 pairs:v.pairs.length<256∧∀ p∈v.pairs,PrF p
 items:Txs v.items
 scores:v.scores.length<256∧∀ p∈v.scores,ScF p
theorem codec_value:Codec valueR valB VaF (fun v=>small v 255):=by
 refine (Codec.bind (fun b:Va=>b.kind) codec_small (fun k=>Codec.bind (fun b:Va=>b.text) codec_text (fun t=>Codec.bind (fun b:Va=>b.count) codec_num (fun c=>
  Codec.bind (fun b:Va=>b.pairs) codec_pair.each (fun ps=>Codec.bind (fun b:Va=>b.items) codec_texts (fun is_=>Codec.bind (fun b:Va=>b.scores) codec_score.each (fun ss=>
   Codec.pure (⟨k,t,c,ps,is_,ss⟩:Va)) (fun _ _=>rfl)) (fun _ _=>rfl)) (fun _ _=>rfl)) (fun _ _=>rfl)) (fun _ _=>rfl)) (fun _ _=>rfl)).to (fun x=>?_) (fun x=>?_) fun x h=>?_
 ·simp [valB]
 ·exact ⟨fun h=>⟨h.kind,h.text,h.count,h.pairs,h.items,h.scores,rfl⟩,fun h=>⟨h.1,h.2.1,h.2.2.1,h.2.2.2.1,h.2.2.2.2.1,h.2.2.2.2.2.1⟩⟩
 ·have h1:=h.2.2.2.1.1;have h2:=h.2.2.2.2.1.1;have h3:=h.2.2.2.2.2.1.1
  exact ⟨by omega,by omega,by omega⟩
structure EnF (x:En):Prop where
 key:x.key.size<256
 val:VaF x.val
 till:In40 x.till
theorem codec_ent:Codec entR entB EnF (fun x=>small x.val 255):=by
 refine (Codec.bind (fun b:En=>b.key) codec_text (fun k=>Codec.bind (fun b:En=>b.val) codec_value (fun v=>Codec.bind (fun b:En=>b.till) codec_num (fun t=>
   Codec.pure (⟨k,v,t⟩:En)) (fun _ _=>rfl)) (fun _ _=>rfl)) (fun _ _=>rfl)).to (fun x=>?_) (fun x=>?_) fun x h=>h.2.1
 ·simp [entB]
 ·exact ⟨fun h=>⟨h.key,h.val,h.till,rfl⟩,fun h=>⟨h.1,h.2.1,h.2.2.1⟩⟩
structure ClF (x:Cl):Prop where
 id:In40 x.id
 seq:In40 x.seq
 time:In40 x.time
 code:In8 x.rep.code
 text:x.rep.text.size<256
 n:In40 x.rep.n
 list:Txs x.rep.list
theorem codec_cli:Codec cliR cliB ClF (fun x=>x.rep.text.size<256∧x.rep.list.length<256):=by
 refine (Codec.bind (fun b:Cl=>b.id) codec_num (fun i=>Codec.bind (fun b:Cl=>b.seq) codec_num (fun s=>Codec.bind (fun b:Cl=>b.time) codec_num (fun t=>Codec.bind (fun b:Cl=>b.rep.code) codec_small (fun c=>
  Codec.bind (fun b:Cl=>b.rep.text) codec_text (fun x=>Codec.bind (fun b:Cl=>b.rep.n) codec_num (fun n=>Codec.bind (fun b:Cl=>b.rep.list) codec_texts (fun l=>
   Codec.pure (⟨i,s,t,⟨c,x,n,l⟩⟩:Cl)) (fun _ _=>rfl)) (fun _ _=>rfl)) (fun _ _=>rfl)) (fun _ _=>rfl)) (fun _ _=>rfl)) (fun _ _=>rfl)) (fun _ _=>rfl)).to (fun x=>?_) (fun x=>?_) fun x h=>⟨h.2.2.2.2.1,h.2.2.2.2.2.2.1.1⟩
 ·simp [cliB]
 ·exact ⟨fun h=>⟨h.id,h.seq,h.time,h.code,h.text,h.n,h.list,rfl⟩,fun h=>⟨h.1,h.2.1,h.2.2.1,h.2.2.2.1,h.2.2.2.2.1,h.2.2.2.2.2.1,h.2.2.2.2.2.2.1⟩⟩
structure MaF (m:Mach):Prop where
 now:In40 m.now
 ents:m.ents.length<256∧∀ x∈m.ents,EnF x
 next:In40 m.next
 clis:m.clis.length<256∧∀ x∈m.clis,ClF x
structure MaS (m:Mach):Prop where
 ents:m.ents.length<256
 vals:∀ x∈m.ents,small x.val 255
 clis:m.clis.length<256
 reps:∀ x∈m.clis,x.rep.text.size<256∧x.rep.list.length<256
theorem codec_mach:Codec machR encB MaF MaS:=by
 refine (Codec.bind (fun b:Mach=>b.now) codec_num (fun now=>Codec.bind (fun b:Mach=>b.ents) codec_ent.each (fun es=>Codec.bind (fun b:Mach=>b.next) codec_num (fun next=>Codec.bind (fun b:Mach=>b.clis) codec_cli.each (fun cs=>
   Codec.pure (⟨now,es,next,cs⟩:Mach)) (fun _ _=>rfl)) (fun _ _=>rfl)) (fun _ _=>rfl)) (fun _ _=>rfl)).to (fun x=>?_) (fun x=>?_) fun x h=>⟨h.2.1.1,h.2.1.2,h.2.2.2.1.1,h.2.2.2.1.2⟩
 ·simp [encB]
 ·exact ⟨fun h=>⟨h.now,h.ents,h.next,h.clis,rfl⟩,fun h=>⟨h.1,h.2.1,h.2.2.1,h.2.2.2.1⟩⟩
theorem good_fits {v:Va} (h:Good v):VaF v:=by
 obtain ⟨k1,k6,-,-,-,-,-,np,ni,ns,tt,ti,tp,tm,cc,cs,-,-,-,-⟩:=good_ok h
 exact ⟨⟨by omega,by omega⟩,by omega,cc,⟨by omega,fun p hp=>by have:=tp p hp;exact ⟨by omega,by omega⟩⟩,⟨by omega,fun s hs=>by have:=ti s hs;omega⟩,⟨by omega,fun p hp=>⟨by have:=tm p hp;omega,cs p hp⟩⟩⟩
theorem mach_fits {m:Mach} (h:MachOk m):MaF m:=by
 have n0:=h.sto.now0;have n1:=h.sto.now1;have a1:=h.next1;have a2:=h.nextm;have a3:=h.few;have a4:=h.sto.few
 refine ⟨⟨by omega,by omega⟩,⟨by omega,fun x hx=>?_⟩,⟨by omega,by omega⟩,⟨by omega,fun x hx=>?_⟩⟩
 ·have hk:=h.sto.keys x hx
  have ht:=h.sto.till x hx
  exact ⟨by omega,good_fits (h.sto.good x hx),⟨by omega,by omega⟩⟩
 ·obtain ⟨b1,b2,b3,b4,b5,b6,b7⟩:=h.cli x hx
  obtain ⟨c0,c1,t,fw,ea,m0,m1⟩:=rep_to b7
  exact ⟨⟨by omega,by omega⟩,⟨by omega,by omega⟩,⟨by omega,by omega⟩,⟨by omega,by omega⟩,by omega,⟨m0,m1⟩,⟨by omega,fun s hs=>by have:=ea s hs;omega⟩⟩
def decR (l:List Value):Mach×Int:=
 if endOf true (machR (l,false)).2≠0 then (zeroMach,endOf true (machR (l,false)).2)
 else if checkMach (machR (l,false)).1≠0 then (zeroMach,checkMach (machR (l,false)).1) else ((machR (l,false)).1,0)
def decM (l:List Value):Mach×Int:=if 20000<l.length then (zeroMach,1) else decR l
theorem valB_in {x:Va} (h:Good x):(valB x).length≤873:=by
 obtain ⟨k1,k6,-,-,fp,fi,fs,np,ni,ns,tt,ti,tp,tm,cc,cs,-,-,-,-⟩:=good_ok h
 have h1:=flat_le (f:=pairB) (b:=42) (l:=x.pairs) (fun p hp=>by have:=tp p hp;simp only [pairB,List.length_append,txtB_length];omega)
 have h2:=flat_le (f:=scoreB) (b:=42) (l:=x.scores) (fun p hp=>by have:=tm p hp;simp only [scoreB,List.length_append,txtB_length,num8_len];omega)
 have h3:=flat_le (f:=txtB) (b:=42) (l:=x.items) (fun s hs=>by rw [txtB_length];have:=ti s hs;omega)
 have hs:x.pairs.length+x.items.length+x.scores.length≤20:=by
  rcases fp with h|h <;> rcases fi with h'|h'|h' <;> rcases fs with h''|h'' <;> first|(exfalso;omega)|(simp only [h,h',h'',List.length_nil] at *;omega)
 simp only [valB,txtsB,List.length_append,List.length_singleton,txtB_length,num8_len];omega
theorem entB_in {x:En} (h:Good x.val) (hk:x.key.size≤12):(entB x).length≤894:=by
 have:=valB_in h
 simp only [entB,List.length_append,txtB_length,num8_len];omega
theorem encB_in {m:Mach} (h:MachOk m):(encB m).length≤12800:=by
 have h1:=flat_le (f:=entB) (b:=894) (l:=m.ents) (fun x hx=>entB_in (h.sto.good x hx) (by have:=h.sto.keys x hx;omega))
 have h2:=flat_le (f:=cliB) (b:=500) (l:=m.clis) (fun x hx=>cliB_le (rep_to (h.cli x hx).rep))
 have h3:=h.sto.few;have h4:=h.few
 simp only [encB,List.length_append,List.length_singleton,num8_len];omega
theorem u8s_mach {m:Mach} (h:MachOk m):U8s (encB m):=codec_mach.enc m (mach_fits h)
theorem decM_back {m:Mach} (h:MachOk m):decM (encB m)=(m,0):=by
 have hf:=codec_mach.back m [] (mach_fits h)
 rw [List.append_nil] at hf
 unfold decM decR
 rw [if_neg (by have:=encB_in h;omega),hf]
 simp [endOf,ok_mach h]
theorem decM_ok {l:List Value} (hu:U8s l) (h:(decM l).2=0):MachOk (decM l).1∧encB (decM l).1=l:=by
 unfold decM at h ⊢
 split at h
 ·cases h
 rename_i h0
 rw [if_neg h0]
 clear h0
 unfold decR at h ⊢
 split at h
 ·rename_i hh;exact absurd h hh
 ·rename_i hh
  rw [if_neg hh]
  split at h
  ·rename_i h2;exact absurd h h2
  ·rename_i h2
   rw [if_neg h2]
   have h2:MachOk (machR (l,false)).1:=mach_ok (Decidable.byContradiction h2)
   have hh:endOf true (machR (l,false)).2=0:=Decidable.byContradiction hh
   refine ⟨h2,?_⟩
   have hx:=fun a b=>codec_mach.fix (l,false) a b (mach_fits h2)
   generalize machR (l,false)=R at hh h2 hx
   obtain ⟨x,r,s⟩:=R
   simp only at hh h2 hx ⊢
   unfold endOf at hh
   simp only at hh
   split at hh
   ·cases hh
   ·rename_i q1
    split at hh
    ·cases hh
    ·rename_i q2
     simp only [not_or,Bool.not_eq_false,Nat.not_lt,Nat.le_zero_eq] at q2
     have:s=false:=by simpa using q1
     have:=hx hu this
     rw [List.eq_nil_of_length_eq_zero q2.2,List.append_nil] at this
     exact this.symm
theorem encB_pos (m:Mach):0<(encB m).length:=by simp [encB,num8_len];omega
end Go.Proofs.YtgdcofbnbiclmaaGreatDoor

