import Derived.Test.YtgmojjclobkpjaaGreatDoorQDonP
import Derived.Test.YtgmojjclobkpjaaGreatDoorQCall
import Derived.Test.YtgmojjclobkpjaaGreatDoorQEnt
import Derived.Test.YtgmojjclobkpjaaGreatDoorQOwn
import Derived.Test.YtgmojjclobkpjaaGreatDoorQHeldX
import Derived.Deep.RegionHeld3
import Derived.Test.YtgmojjclobkpjaaGreatDoorQStoK
namespace Go.Proofs.YtgmojjclobkpjaaGreatDoor
set_option linter.all false
set_option maxHeartbeats 32000000
open Go.RowKit
theorem done_some {v:Va} {c:Cmd} (h:Good v) (hc:ccOf c=0) (h18:c.kind≤18) :
  doneVal v c=if wrongKind v c=true then (v,failR 4,0) else ((behind v (doVal v c)).1,(behind v (doVal v c)).2,0):=by
 unfold doneVal
 rw [if_neg (may_not (.inr h)),if_neg (by simpa using hc),if_neg (by omega),if_neg (by rw [good_some h];simp)]
 have hd:doneKind v c=v:=by unfold doneKind;rw [good_some h];rfl
 rw [hd,good_some h]
 by_cases hw:wrongKind v c=true
 ·rw [if_pos ⟨rfl,hw⟩,if_pos hw]
 ·rw [if_neg (fun hh=>hw hh.2),if_neg hw]
theorem done_zero {c:Cmd} (hc:ccOf c=0) (h18:c.kind≤18) :
  doneVal zeroVa c=if makesC c.kind=false then (zeroVa,failR 5,0) else ((behind zeroVa (doVal { zeroVa with kind:=kindC c.kind } c)).1,(behind zeroVa (doVal { zeroVa with kind:=kindC c.kind } c)).2,0):=by
 unfold doneVal
 rw [if_neg (may_not (.inl rfl)),if_neg (by simpa using hc),if_neg (by omega)]
 have hd:doneKind zeroVa c={ zeroVa with kind:=kindC c.kind }:=by unfold doneKind;rw [if_pos zero_none]
 rw [hd,zero_none]
 by_cases hm:makesC c.kind=false
 ·rw [if_pos ⟨rfl,hm⟩,if_pos hm]
 ·rw [if_neg (fun hh=>hm hh.2),if_neg (by simp),if_neg hm]
theorem done_e {v:Va} {c:Cmd} (h:May v) (hc:ccOf c=0) (h18:c.kind≤18):(doneVal v c).2.2=0:=by
 rcases h with rfl|h
 ·rw [done_zero hc h18];split <;> rfl
 ·rw [done_some h hc h18];split <;> rfl
theorem Do_may (v:Va) (c:Cmd) (hv:May v) (A1 A2 A3:Option Addr) (n1 c1 n2 c2 n3 c3:Nat) (w:World) (h:VSl w v A1 n1 c1 A2 n2 c2 A3 n3 c3) :
  Calls Tryz.prog 132 #[.agg #[.int .i64 v.kind,.string v.text,.int .i64 v.count,.slice A1 n1 c1,.slice A2 n2 c2,.slice A3 n3 c3],.agg #[.int .i64 c.kind,.string c.key,.string c.field,.string c.text,.int .i64 c.n]] w (DonePost (doneVal v c) w):=by
 have s:=may_sizes hv
 have e1:=h.n1_;have e2:=h.n2_;have e3:=h.n3_
 exact Do_any v c A1 A2 A3 n1 c1 n2 c2 n3 c3 w h (by omega) (by omega) (by omega)
theorem Own.of_blk {w:World} {base g size:Nat} {e:TypeId} {cs:Array Value} {rows:List (List Value)} (h:Blk w g e cs) (hb:base≤g) (hf:cs.toList=rows.flatten) (hr:∀ r∈rows,r.length=size) (hm:rows.length≤maxLen) :
  Own w base e size (.slice (some ⟨g,0,none⟩) rows.length rows.length) rows:=by
 have hl:=flatten_length hr
 refine ⟨⟨hl,.inr ⟨g,rows.length,cs,rfl,hb,h,Nat.le_refl _,hm,?_,?_⟩⟩,hr⟩
 ·rw [←hl,←hf];simp
 ·rw [hf,List.take_of_length_le (by rw [hl];exact Nat.le_refl _)]
attribute [local go_sem ↓] Go.wp_at_zero Go.wp_at_succ
theorem str_fr {w w':World} {A:Option Addr} {n c:Nat} {rows:List (List Value)} (h:Sl w 1 A n c rows) (T:Tp w A 9) (f:Fr w w'):Sl w' 1 A n c rows:=
 h.kept f.size fun a ha _=>by obtain ⟨cs,hc⟩:=T a ha;exact (f.i _ _ hc).trans hc.symm
theorem tps_fr {w w':World} {A:Option Addr} (T:Tp w A 9) (f:Fr w w'):Tp w' A 9:=fun a ha=>by
 obtain ⟨cs,hc⟩:=T a ha;exact ⟨cs,f.i _ _ hc⟩
def keyRows (l:List En) (j:Nat):List (List Value):=strRows ((l.take j).map En.key)
theorem keyRows_next {l:List En} {j:Nat} (h:j<l.length):keyRows l (j+1)=keyRows l j ++ [[.string l[j].key]]:=by
 unfold keyRows strRows
 rw [List.take_succ_eq_append_getElem h,List.map_append,List.map_append]
 rfl
theorem keyRows_len {l:List En} {j:Nat} (h:j≤l.length):(keyRows l j).length=j:=by
 unfold keyRows strRows
 rw [List.length_map,List.length_map,List.length_take,Nat.min_eq_left h]
theorem keyRows_full {l:List En} {j:Nat} (h:l.length≤j):keyRows l j=strRows (l.map En.key):=by
 unfold keyRows
 rw [List.take_of_length_le h]
def oldOf (l:List En) (k:Nat) (t:Bool):Va:=if t=true then (match l[k]? with|some x=>x.val|none=>zeroVa) else zeroVa
def doS (now:Int) (l:List En) (c:Cmd):List En×Re:=
 if c.kind=22 then (l,⟨0,emp,0,l.map En.key⟩)
 else if c.kind=19 then (if keyHas c.key l=true then (delRows l (keyAt c.key l),toldR 1) else (l,toldR 0))
 else if c.kind=20∨c.kind=21 then timedS now l (keyAt c.key l) (keyHas c.key l) c
 else if (doneVal (oldOf l (keyAt c.key l) (keyHas c.key l)) c).2.1.code≠0 then (l,(doneVal (oldOf l (keyAt c.key l) (keyHas c.key l)) c).2.1)
 else if (doneVal (oldOf l (keyAt c.key l) (keyHas c.key l)) c).1.kind=0∧keyHas c.key l=true then (delRows l (keyAt c.key l),(doneVal (oldOf l (keyAt c.key l) (keyHas c.key l)) c).2.1)
 else if keyHas c.key l=false∧l.length=12 then (l,failR 6)
 else if (doneVal (oldOf l (keyAt c.key l) (keyHas c.key l)) c).1.kind≠0 then (setS l (keyAt c.key l) (keyHas c.key l) c (doneVal (oldOf l (keyAt c.key l) (keyHas c.key l)) c).1,(doneVal (oldOf l (keyAt c.key l) (keyHas c.key l)) c).2.1)
 else (l,(doneVal (oldOf l (keyAt c.key l) (keyHas c.key l)) c).2.1)
theorem keyHas_lt {f:ByteArray} {l:List En} (h:keyHas f l=true):keyAt f l<l.length:=by
 rcases Nat.lt_or_ge (keyAt f l) l.length with h'|h'
 ·exact h'
 ·unfold keyHas at h;rw [foundAt_ge h'] at h;cases h
def DoSPost (R:List En×Re) (B g:Nat) (now:Int) (w:World) (e:Ending) (w':World):Prop:=
 ∃ Y m d,e = .returned (.agg #[.int .i64 R.2.code,.string R.2.text,.int .i64 R.2.n,.slice Y m d])∧Sl w' 1 Y m d (strRows R.2.list)∧Tp w' Y 9∧(∃ a t,Kd w' B g now R.1 a t)∧KMov B w w'
theorem DoSPost.bl {R:List En×Re} {B g:Nat} {now:Int} {w w' w'':World} {e:Ending} (h:DoSPost R B g now w e w') (hb:Below w'.heap.size w' w'') (hB:B≤w.heap.size):DoSPost R B g now w e w'':=by
 obtain ⟨Y,m,d,h1,h2,h3,⟨a,t,h4⟩,h5⟩:=h
 exact ⟨Y,m,d,h1,h2.below hb,h3.bl hb,⟨a,t,h4.bl hb⟩,h5.next hB hb⟩
structure EnsOk (now:Int) (l:List En):Prop where
 rise:l.Pairwise Rk
 few:l.length≤12
 till:∀ x∈l,0≤x.till∧x.till≤1073741824
 good:∀ x∈l,Good x.val
 now0:0≤now
 now1:now≤1073741824
theorem reply_done {w w2:World} {B g:Nat} {now:Int} {l:List En} {r:Re} {a:Int} {t:Bool} {b:Nat} {Y:Option Addr} {m d:Nat} {x0 x1 x2 x3:Value} {k0 m0:Int} {t0:ByteArray}
  (R:Blk w2 b 102 #[x0,x1,x2,x3]) (K:Kd w2 B g now l a t) (L:Sl w2 1 Y m d (strRows r.list)) (Ty:Tp w2 Y 9) (q:KMov B w w2) (hb:w.heap.size≤b) (hB:B≤w.heap.size) (hk:k0=r.code) (ht:t0=r.text) (hm:m0=r.n) :
  DoSPost (l,r) B g now w (.returned (.agg #[.int .i64 k0,.string t0,.int .i64 m0,.slice Y m d])) ((((w2.setCell ⟨b,0,none⟩ (.int .i64 k0)).setCell ⟨b,1,none⟩ (.string t0)).setCell ⟨b,2,none⟩ (.int .i64 m0)).setCell ⟨b,3,none⟩ (.slice Y m d)) ∧
  Blk ((((w2.setCell ⟨b,0,none⟩ (.int .i64 k0)).setCell ⟨b,1,none⟩ (.string t0)).setCell ⟨b,2,none⟩ (.int .i64 m0)).setCell ⟨b,3,none⟩ (.slice Y m d)) b 102 #[.int .i64 k0,.string t0,.int .i64 m0,.slice Y m d]:=by
 subst hk;subst ht;subst hm
 obtain ⟨X9,gr9,-⟩:=whole_reply (.int .i64 r.code) (.string r.text) (.int .i64 r.n) (.slice Y m d) R
 obtain ⟨A,n,c,G,O⟩:=K
 have hgr:g≠b:=fun e=>blk_ne G R (by decide) e
 have f9:=Fr.grown R gr9
 exact ⟨⟨Y,m,d,rfl,str_fr L Ty f9,tps_fr Ty f9,⟨a,t,A,n,c,grown_blk G gr9 hgr,O.grown R gr9⟩,q.newblk gr9 hb hB⟩,X9⟩
set_option maxRecDepth 100000 in
theorem doK_any (c:Cmd) (B g:Nat) (now a:Int) (t:Bool) (l:List En) (w:World) (h:Kd w B g now l a t) (hok:EnsOk now l) (hcc:ccOf c=0) (hg:B≤g) (hB:B≤w.heap.size) :
  Calls Tryz.prog 98 #[.pointer (some ⟨g,0,none⟩),.agg #[.int .i64 c.kind,.string c.key,.string c.field,.string c.text,.int .i64 c.n]] w (DoSPost (doS now l c) B g now w):=by
 have hck:=cc_kind hcc
 have hfew:=hok.few
 obtain ⟨R,hR⟩:∃ R,R=doS now l c:=⟨_,rfl⟩
 rw [←hR]
 unfold doS at hR
 have hkl:=@keyHas_lt c.key l
 have hkle:keyAt c.key l≤l.length:=lowB_le _ _
 have hfind:=fun wz (hz:Below w.heap.size w wz)=>find_any c.key B g now a t l wz (h.bl hz) hok.rise (by omega) hg (by have:=hz.size;omega)
 have htimed:=fun wz (k:Nat) (tt:Bool) (hz:Kd wz B g now l (k:Int) tt) (hk:tt=true→k<l.length) (hBz:B≤wz.heap.size) (hkk:c.kind=20∨c.kind=21)=>timed_any c B g k now tt l wz hz hk (by omega) hg hBz ⟨hok.now0,hok.now1⟩ hok.till ⟨hck.2.2.1,hck.2.2.2⟩ hkk
 have hmay:May (oldOf l (keyAt c.key l) (keyHas c.key l)):=by
  unfold oldOf
  split
  ·cases hx:l[keyAt c.key l]? with
   | none=>exact .inl rfl
   | some x=>exact .inr (hok.good x (List.mem_of_getElem? hx))
  ·exact .inl rfl
 have hdo:=fun A1 A2 A3 n1 c1 n2 c2 n3 c3 wz hz=>Do_may (oldOf l (keyAt c.key l) (keyHas c.key l)) c hmay A1 A2 A3 n1 c1 n2 c2 n3 c3 wz hz
 have hde:=fun h18=>done_e hmay hcc h18
 have hmem:=hok.good
 generalize keyHas c.key l=kh at *
 generalize keyAt c.key l=k at *
 obtain ⟨ck,ckey,cf,ct,cn⟩:=c
 simp only at hR hck hfind htimed hdo hde hkl ⊢
 have HR:=hide hR;have HFIND:=hide hfind;have HTIMED:=hide htimed;have HDO:=hide hdo;have HDE:=hide hde;have HKL:=hide hkl
 clear hR hfind htimed hdo hde hkl hmem hmay hcc
 have bA:Below w.heap.size w ((w.alloc (.cells #[.int .i64 ck,.string ckey,.string cf,.string ct,.int .i64 cn] 31)).alloc (.cells #[.int .i64 0,.string { data:=#[] },.int .i64 0,.slice none 0 0] 102)):=below_by
 have C0:Blk ((w.alloc (.cells #[.int .i64 ck,.string ckey,.string cf,.string ct,.int .i64 cn] 31)).alloc (.cells #[.int .i64 0,.string { data:=#[] },.int .i64 0,.slice none 0 0] 102)) w.heap.size 31 #[.int .i64 ck,.string ckey,.string cf,.string ct,.int .i64 cn]:=(Blk.new _ _ _).alloc _
 have R0:Blk ((w.alloc (.cells #[.int .i64 ck,.string ckey,.string cf,.string ct,.int .i64 cn] 31)).alloc (.cells #[.int .i64 0,.string { data:=#[] },.int .i64 0,.slice none 0 0] 102)) (w.heap.size+1) 102 #[.int .i64 0,.string { data:=#[] },.int .i64 0,.slice none 0 0]:=Blk.new' _ _ _ (by simp)
 have h0:=h.bl bA
 (try clear cC0 fC0);have cC0:=C0.cell;have fC0:=C0.frozen
 go_enter Tryz.func98,Tryz.ntmps98
 go_wp2_with fail
 refine (HFIND.out _ bA).mono ?_
 rintro e w1 ⟨rfl,K1,q1⟩
 replace C0:=q1.frm _ _ _ C0 (by decide) (by decide)
 replace R0:=q1.frm _ _ _ R0 (by decide) (by decide)
 have q:=(KMov.of bA hB).trans q1
 clear HFIND cC0 fC0 q1 h0 bA h
 have hqs:=q.size
 have hB1:B≤w1.heap.size:=by omega
 have hcl:=C0.lt
 have hrl:=R0.lt
 (try clear cC0 fC0);have cC0:=C0.cell;have fC0:=C0.frozen
 by_cases h22:ck=22
 ·subst h22
  have hr:=HR.out
  rw [if_pos rfl] at hr
  subst hr
  clear HR HTIMED HDO HDE HKL
  obtain ⟨A,n,cc,G,O⟩:=K1
  have hnl:=O.sl.len
  have hn12:n≤12:=by omega
  have S1:=O.sl
  have T0:Blk (w1.alloc (.cells #[.int .i64 0,.string { data:=#[] },.int .i64 0,.slice none 0 0] 102)) w1.heap.size 102 #[.int .i64 0,.string { data:=#[] },.int .i64 0,.slice none 0 0]:=Blk.new _ _ _
  have b1:Below w1.heap.size w1 (w1.alloc (.cells #[.int .i64 0,.string { data:=#[] },.int .i64 0,.slice none 0 0] 102)):=below_by
  have hgl:=G.lt
  clear cC0 fC0
  (try clear cG fG);have cG:=G.cell;have fG:=G.frozen;(try clear cC0 fC0);have cC0:=C0.cell;have fC0:=C0.frozen
  go_wp2_with fail
  clear cC0 fC0 cG fG
  go_loopw [26] (fun s26 wr=>∃ j:Nat,j≤n∧s26 = .int .i64 j∧∃ D m d,Blk wr w1.heap.size 102 #[.int .i64 0,.string { data:=#[] },.int .i64 0,.slice D m d]∧Own wr w1.heap.size 9 1 (.slice D m d) (keyRows l j)∧Below w1.heap.size w1 wr) (fun s26 _=>n - (intOf s26).toNat)
  case atStart=>exact ⟨0,by omega,rfl,none,0,0,T0,Own.nil,b1⟩
  case round=>
   obtain ⟨j,hj,rfl,D,m,d,Tb,Od,qr⟩:=hrel
   clear T0 b1
   have hsr:=qr.size
   by_cases hlt:j<n
   ·have hjl:j<l.length:=by omega
    obtain ⟨b,off,A1,n1,c1,A2,n2,c2,A3,n3,c3,rfl,hb,⟨i0,i1,i2,i3,i4,i5,i6,i7⟩,-,-⟩:=(S1.bl qr).at_ hjl
    have hnext:=keyRows_next hjl
    have hln:(keyRows l j).length=j:=keyRows_len (by omega)
    generalize l[j]=x at i0 i1 i2 i3 i7 hnext
    obtain ⟨xk,xv,xt⟩:=x
    simp only at i0 i1 i2 i3 i7 hnext
    have hz1:(0:Int)≤(j:Int):=by omega
    have hz2:(j:Int)<(n:Int):=by omega
    have HN:=hide hnext
    have HLN:=hide hln
    clear hnext hln
    have bX:Below wr.heap.size wr (wr.alloc (.cells #[.string xk,.int .i64 xv.kind,.string xv.text,.int .i64 xv.count,.slice A1 n1 c1,.slice A2 n2 c2,.slice A3 n3 c3,.int .i64 xt] 98)):=below_by
    have X:=Blk.new wr 98 #[.string xk,.int .i64 xv.kind,.string xv.text,.int .i64 xv.count,.slice A1 n1 c1,.slice A2 n2 c2,.slice A3 n3 c3,.int .i64 xt]
    have T1:=Tb.below' bX
    have O1:=Od.below bX
    have htl:=Tb.lt
    (try clear cTb fTb);have cTb:=Tb.cell;have fTb:=Tb.frozen
    go_wp2_with (at_builtin;refine wpList_push_g rfl _ _ _ rfl Tryz.underlying93 text_info rfl (by omega) (by rfl) O1 (H:=wr.heap.size+1) (by simp) (by rfl) (row:=#[.string xk]) rfl (all_one rfl) ?p1 ?p2 ?p3 ?p4)
    case p1=>rw [HLN.out];unfold maxLen;omega
    case p2=>rw [HLN.out];omega
    case p3=>simp;omega
    case p4=>
     intro D9 m9 d9 w9 O9 gr9
     have ba:Below wr.heap.size wr ((wr.alloc (.cells #[.string xk,.int .i64 xv.kind,.string xv.text,.int .i64 xv.count,.slice A1 n1 c1,.slice A2 n2 c2,.slice A3 n3 c3,.int .i64 xt] 98)).alloc (.cells #[.string xk] 9)):=below_by
     have O7:=Od.below ba
     have T9:=blk_other (Tb.below' ba) O7 gr9
     have q9:=(bstep qr ba).trans (below_grown O7 gr9 (by simp;omega))
     have hq9:=q9.size
     have ht9:=T9.lt
     clear cTb fTb O1 O7 gr9 ba T1 Tb Od X bX i0 i1 i2 i3 i4 i5 i6 i7
     (try clear cT9 fT9);have cT9:=T9.cell;have fT9:=T9.frozen
     go_wp2_with fail
     go_roundw
     case rel=>
      have O9':Own w9 w1.heap.size 9 1 (.slice D9 m9 d9) (keyRows l (j+1)):=by rw [HN.out];exact O9
      exact ⟨j+1,by omega,by go_num,D9,m9,d9,T9.set' (i:=3) (u:=.slice D9 m9 d9) rfl,own_far O9' T9 3 (.slice D9 m9 d9),bset q9 (Nat.le_refl _) _⟩
     case measure=>simp [intOf];omega
   ·obtain rfl:j=n:=by omega
    rw [keyRows_full (by omega)] at Od
    have K9:Kd wr B g now l k kh:=⟨A,j,cc,G.below' qr,O.bl qr⟩
    have R9:=R0.below' qr
    have htl:=Tb.lt
    have hrl9:=R9.lt
    obtain ⟨P,X9⟩:=reply_done (r:=⟨0,emp,0,l.map En.key⟩) (k0:=0) (t0:={ data:=#[] }) (m0:=0) R9 K9 Od.sl' (own_tp Od) (q.next hB qr) (by omega) hB rfl rfl rfl
    (try clear cR9 fR9);have cR9:=R9.cell;have fR9:=R9.frozen;(try clear cTb fTb);have cTb:=Tb.cell;have fTb:=Tb.frozen
    have HP:=hide (And.intro P X9)
    clear P X9 K9 Od S1 O
    go_wp2_with fail
    obtain ⟨P,X9⟩:=HP.out
    have cX9:=X9.cell
    refine bodyPost_ret (v:=.agg #[.int .i64 0,.string { data:=#[] },.int .i64 0,.slice D m d]) ?_ rfl P
    simp [results,Tryz.results98,go_sem,cX9]
 ·have h22':(ck == 22)=false:=by rw [beq_eq_false_iff_ne];exact h22
  by_cases h19:ck=19
  ·subst h19
   have hr:=HR.out
   rw [if_neg (by omega),if_pos rfl] at hr
   obtain ⟨A,n,cc,G,O⟩:=K1
   (try clear cG fG);have cG:=G.cell;have fG:=G.frozen
   cases kh with
   | true=>
    rw [if_pos rfl] at hr
    subst hr
    go_wp2_with fail
    refine (remove_any B g k now true l _ ⟨A,n,cc,G,O⟩ (HKL.out (by simp)) (by omega) hg hB1).mono ?_
    rintro e w2 ⟨rfl,K2,q2⟩
    have R2:=q2.frm _ _ _ R0 (by decide) (by decide)
    have hrl2:=R2.lt
    obtain ⟨P,X9⟩:=reply_done (r:=toldR 1) (k0:=0) (t0:={ data:=#[] }) (m0:=1) R2 K2 (Sl.nil_ _ _) Tp.none_ (q.trans q2) (by omega) hB rfl rfl rfl
    (try clear cR2 fR2);have cR2:=R2.cell;have fR2:=R2.frozen
    clear cG fG cC0 fC0
    have HP:=hide (And.intro P X9)
    clear P X9
    go_wp2_with fail
    obtain ⟨P,X9⟩:=HP.out
    have cX9:=X9.cell
    refine bodyPost_ret (v:=.agg #[.int .i64 0,.string { data:=#[] },.int .i64 1,.slice none 0 0]) ?_ rfl P
    simp [results,Tryz.results98,go_sem,cX9]
   | false=>
    rw [if_neg (by simp)] at hr
    subst hr
    obtain ⟨P,X9⟩:=reply_done (r:=toldR 0) (k0:=0) (t0:={ data:=#[] }) (m0:=0) R0 ⟨A,n,cc,G,O⟩ (Sl.nil_ _ _) Tp.none_ q (by omega) hB rfl rfl rfl
    (try clear cR0 fR0);have cR0:=R0.cell;have fR0:=R0.frozen
    have HP:=hide (And.intro P X9)
    clear P X9
    go_wp2_with fail
    obtain ⟨P,X9⟩:=HP.out
    have cX9:=X9.cell
    refine bodyPost_ret (v:=.agg #[.int .i64 0,.string { data:=#[] },.int .i64 0,.slice none 0 0]) ?_ rfl P
    simp [results,Tryz.results98,go_sem,cX9]
  ·have h19':(ck == 19)=false:=by rw [beq_eq_false_iff_ne];exact h19
   by_cases ht:ck=20∨ck=21
   ·have hr:=HR.out
    rw [if_neg h22,if_neg h19,if_pos ht] at hr
    have htd:=HTIMED.out w1 k kh K1 HKL.out hB1 ht
    rw [←hr] at htd
    have HTD:=hide htd
    clear htd hr HR
    obtain ⟨Rl,⟨rc,rt,rn,rl⟩⟩:=R
    have hd20:(ck == 20)=true∨((ck == 20)=false∧(ck == 21)=true):=by
     rcases ht with rfl|rfl
     ·exact .inl rfl
     ·exact .inr ⟨by decide,rfl⟩
    clear ht
    rcases hd20 with hd20|⟨hd20,hd21⟩
    ·go_wp2_with fail
     refine HTD.out.mono ?_
     rintro e w2 ⟨rfl,hl2,K2,q2⟩
     simp only at hl2 K2
     subst hl2
     have R2:=q2.frm _ _ _ R0 (by decide) (by decide)
     have hrl2:=R2.lt
     obtain ⟨P,X9⟩:=reply_done (r:=⟨rc,rt,rn,[]⟩) (k0:=rc) (t0:=rt) (m0:=rn) R2 K2 (Sl.nil_ _ _) Tp.none_ (q.trans q2) (by omega) hB rfl rfl rfl
     (try clear cR2 fR2);have cR2:=R2.cell;have fR2:=R2.frozen
     clear cC0 fC0
     have HP:=hide (And.intro P X9)
     clear P X9
     go_wp2_with fail
     obtain ⟨P,X9⟩:=HP.out
     have cX9:=X9.cell
     refine bodyPost_ret (v:=.agg #[.int .i64 rc,.string rt,.int .i64 rn,.slice none 0 0]) ?_ rfl P
     simp [results,Tryz.results98,go_sem,cX9]
    ·go_wp2_with fail
     refine HTD.out.mono ?_
     rintro e w2 ⟨rfl,hl2,K2,q2⟩
     simp only at hl2 K2
     subst hl2
     have R2:=q2.frm _ _ _ R0 (by decide) (by decide)
     have hrl2:=R2.lt
     obtain ⟨P,X9⟩:=reply_done (r:=⟨rc,rt,rn,[]⟩) (k0:=rc) (t0:=rt) (m0:=rn) R2 K2 (Sl.nil_ _ _) Tp.none_ (q.trans q2) (by omega) hB rfl rfl rfl
     (try clear cR2 fR2);have cR2:=R2.cell;have fR2:=R2.frozen
     clear cC0 fC0
     have HP:=hide (And.intro P X9)
     clear P X9
     go_wp2_with fail
     obtain ⟨P,X9⟩:=HP.out
     have cX9:=X9.cell
     refine bodyPost_ret (v:=.agg #[.int .i64 rc,.string rt,.int .i64 rn,.slice none 0 0]) ?_ rfl P
     simp [results,Tryz.results98,go_sem,cX9]
   ·have h18:ck≤18:=by omega
    have h20':(ck == 20)=false:=by rw [beq_eq_false_iff_ne];omega
    have h21':(ck == 21)=false:=by rw [beq_eq_false_iff_ne];omega
    have hr0:=HR.out
    rw [if_neg h22,if_neg h19,if_neg ht] at hr0
    have hde:=HDE.out h18
    have hdo:=HDO.out
    clear HR HDO HDE HTIMED cC0 fC0
    cases kh with
    | true=>
     have hkl:=HKL.out (by simp)
     obtain ⟨A,n,cc,G,rows,O,E⟩:=K1
     have hnl:l.length=n:=by rw [E.len];exact O.n_eq.symm
     have hkn:k<n:=by omega
     clear hnl
     obtain ⟨b,off,Z1,y1,d1,Z2,y2,d2,Z3,y3,d3,hAb,hbl,⟨j0,j1,j2,j3,j4,j5,j6,j7⟩,V,TV⟩:=ent_at O.sl'.seg E hkl
     obtain ⟨b',hb1,-,-,-,-,-⟩:=O.block (by have:=O.n_eq;omega)
     rw [hb1] at hAb
     injection hAb with hAb
     injection hAb with hAb hoff
     subst hAb;subst hoff;subst hb1
     have hx:l[k]?=some l[k]:=List.getElem?_eq_getElem hkl
     have ho:oldOf l k true=l[k].val:=by unfold oldOf;rw [if_pos rfl,hx]
     rw [ho] at hr0 hdo hde
     generalize l[k]=x at V j0 j1 j2 j3 j7 hr0 hdo hde
     obtain ⟨xk,⟨vk,vt,vc,ps,is_,ss⟩,xt⟩:=x
     simp only [Nat.zero_add] at j0 j1 j2 j3 j4 j5 j6 j7 hr0 hdo hde
     generalize doneVal ⟨vk,vt,vc,ps,is_,ss⟩ ⟨ck,ckey,cf,ct,cn⟩=DD at *
     obtain ⟨⟨dk,dt,dc,dps,dis,dss⟩,⟨rc,rt,rn,rl⟩,de⟩:=DD
     simp only at hr0 hde hdo
     subst hde
     have HRR:=hide hr0
     have HDO:=hide hdo
     clear hr0 hdo hx ho j0 j7
     have hz1:(0:Int)≤(k:Int):=by omega
     have hz2:(k:Int)<(n:Int):=by omega
     have bZ:Below w1.heap.size w1 (w1.alloc (.cells #[.int .i64 0,.string { data:=#[] },.int .i64 0,.slice none 0 0,.slice none 0 0,.slice none 0 0] 96)):=below_by
     have Z0:Blk (w1.alloc (.cells #[.int .i64 0,.string { data:=#[] },.int .i64 0,.slice none 0 0,.slice none 0 0,.slice none 0 0] 96)) w1.heap.size 96 #[.int .i64 0,.string { data:=#[] },.int .i64 0,.slice none 0 0,.slice none 0 0,.slice none 0 0]:=Blk.new _ _ _
     have hgl1:=G.lt
     (try clear cG fG);have cG:=G.cell;have fG:=G.frozen;(try clear cC0 fC0);have cC0:=C0.cell;have fC0:=C0.frozen
     go_wp2_with fail
     obtain ⟨w2,hw2⟩:∃ w2,w2=w1.alloc (.cells #[.int .i64 0,.string { data:=#[] },.int .i64 0,.slice none 0 0,.slice none 0 0,.slice none 0 0] 96):=⟨_,rfl⟩
     rw [←hw2] at bZ Z0 ⊢
     clear hw2 cG fG cC0 fC0
     replace j1:=(bZ.cell (p:=⟨b',k*8+1,none⟩) hbl).trans j1;replace j2:=(bZ.cell (p:=⟨b',k*8+2,none⟩) hbl).trans j2;replace j3:=(bZ.cell (p:=⟨b',k*8+3,none⟩) hbl).trans j3
     replace j4:=(bZ.cell (p:=⟨b',k*8+4,none⟩) hbl).trans j4;replace j5:=(bZ.cell (p:=⟨b',k*8+5,none⟩) hbl).trans j5;replace j6:=(bZ.cell (p:=⟨b',k*8+6,none⟩) hbl).trans j6
     have K2:Kd w2 B g now l k true:=Kd.bl ⟨_,n,cc,G,rows,O,E⟩ bZ
     have G2:=G.below' bZ
     replace C0:=C0.below' bZ;replace R0:=R0.below' bZ;replace q:=q.next hB bZ
     replace V:=V.bl bZ;replace TV:=Tps.fr TV (Fr.of bZ)
     clear G O E
     have hzl:=Z0.lt
     refine wp_region_x (l:=[12]) (S:=fun w'=>w'.cell? ⟨g,1,none⟩=some (.slice (some ⟨b',0,none⟩) n cc)∧w'.cell? ⟨g,2,none⟩=some (.int .i64 (k:Int))∧w'.cell? ⟨b',k*8+1,none⟩=some (.int .i64 vk)∧w'.cell? ⟨b',k*8+2,none⟩=some (.string vt)∧w'.cell? ⟨b',k*8+3,none⟩=some (.int .i64 vc)∧w'.cell? ⟨b',k*8+4,none⟩=some (.slice Z1 y1 d1)∧w'.cell? ⟨b',k*8+5,none⟩=some (.slice Z2 y2 d2)∧w'.cell? ⟨b',k*8+6,none⟩=some (.slice Z3 y3 d3)) (by kernel_rfl)
      ⟨G2.drew.cell 1,G2.drew.cell 2,j1,j2,j3,j4,j5,j6⟩ (fun hS=>?_)
     refine wpAnyX_tq 0 ?_
     refine wpAnyX_tq 1 ?_
     refine wpAnyX_tq 2 ?_
     refine wpAnyX_tq 3 ?_
     refine wpAnyX_tq 4 ?_
     refine wpAnyX_tq 5 ?_
     refine wpAnyX_tq 6 ?_
     refine wpAnyX_tq 7 ?_
     refine wpAnyX_tq 8 ?_
     refine wpAnyX_tq 9 ?_
     refine wpAnyX_tq 10 ?_
     refine wpAnyX_tq 11 ?_
     (try clear cZ0 fZ0);have cZ0:=Z0.cell;have fZ0:=Z0.frozen
     refine wpAnyX_oq 12 fun K hK=>?_
     go_wp2_with fail
     refine hK.out _ _ (Or.inl (by decide)) (fun hS=>?_)
     clear hK K hS cZ0 fZ0
     refine wpAnyX_done (by kernel_rfl) ?_ _
     obtain ⟨V8,gr8,-⟩:=whole_value (.int .i64 vk) (.string vt) (.int .i64 vc) (.slice Z1 y1 d1) (.slice Z2 y2 d2) (.slice Z3 y3 d3) Z0
     have f8:=Fr.grown Z0 gr8
     obtain ⟨A',n',cc',G',O'⟩:=K2
     have hg8:g≠w1.heap.size:=fun e=>blk_ne G' Z0 (by decide) e
     have G8:=grown_blk G' gr8 hg8
     have O8:=O'.grown Z0 gr8
     have C8:=grown_blk C0 gr8 (by omega)
     have R8:=grown_blk R0 gr8 (by omega)
     have q8:=q.newblk gr8 (by omega) hB
     have VV8:=V.fr TV f8
     clear V TV f8 gr8 Z0 G' O' C0 R0 q j1 j2 j3 j4 j5 j6 bZ G2
     obtain ⟨wD,hwD⟩:∃ wD,wD=((((((w2.setCell ⟨w1.heap.size,0,none⟩ (.int .i64 vk)).setCell ⟨w1.heap.size,1,none⟩ (.string vt)).setCell ⟨w1.heap.size,2,none⟩ (.int .i64 vc)).setCell ⟨w1.heap.size,3,none⟩ (.slice Z1 y1 d1)).setCell ⟨w1.heap.size,4,none⟩ (.slice Z2 y2 d2)).setCell ⟨w1.heap.size,5,none⟩ (.slice Z3 y3 d3)).drew:=⟨_,rfl⟩
     replace V8:=V8.drew;replace G8:=G8.drew;replace O8:=O8.dr;replace C8:=C8.drew;replace R8:=R8.drew;replace VV8:=VV8.dr
     replace q8:=q8.trans (KMov.of (Below.refl _ _).drew (by have:=q8.size;omega))
     rw [←hwD] at V8 G8 O8 C8 R8 q8 VV8 ⊢
     clear hwD
     have K:Kd wD B g now l k true:=⟨A',n',cc',G8,O8⟩
     have C0:=C8;have R0:=R8;have q:=q8
     have hvl8:=V8.lt
     have hcl8:=C8.lt
     (try clear cV8 fV8);have cV8:=V8.cell;have fV8:=V8.frozen;(try clear cC0 fC0);have cC0:=C0.cell;have fC0:=C0.frozen
     clear C8 R8 q8 G8 O8
     go_wp2_with fail
     clear cV8 fV8 cC0 fC0 V8
     refine (HDO.out Z1 Z2 Z3 y1 d1 y2 d2 y3 d3 _ VV8).mono ?_
     rintro e w4 ⟨B1,m1,e1,B2,m2,e2,B3,m3,e3,B4,m4,e4,rfl,M4,L4,T4,hb4⟩
     have bx:Below w4.heap.size w4 ((w4.alloc (.cells #[.int .i64 dk,.string dt,.int .i64 dc,.slice B1 m1 e1,.slice B2 m2 e2,.slice B3 m3 e3] 96)).alloc (.cells #[.int .i64 rc,.string rt,.int .i64 rn,.slice B4 m4 e4] 102)):=below_by
     have b4:=bstep hb4 bx
     have hY4:Blk ((w4.alloc (.cells #[.int .i64 dk,.string dt,.int .i64 dc,.slice B1 m1 e1,.slice B2 m2 e2,.slice B3 m3 e3] 96)).alloc (.cells #[.int .i64 rc,.string rt,.int .i64 rn,.slice B4 m4 e4] 102)) (w4.heap.size+1) 102 #[.int .i64 rc,.string rt,.int .i64 rn,.slice B4 m4 e4]:=Blk.new' _ _ _ (by simp)
     have R4:=R0.below' hb4;have C4:=C0.below' hb4
     obtain ⟨A',n',cc',G4,O4⟩:=K.bl hb4
     have K5:Kd ((w4.alloc (.cells #[.int .i64 dk,.string dt,.int .i64 dc,.slice B1 m1 e1,.slice B2 m2 e2,.slice B3 m3 e3] 96)).alloc (.cells #[.int .i64 rc,.string rt,.int .i64 rn,.slice B4 m4 e4] 102)) B g now l k true:=Kd.bl ⟨A',n',cc',G4,O4⟩ bx
     have R5:=R4.below' bx
     have M5:=M4.bl bx;have L5:=L4.below bx
     have TM:Tps ((w4.alloc (.cells #[.int .i64 dk,.string dt,.int .i64 dc,.slice B1 m1 e1,.slice B2 m2 e2,.slice B3 m3 e3] 96)).alloc (.cells #[.int .i64 rc,.string rt,.int .i64 rn,.slice B4 m4 e4] 102)) B1 B2 B3:=⟨T4.1.bl bx,T4.2.1.bl bx,T4.2.2.1.bl bx⟩
     have TL:=T4.2.2.2.bl bx
     have q5:=q.next hB b4;have q4:=q.next hB hb4
     have K4:Kd w4 B g now l k true:=⟨A',n',cc',G4,O4⟩
     clear M4 K C0 R0 q b4
     have hB5:B≤((w4.alloc (.cells #[.int .i64 dk,.string dt,.int .i64 dc,.slice B1 m1 e1,.slice B2 m2 e2,.slice B3 m3 e3] 96)).alloc (.cells #[.int .i64 rc,.string rt,.int .i64 rn,.slice B4 m4 e4] 102)).heap.size:=by have:=q5.size;omega
     have hs4:=hb4.size
     have hrl4:=R4.lt
     have hcl4:=C4.lt
     have hgl4:=G4.lt
     have hrl5:w.heap.size+1<w4.heap.size+1:=by omega
     have hcl5:w.heap.size<w4.heap.size+1:=by omega
     have hgl5:g<w4.heap.size+1:=by omega
     have hnl4:=O4.sl.len
     clear bx hb4
     simp only at M5 L5 L4
     have hr:=HRR.out
     by_cases hrc:rc=0
     ·subst hrc
      replace hY4:=hY4
      rw [if_neg (by simp)] at hr
      by_cases hdk:dk=0
      ·subst hdk
       rw [if_pos ⟨rfl,by simp⟩] at hr
       subst hr
       (try clear cG4 fG4);have cG4:=G4.cell;have fG4:=G4.frozen;(try clear cC4 fC4);have cC4:=C4.cell;have fC4:=C4.frozen
       go_wp2_with fail
       refine (remove_any B g k now true l _ K5 (HKL.out (by simp)) (by omega) hg hB5).mono ?_
       rintro e w6 ⟨rfl,K6,q6⟩
       have R6:=q6.frm _ _ _ R5 (by decide) (by decide)
       have Y6:=q6.frm _ _ _ hY4 (by decide) (by decide)
       have L6:=str_fr L5 TL q6.fr
       have TL6:=tps_fr TL q6.fr
       have q7:=q5.trans q6
       have hrl6:=R6.lt
       have hyl6:=Y6.lt
       clear cC4 fC4 cG4 fG4
       (try clear cY6 fY6);have cY6:=Y6.cell;have fY6:=Y6.frozen
       obtain ⟨P,X9⟩:=reply_done (r:=⟨0,rt,rn,rl⟩) (k0:=0) (t0:=rt) (m0:=rn) R6 K6 L6 TL6 q7 (by omega) hB rfl rfl rfl
       (try clear cR6 fR6);have cR6:=R6.cell;have fR6:=R6.frozen
       have HP:=hide (And.intro P X9)
       clear P X9
       go_wp2_with fail
       obtain ⟨P,X9⟩:=HP.out
       have cX9:=X9.cell
       refine bodyPost_ret (v:=.agg #[.int .i64 0,.string rt,.int .i64 rn,.slice B4 m4 e4]) ?_ rfl P
       simp [results,Tryz.results98,go_sem,cX9]
      ·rw [if_neg (by simp [hdk]),if_neg (by simp),if_pos hdk] at hr
       subst hr
       have hdk':(dk == 0)=false:=by rw [beq_eq_false_iff_ne];exact hdk
       have hset:=setK_any ⟨ck,ckey,cf,ct,cn⟩ ⟨dk,dt,dc,dps,dis,dss⟩ B g k now true l B1 B2 B3 m1 e1 m2 e2 m3 e3 _ K5 M5 TM (by rw [if_pos rfl];exact HKL.out (by simp)) (by omega) hg hB5
       simp only at hset
       have HSET:=hide hset
       clear hset
       (try clear cG4 fG4);have cG4:=G4.cell;have fG4:=G4.frozen;(try clear cC4 fC4);have cC4:=C4.cell;have fC4:=C4.frozen
       go_wp2_with fail
       refine HSET.out.mono ?_
       rintro e w6 ⟨rfl,K6,q6⟩
       have R6:=q6.frm _ _ _ R5 (by decide) (by decide)
       have Y6:=q6.frm _ _ _ hY4 (by decide) (by decide)
       have L6:=str_fr L5 TL q6.fr
       have TL6:=tps_fr TL q6.fr
       have q7:=q5.trans q6
       have hrl6:=R6.lt
       have hyl6:=Y6.lt
       clear cC4 fC4 cG4 fG4
       (try clear cY6 fY6);have cY6:=Y6.cell;have fY6:=Y6.frozen
       obtain ⟨P,X9⟩:=reply_done (r:=⟨0,rt,rn,rl⟩) (k0:=0) (t0:=rt) (m0:=rn) R6 K6 L6 TL6 q7 (by omega) hB rfl rfl rfl
       (try clear cR6 fR6);have cR6:=R6.cell;have fR6:=R6.frozen
       have HP:=hide (And.intro P X9)
       clear P X9
       go_wp2_with fail
       obtain ⟨P,X9⟩:=HP.out
       have cX9:=X9.cell
       refine bodyPost_ret (v:=.agg #[.int .i64 0,.string rt,.int .i64 rn,.slice B4 m4 e4]) ?_ rfl P
       simp [results,Tryz.results98,go_sem,cX9]
     ·rw [if_pos (by simpa using hrc)] at hr
      subst hr
      have hrc':(rc == 0)=false:=by rw [beq_eq_false_iff_ne];exact hrc
      obtain ⟨P,X9⟩:=reply_done (r:=⟨rc,rt,rn,rl⟩) (k0:=rc) (t0:=rt) (m0:=rn) R4 K4 L4 T4.2.2.2 q4 (by omega) hB rfl rfl rfl
      (try clear cR4 fR4);have cR4:=R4.cell;have fR4:=R4.frozen
      have HP:=hide (And.intro P X9)
      clear P X9
      go_wp2_with fail
      all_goals obtain ⟨P,X9⟩:=HP.out
      all_goals have cX9:=X9.cell
      all_goals refine bodyPost_ret (v:=.agg #[.int .i64 rc,.string rt,.int .i64 rn,.slice B4 m4 e4]) ?_ rfl (P.bl below_by hB)
      all_goals simp [results,Tryz.results98,go_sem,cX9,hrl4,hrl5]
    | false=>
     have ho:oldOf l k false=zeroVa:=by unfold oldOf;rw [if_neg (by simp)]
     rw [ho] at hr0 hdo hde
     generalize doneVal zeroVa ⟨ck,ckey,cf,ct,cn⟩=DD at *
     obtain ⟨⟨dk,dt,dc,dps,dis,dss⟩,⟨rc,rt,rn,rl⟩,de⟩:=DD
     simp only [zeroVa,emp] at hr0 hde hdo
     subst hde
     have HRR:=hide hr0
     have HDO:=hide hdo
     clear hr0 hdo ho
     obtain ⟨A0,n0,cc0,G,O⟩:=K1
     have bZ:Below w1.heap.size w1 (w1.alloc (.cells #[.int .i64 0,.string { data:=#[] },.int .i64 0,.slice none 0 0,.slice none 0 0,.slice none 0 0] 96)):=below_by
     have hgl1:=G.lt
     (try clear cG fG);have cG:=G.cell;have fG:=G.frozen;(try clear cC0 fC0);have cC0:=C0.cell;have fC0:=C0.frozen
     go_wp2_with fail
     have K:=Kd.bl ⟨A0,n0,cc0,G,O⟩ bZ
     replace C0:=C0.below' bZ;replace R0:=R0.below' bZ;replace q:=q.next hB bZ
     clear cG fG cC0 fC0 G O bZ
     refine (HDO.out none none none 0 0 0 0 0 0 _ nil_vsl).mono ?_
     rintro e w4 ⟨B1,m1,e1,B2,m2,e2,B3,m3,e3,B4,m4,e4,rfl,M4,L4,T4,hb4⟩
     have bx:Below w4.heap.size w4 ((w4.alloc (.cells #[.int .i64 dk,.string dt,.int .i64 dc,.slice B1 m1 e1,.slice B2 m2 e2,.slice B3 m3 e3] 96)).alloc (.cells #[.int .i64 rc,.string rt,.int .i64 rn,.slice B4 m4 e4] 102)):=below_by
     have b4:=bstep hb4 bx
     have hY4:Blk ((w4.alloc (.cells #[.int .i64 dk,.string dt,.int .i64 dc,.slice B1 m1 e1,.slice B2 m2 e2,.slice B3 m3 e3] 96)).alloc (.cells #[.int .i64 rc,.string rt,.int .i64 rn,.slice B4 m4 e4] 102)) (w4.heap.size+1) 102 #[.int .i64 rc,.string rt,.int .i64 rn,.slice B4 m4 e4]:=Blk.new' _ _ _ (by simp)
     have R4:=R0.below' hb4;have C4:=C0.below' hb4
     obtain ⟨A',n',cc',G4,O4⟩:=K.bl hb4
     have K5:Kd ((w4.alloc (.cells #[.int .i64 dk,.string dt,.int .i64 dc,.slice B1 m1 e1,.slice B2 m2 e2,.slice B3 m3 e3] 96)).alloc (.cells #[.int .i64 rc,.string rt,.int .i64 rn,.slice B4 m4 e4] 102)) B g now l k false:=Kd.bl ⟨A',n',cc',G4,O4⟩ bx
     have R5:=R4.below' bx
     have M5:=M4.bl bx;have L5:=L4.below bx
     have TM:Tps ((w4.alloc (.cells #[.int .i64 dk,.string dt,.int .i64 dc,.slice B1 m1 e1,.slice B2 m2 e2,.slice B3 m3 e3] 96)).alloc (.cells #[.int .i64 rc,.string rt,.int .i64 rn,.slice B4 m4 e4] 102)) B1 B2 B3:=⟨T4.1.bl bx,T4.2.1.bl bx,T4.2.2.1.bl bx⟩
     have TL:=T4.2.2.2.bl bx
     have q5:=q.next hB b4;have q4:=q.next hB hb4
     have K4:Kd w4 B g now l k false:=⟨A',n',cc',G4,O4⟩
     clear M4 K C0 R0 q b4
     have hB5:B≤((w4.alloc (.cells #[.int .i64 dk,.string dt,.int .i64 dc,.slice B1 m1 e1,.slice B2 m2 e2,.slice B3 m3 e3] 96)).alloc (.cells #[.int .i64 rc,.string rt,.int .i64 rn,.slice B4 m4 e4] 102)).heap.size:=by have:=q5.size;omega
     have hs4:=hb4.size
     have hrl4:=R4.lt
     have hcl4:=C4.lt
     have hgl4:=G4.lt
     have hrl5:w.heap.size+1<w4.heap.size+1:=by omega
     have hcl5:w.heap.size<w4.heap.size+1:=by omega
     have hgl5:g<w4.heap.size+1:=by omega
     have hnl4:=O4.sl.len
     clear bx hb4
     simp only at M5 L5 L4
     have hr:=HRR.out
     by_cases hrc:rc=0
     ·subst hrc
      replace hY4:=hY4
      rw [if_neg (by simp)] at hr
      by_cases h12:l.length=12
      ·rw [if_neg (by simp),if_pos ⟨by simp,h12⟩] at hr
       subst hr
       have hn12:n'=12:=by omega
       subst hn12
       (try clear cG4 fG4);have cG4:=G4.cell;have fG4:=G4.frozen
       obtain ⟨P,X9⟩:=reply_done (r:=failR 6) (k0:=6) (t0:={ data:=#[] }) (m0:=0) R4 K4 (Sl.nil_ _ _) Tp.none_ q4 (by omega) hB rfl rfl rfl
       (try clear cR4 fR4);have cR4:=R4.cell;have fR4:=R4.frozen
       have HP:=hide (And.intro P X9)
       clear P X9
       go_wp2_with fail
       all_goals obtain ⟨P,X9⟩:=HP.out
       all_goals have cX9:=X9.cell
       all_goals refine bodyPost_ret (v:=.agg #[.int .i64 6,.string { data:=#[] },.int .i64 0,.slice none 0 0]) ?_ rfl (P.bl below_by hB)
       all_goals simp [results,Tryz.results98,go_sem,cX9,hrl4,hrl5]
      ·by_cases hdk:dk=0
       ·subst hdk
        rw [if_neg (by simp),if_neg (by simp [h12]),if_neg (by simp)] at hr
        subst hr
        have hn12:((n':Int) == 12)=false:=by rw [beq_eq_false_iff_ne];omega
        (try clear cG4 fG4);have cG4:=G4.cell;have fG4:=G4.frozen
        obtain ⟨P,X9⟩:=reply_done (r:=⟨0,rt,rn,rl⟩) (k0:=0) (t0:=rt) (m0:=rn) R4 K4 L4 T4.2.2.2 q4 (by omega) hB rfl rfl rfl
        (try clear cR4 fR4);have cR4:=R4.cell;have fR4:=R4.frozen
        have HP:=hide (And.intro P X9)
        clear P X9
        go_wp2_with fail
        all_goals obtain ⟨P,X9⟩:=HP.out
        all_goals have cX9:=X9.cell
        all_goals refine bodyPost_ret (v:=.agg #[.int .i64 0,.string rt,.int .i64 rn,.slice B4 m4 e4]) ?_ rfl (P.bl below_by hB)
        all_goals simp [results,Tryz.results98,go_sem,cX9,hrl4,hrl5]
       ·rw [if_neg (by simp),if_neg (by simp [h12]),if_pos hdk] at hr
        subst hr
        have hdk':(dk == 0)=false:=by rw [beq_eq_false_iff_ne];exact hdk
        have hn12:((n':Int) == 12)=false:=by rw [beq_eq_false_iff_ne];omega
        have hset:=setK_any ⟨ck,ckey,cf,ct,cn⟩ ⟨dk,dt,dc,dps,dis,dss⟩ B g k now false l B1 B2 B3 m1 e1 m2 e2 m3 e3 _ K5 M5 TM (by rw [if_neg (by simp)];exact hkle) (by omega) hg hB5
        simp only at hset
        have HSET:=hide hset
        clear hset
        (try clear cG4 fG4);have cG4:=G4.cell;have fG4:=G4.frozen;(try clear cC4 fC4);have cC4:=C4.cell;have fC4:=C4.frozen
        go_wp2_with fail
        refine HSET.out.mono ?_
        rintro e w6 ⟨rfl,K6,q6⟩
        have R6:=q6.frm _ _ _ R5 (by decide) (by decide)
        have Y6:=q6.frm _ _ _ hY4 (by decide) (by decide)
        have L6:=str_fr L5 TL q6.fr
        have TL6:=tps_fr TL q6.fr
        have q7:=q5.trans q6
        have hrl6:=R6.lt
        have hyl6:=Y6.lt
        clear cC4 fC4 cG4 fG4
        (try clear cY6 fY6);have cY6:=Y6.cell;have fY6:=Y6.frozen
        obtain ⟨P,X9⟩:=reply_done (r:=⟨0,rt,rn,rl⟩) (k0:=0) (t0:=rt) (m0:=rn) R6 K6 L6 TL6 q7 (by omega) hB rfl rfl rfl
        (try clear cR6 fR6);have cR6:=R6.cell;have fR6:=R6.frozen
        have HP:=hide (And.intro P X9)
        clear P X9
        go_wp2_with fail
        obtain ⟨P,X9⟩:=HP.out
        have cX9:=X9.cell
        refine bodyPost_ret (v:=.agg #[.int .i64 0,.string rt,.int .i64 rn,.slice B4 m4 e4]) ?_ rfl P
        simp [results,Tryz.results98,go_sem,cX9]
     ·rw [if_pos (by simpa using hrc)] at hr
      subst hr
      have hrc':(rc == 0)=false:=by rw [beq_eq_false_iff_ne];exact hrc
      obtain ⟨P,X9⟩:=reply_done (r:=⟨rc,rt,rn,rl⟩) (k0:=rc) (t0:=rt) (m0:=rn) R4 K4 L4 T4.2.2.2 q4 (by omega) hB rfl rfl rfl
      (try clear cR4 fR4);have cR4:=R4.cell;have fR4:=R4.frozen
      have HP:=hide (And.intro P X9)
      clear P X9
      go_wp2_with fail
      all_goals obtain ⟨P,X9⟩:=HP.out
      all_goals have cX9:=X9.cell
      all_goals refine bodyPost_ret (v:=.agg #[.int .i64 rc,.string rt,.int .i64 rn,.slice B4 m4 e4]) ?_ rfl (P.bl below_by hB)
      all_goals simp [results,Tryz.results98,go_sem,cX9,hrl4,hrl5]
end Go.Proofs.YtgmojjclobkpjaaGreatDoor

