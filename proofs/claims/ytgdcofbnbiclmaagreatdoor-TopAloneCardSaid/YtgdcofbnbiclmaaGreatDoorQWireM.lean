import Derived.Test.YtgdcofbnbiclmaaGreatDoorQWire
import Derived.Test.YtgdcofbnbiclmaaGreatDoorQValsP
namespace Go.Proofs.YtgdcofbnbiclmaaGreatDoor
set_option linter.all false
set_option maxHeartbeats 32000000
open Go.RowKit
open Go.Lib (strCells strCells_length)
def txtB (s:ByteArray):List Value:=[u8 s.size] ++ strCells s
def txtsB (l:List ByteArray):List Value:=[u8 l.length] ++ (l.map txtB).flatten
def pairB (p:Pr):List Value:=txtB p.field ++ txtB p.text
def scoreB (s:Sc):List Value:=txtB s.member ++ num8 s.n
def valB (v:Va):List Value:=[u8 v.kind] ++ txtB v.text ++ num8 v.count ++ ([u8 v.pairs.length] ++ (v.pairs.map pairB).flatten) ++ txtsB v.items ++ ([u8 v.scores.length] ++ (v.scores.map scoreB).flatten)
theorem txtB_length (s:ByteArray):(txtB s).length=1+s.size:=by simp [txtB,strCells_length];omega
theorem num8_len (n:Int):(num8 n).length=8:=rfl
theorem flat_le {α:Type} {f:α→List Value} {b:Nat}:∀ {l:List α},(∀ x∈l,(f x).length≤b)→((l.map f).flatten).length≤b*l.length
 | [],_=>by simp
 | x :: l,h=>by
  have h1:=h x (by simp)
  have h2:=flat_le (f:=f) (b:=b) (l:=l) fun y hy=>h y (by simp [hy])
  simp only [List.map_cons,List.flatten_cons,List.length_append,List.length_cons,Nat.mul_add,Nat.mul_one]
  omega
theorem flat_next {α:Type} {f:α→List Value} {l:List α} {k:Nat} (hk:k<l.length):((l.take (k+1)).map f).flatten=((l.take k).map f).flatten ++ f l[k]:=by
 rw [List.take_succ_eq_append_getElem hk,List.map_append,List.flatten_append];simp
theorem wr_typed {w:World} {g base:Nat} {v:Value} {bs:List Value} (h:WrT w g base v bs) {k:Nat} (hk:v.ownBlock=some k):∃ cur,w.heap[k]?=some (.cells cur 5 (0,0)):=by
 rcases h.own.2 with ⟨rfl,_⟩|⟨b,cap,cur,rfl,_,h3,_⟩
 ·simp [Value.ownBlock] at hk
 ·simp [Value.ownBlock] at hk;subst hk;exact ⟨cur,h3⟩
theorem Blk.wt {w w':World} {g base k:Nat} {v v':Value} {bs:List Value} {t:TypeId} {cs:Array Value} (h:Blk w k t cs) (W:WrT w g base v bs) (q:Wrote w w' g v v') (h1:t≠279:=by decide) (h2:t≠5:=by decide):Blk w' k t cs:=by
 refine h.wrote q (blk_ne h W.blk h1) fun e=>?_
 obtain ⟨cur,hc⟩:=wr_typed W e.symm
 have:=h.symm.trans hc
 injection this with this
 injection this with _ h3
 exact h2 h3
theorem Fr.wt {w w':World} {g base:Nat} {v v':Value} {bs:List Value} (W:WrT w g base v bs) (q:Wrote w w' g v v'):Fr w w':=
 ⟨q.size,fun _ _ hb=>hb.wt W q,fun _ _ hb=>hb.wt W q,fun _ _ hb=>hb.wt W q⟩
theorem Tp.wt {w w':World} {g base:Nat} {v v':Value} {bs:List Value} {A:Option Addr} {t:TypeId} (h:Tp w A t) (W:WrT w g base v bs) (q:Wrote w w' g v v') (h1:t≠279:=by decide) (h2:t≠5:=by decide):Tp w' A t:=fun a ha=>by
 obtain ⟨cs,hc⟩:=h a ha
 exact ⟨cs,Blk.wt hc W q h1 h2⟩
theorem Sl.wt {w w':World} {g base n c size:Nat} {v v':Value} {bs:List Value} {A:Option Addr} {t:TypeId} {rows:List (List Value)} (h:Sl w size A n c rows) (T:Tp w A t) (W:WrT w g base v bs) (q:Wrote w w' g v v') (h1:t≠279:=by decide) (h2:t≠5:=by decide):Sl w' size A n c rows:=
 h.kept q.size fun a ha _=>by obtain ⟨cs,hc⟩:=T a ha;exact (Blk.wt hc W q h1 h2).trans hc.symm
theorem TxSl.wt {w w':World} {g base:Nat} {v v':Value} {bs:List Value} {Y:Option Addr} {m d:Nat} {tx:List ByteArray} (h:TxSl w Y m d tx) (W:WrT w g base v bs) (q:Wrote w w' g v v'):TxSl w' Y m d tx:=h.fr (Fr.wt W q)
theorem wrt_slice {w:World} {g base:Nat} {v:Value} {bs:List Value} (h:WrT w g base v bs):∃ A n c,v = .slice A n c:=by
 obtain ⟨A,c,e⟩:=owns_slice h.own
 exact ⟨A,_,c,e⟩
theorem wtexts_any (g base:Nat) (v:Value) (bs:List Value) (Y:Option Addr) (m d:Nat) (l:List ByteArray) (w:World) (h:WrT w g base v bs) (hl:bs.length≤500000) (hb:base≤w.heap.size) (hT:TxSl w Y m d l) (hn:l.length≤20) (hs:∀ s∈l,s.size≤20) :
  Calls Tryz.prog 201 #[.pointer (some ⟨g,0,none⟩),.slice Y m d] w (Writes w g base v (bs ++ txtsB l)):=by
 have hlm:=hT.len
 have HS:=hide hs
 clear hs
 go_enter Tryz.func201,Tryz.ntmps201
 go_wp2_with fail
 refine (small_any g base v bs m _ h (by omega) hb (by omega) (by omega)).mono ?_
 rintro e w1 ⟨rfl,A,n,c,h1,q1⟩
 have T1:=hT.wt h q1
 obtain ⟨b1,HB⟩:∃ b1,Hid (b1=bs ++ [u8 m]):=⟨_,rfl⟩
 have hlen:b1.length=bs.length+1:=by rw [HB.out];simp
 rw [←HB.out] at h1
 have hb1:base≤w1.heap.size:=by have:=q1.size;omega
 have HN:=hide (fun k (hk:k<l.length)=>flat_next (f:=txtB) hk)
 clear h hT
 go_wp2_with fail
 go_loopw [12] (fun s12 wr=>∃ k:Nat,k≤m∧s12 = .int .i64 (k:Int)∧∃ v' bs',WrT wr g base v' bs'∧Wrote w wr g v v'∧TxSl wr Y m d l∧bs'.length≤b1.length+21*k∧Hid (bs'=b1 ++ ((l.take k).map txtB).flatten)∧base≤wr.heap.size) (fun s12 _=>m - (intOf s12).toNat)
 case atStart=>exact ⟨0,by omega,rfl,_,b1,h1,q1,T1,by omega,hide (by simp),hb1⟩
 case round=>
  obtain ⟨k,hk,rfl,v',bs',hr,hw,T,hln,HQ,hbr⟩:=hrel
  clear h1 q1 T1 hb1
  by_cases hlt:k<m
  ·have hkl:k<l.length:=by omega
   obtain ⟨b,off,rfl,hbb,i0⟩:=T.sl.seg.str hkl
   have hsz:=HS.out _ (List.getElem_mem hkl)
   have hnx:=HN.out k hkl
   generalize l[k]=s at *
   have HNX:=hide hnx
   clear hnx
   have hz1:(0:Int)≤(k:Int):=by omega
   have hz2:(k:Int)<(m:Int):=by omega
   go_wp2_with fail
   refine (wtext_any g base v' bs' s _ hr (by omega) hbr hsz).mono ?_
   rintro e w2 ⟨rfl,A2,n2,c2,h2,q2⟩
   have T2:=T.wt hr q2
   have hb2:base≤w2.heap.size:=by have:=q2.size;omega
   have hw2:=hw.trans q2
   clear hr T i0 hw
   go_wp2_with fail
   go_roundw
   case rel=>exact ⟨k+1,by omega,by go_num,_,_,h2,hw2,T2,by simp only [List.length_append,List.length_singleton,strCells_length];omega,hide (by rw [HNX.out,HQ.out];simp [txtB]),hb2⟩
   case measure=>simp [intOf];omega
  ·obtain rfl:k=m:=by omega
   obtain ⟨A',n',c',rfl⟩:=wrt_slice hr
   go_wp2_with fail
   go_end0
   refine Writes.mk hr hw ?_
   rw [HQ.out,HB.out,List.take_of_length_le (by omega)]
   simp [txtsB,hlm]
set_option maxRecDepth 100000 in
theorem wvalue_any (g base:Nat) (v:Value) (bs:List Value) (x:Va) (A1 A2 A3:Option Addr) (n1 c1 n2 c2 n3 c3:Nat) (w:World) (h:WrT w g base v bs) (hl:bs.length≤400000) (hb:base≤w.heap.size) (hV:VSl w x A1 n1 c1 A2 n2 c2 A3 n3 c3) (hT:Tps w A1 A2 A3)
  (hg:Good x) :
  Calls Tryz.prog 200 #[.pointer (some ⟨g,0,none⟩),.agg #[.int .i64 x.kind,.string x.text,.int .i64 x.count,.slice A1 n1 c1,.slice A2 n2 c2,.slice A3 n3 c3]] w (Writes w g base v (bs ++ valB x)):=by
 have hok:=good_ok hg
 obtain ⟨k1,k6,-,-,-,-,-,np,ni,ns,tt,ti,tp,tm,cc,cs,-,-,-,-⟩:=hok
 obtain ⟨k0,t0,c0,ps,is_,ss⟩:=x
 simp only at k1 k6 np ni ns tt ti tp tm cc cs hV ⊢
 have hp:=hV.p.len;have hi:=hV.i.len;have hs:=hV.s.len
 simp only [pairRows,strRows,scoreRows,List.length_map] at hp hi hs
 have TI:=hide ti;have TP:=hide tp;have TM:=hide tm;have CS_:=hide cs
 have NP:=hide (fun k (hk:k<ps.length)=>flat_next (f:=pairB) hk)
 have NS:=hide (fun k (hk:k<ss.length)=>flat_next (f:=scoreB) hk)
 obtain ⟨c01,c02⟩:=cc
 clear ti tp tm cs hg
 have X:=Blk.new w 82 #[.int .i64 k0,.string t0,.int .i64 c0,.slice A1 n1 c1,.slice A2 n2 c2,.slice A3 n3 c3]
 have b0:Below w.heap.size w (w.alloc (.cells #[.int .i64 k0,.string t0,.int .i64 c0,.slice A1 n1 c1,.slice A2 n2 c2,.slice A3 n3 c3] 82)):=below_by
 have V:=hV.fr hT (Fr.of b0)
 have T:Tps _ A1 A2 A3:=And.intro (hT.1.bl b0) (And.intro (hT.2.1.bl b0) (hT.2.2.bl b0))
 have Q:=(Wrote.refl w g v).post b0
 replace h:WrT _ g base v bs:=h.alloc (.cells #[.int .i64 k0,.string t0,.int .i64 c0,.slice A1 n1 c1,.slice A2 n2 c2,.slice A3 n3 c3] 82)
 replace hb:base≤(w.alloc (.cells #[.int .i64 k0,.string t0,.int .i64 c0,.slice A1 n1 c1,.slice A2 n2 c2,.slice A3 n3 c3] 82)).heap.size:=by simp;omega
 clear b0 hV hT
 go_enter Tryz.func200,Tryz.ntmps200
 (try clear cX fX);have cX:=X.cell;have fX:=X.frozen
 go_wp2_with fail
 refine (small_any g base _ _ k0 _ h (by omega) hb (by omega) (by omega)).mono ?_
 rintro e w1 ⟨rfl,A_,n_,c_,h_,q_⟩
 replace X:=X.wt h q_
 replace V:=V.fr T (Fr.wt h q_)
 replace T:=And.intro (T.1.wt h q_) (And.intro (T.2.1.wt h q_) (T.2.2.wt h q_))
 replace Q:=Q.trans q_
 replace hb:base≤w1.heap.size:=by have:=q_.size;omega
 obtain ⟨bw1,HBw1⟩:∃ b',Hid (b'=bs ++ ([u8 k0])):=⟨_,hide rfl⟩
 replace h:=WrT.to h_ (show _=bw1 by rw [HBw1.out] <;> simp only [txtB,List.append_assoc])
 clear h_ q_ 
 have hlw1:bw1.length≤bs.length+1:=by rw [HBw1.out];simp [txtB_length,num8_len,strCells_length] <;> omega
 (try clear cX fX);have cX:=X.cell;have fX:=X.frozen
 go_wp2_with fail
 refine (wtext_any g base _ _ t0 _ h (by omega) hb tt).mono ?_
 rintro e w2 ⟨rfl,A_,n_,c_,h_,q_⟩
 replace X:=X.wt h q_
 replace V:=V.fr T (Fr.wt h q_)
 replace T:=And.intro (T.1.wt h q_) (And.intro (T.2.1.wt h q_) (T.2.2.wt h q_))
 replace Q:=Q.trans q_
 replace hb:base≤w2.heap.size:=by have:=q_.size;omega
 obtain ⟨bw2,HBw2⟩:∃ b',Hid (b'=bw1 ++ (txtB t0)):=⟨_,hide rfl⟩
 replace h:=WrT.to h_ (show _=bw2 by rw [HBw2.out] <;> simp only [txtB,List.append_assoc])
 clear h_ q_ 
 have hlw2:bw2.length≤bs.length+22:=by rw [HBw2.out];simp [txtB_length,num8_len,strCells_length] <;> omega
 (try clear cX fX);have cX:=X.cell;have fX:=X.frozen
 go_wp2_with fail
 refine (number_any g base _ _ c0 _ h (by omega) hb c01 c02).mono ?_
 rintro e w3 ⟨rfl,A_,n_,c_,h_,q_⟩
 replace X:=X.wt h q_
 replace V:=V.fr T (Fr.wt h q_)
 replace T:=And.intro (T.1.wt h q_) (And.intro (T.2.1.wt h q_) (T.2.2.wt h q_))
 replace Q:=Q.trans q_
 replace hb:base≤w3.heap.size:=by have:=q_.size;omega
 obtain ⟨bw3,HBw3⟩:∃ b',Hid (b'=bw2 ++ (num8 c0)):=⟨_,hide rfl⟩
 replace h:=WrT.to h_ (show _=bw3 by rw [HBw3.out] <;> simp only [txtB,List.append_assoc])
 clear h_ q_ 
 have hlw3:bw3.length≤bs.length+30:=by rw [HBw3.out];simp [txtB_length,num8_len,strCells_length] <;> omega
 (try clear cX fX);have cX:=X.cell;have fX:=X.frozen
 go_wp2_with fail
 refine (small_any g base _ _ n1 _ h (by omega) hb (by omega) (by omega)).mono ?_
 rintro e w4 ⟨rfl,A_,n_,c_,h_,q_⟩
 replace X:=X.wt h q_
 replace V:=V.fr T (Fr.wt h q_)
 replace T:=And.intro (T.1.wt h q_) (And.intro (T.2.1.wt h q_) (T.2.2.wt h q_))
 replace Q:=Q.trans q_
 replace hb:base≤w4.heap.size:=by have:=q_.size;omega
 obtain ⟨bw4,HBw4⟩:∃ b',Hid (b'=bw3 ++ ([u8 n1])):=⟨_,hide rfl⟩
 replace h:=WrT.to h_ (show _=bw4 by rw [HBw4.out] <;> simp only [txtB,List.append_assoc])
 clear h_ q_ 
 have hlw4:bw4.length≤bs.length+31:=by rw [HBw4.out];simp [txtB_length,num8_len,strCells_length] <;> omega
 (try clear cX fX);have cX:=X.cell;have fX:=X.frozen
 go_wp2_with fail
 clear cX fX
 go_loopw [28] (fun s28 wr=>∃ k:Nat,k≤n1∧s28 = .int .i64 (k:Int)∧∃ v' bs',WrT wr g base v' bs'∧Wrote w wr g v v'∧Blk wr w.heap.size 82 #[.int .i64 k0,.string t0,.int .i64 c0,.slice A1 n1 c1,.slice A2 n2 c2,.slice A3 n3 c3]∧VSl wr ⟨k0,t0,c0,ps,is_,ss⟩ A1 n1 c1 A2 n2 c2 A3 n3 c3∧Tps wr A1 A2 A3∧bs'.length≤bw4.length+42*k∧Hid (bs'=bw4 ++ ((ps.take k).map pairB).flatten)∧base≤wr.heap.size) (fun s28 _=>n1 - (intOf s28).toNat)
 case atStart=>exact ⟨0,by omega,rfl,_,bw4,h,Q,X,V,T,by omega,hide (by simp),hb⟩
 case round=>
  clear h Q X V T hb
  obtain ⟨k,hk,rfl,v',bs',h,Q,X,V,T,hln,HQ,hb⟩:=hrel
  by_cases hlt:k<n1
  ·have hkl:k<ps.length:=by omega
   obtain ⟨b_,off,rfl,hbb,i0,i1⟩:=V.p.seg.pair hkl
   have hm:=TP.out _ (List.getElem_mem hkl)
   have hnx:=NP.out k hkl
   generalize ps[k]=y at *
   obtain ⟨y0,y1⟩:=y
   simp only at i0 i1 hm
   have HNX:=hide hnx
   clear hnx
   have hz1:(0:Int)≤(k:Int):=by omega
   have hz2:(k:Int)<(n1:Int):=by omega
   have U:=Blk.new wr 160 #[.string y0,.string y1]
   have b0:Below wr.heap.size wr (wr.alloc (.cells #[.string y0,.string y1] 160)):=below_by
   replace X:=X.bl b0;replace V:=V.fr T (Fr.of b0);replace T:Tps _ (some ⟨b_,off,none⟩) A2 A3:=And.intro (T.1.bl b0) (And.intro (T.2.1.bl b0) (T.2.2.bl b0))
   replace Q:=Q.post b0
   replace h:WrT _ g base v' bs':=h.alloc (.cells #[.string y0,.string y1] 160)
   replace hb:base≤(wr.alloc (.cells #[.string y0,.string y1] 160)).heap.size:=by simp;omega
   clear b0
   go_wp2_with fail
   refine (wtext_any g base _ _ y0 _ h (by omega) hb (by omega)).mono ?_
   rintro e wap ⟨rfl,A_,n_,c_,h_,q_⟩
   replace X:=X.wt h q_
   replace V:=V.fr T (Fr.wt h q_)
   replace T:=And.intro (T.1.wt h q_) (And.intro (T.2.1.wt h q_) (T.2.2.wt h q_))
   replace U:=U.wt h q_
   replace Q:=Q.trans q_
   replace hb:base≤wap.heap.size:=by have:=q_.size;omega
   obtain ⟨bwap,HBwap⟩:∃ b',Hid (b'=bs' ++ (txtB y0)):=⟨_,hide rfl⟩
   replace h:=WrT.to h_ (show _=bwap by rw [HBwap.out] <;> simp only [txtB,List.append_assoc])
   clear h_ q_ 
   have hlwap:bwap.length≤bs'.length+21:=by rw [HBwap.out];simp [txtB_length,num8_len,strCells_length] <;> omega
   clear i0 i1
   (try clear cU fU);have cU:=U.cell;have fU:=U.frozen
   go_wp2_with fail
   refine (wtext_any g base _ _ y1 _ h (by omega) hb hm.2).mono ?_
   rintro e wbp ⟨rfl,A_,n_,c_,h_,q_⟩
   replace X:=X.wt h q_
   replace V:=V.fr T (Fr.wt h q_)
   replace T:=And.intro (T.1.wt h q_) (And.intro (T.2.1.wt h q_) (T.2.2.wt h q_))
   replace Q:=Q.trans q_
   replace hb:base≤wbp.heap.size:=by have:=q_.size;omega
   obtain ⟨bwbp,HBwbp⟩:∃ b',Hid (b'=bwap ++ (txtB y1)):=⟨_,hide rfl⟩
   replace h:=WrT.to h_ (show _=bwbp by rw [HBwbp.out] <;> simp only [txtB,List.append_assoc])
   clear h_ q_ 
   have hlwbp:bwbp.length≤bs'.length+42:=by rw [HBwbp.out];simp [txtB_length,num8_len,strCells_length] <;> omega
   go_wp2_with fail
   go_roundw
   case rel=>exact ⟨k+1,by omega,by go_num,_,_,h,Q,X,V,T,by omega,hide (by rw [HBwbp.out,HBwap.out,HNX.out,HQ.out];simp [pairB]),hb⟩
   case measure=>simp [intOf];omega
  ·obtain rfl:n1=k:=by omega
   have HQ0:=HQ
   (try clear cX fX);have cX:=X.cell;have fX:=X.frozen
   go_wp2_with fail
   refine (wtexts_any g base _ _ A2 n2 c2 is_ _ h (by omega) hb ⟨V.i,T.2.1⟩ ni TI.out).mono ?_
   rintro e w5 ⟨rfl,A_,n_,c_,h_,q_⟩
   replace X:=X.wt h q_
   replace V:=V.fr T (Fr.wt h q_)
   replace T:=And.intro (T.1.wt h q_) (And.intro (T.2.1.wt h q_) (T.2.2.wt h q_))
   replace Q:=Q.trans q_
   replace hb:base≤w5.heap.size:=by have:=q_.size;omega
   obtain ⟨bw5,HBw5⟩:∃ b',Hid (b'=bs' ++ (txtsB is_)):=⟨_,hide rfl⟩
   replace h:=WrT.to h_ (show _=bw5 by rw [HBw5.out] <;> simp only [txtB,List.append_assoc])
   clear h_ q_ 
   have hlw5:bw5.length≤bw4.length+1300:=by rw [HBw5.out];have:=flat_le (f:=txtB) (b:=21) (l:=is_) (fun s hs=>by rw [txtB_length];have:=TI.out s hs;omega);simp only [txtsB,List.length_append,List.length_singleton];omega
   (try clear cX fX);have cX:=X.cell;have fX:=X.frozen
   go_wp2_with fail
   refine (small_any g base _ _ n3 _ h (by omega) hb (by omega) (by omega)).mono ?_
   rintro e w6 ⟨rfl,A_,n_,c_,h_,q_⟩
   replace X:=X.wt h q_
   replace V:=V.fr T (Fr.wt h q_)
   replace T:=And.intro (T.1.wt h q_) (And.intro (T.2.1.wt h q_) (T.2.2.wt h q_))
   replace Q:=Q.trans q_
   replace hb:base≤w6.heap.size:=by have:=q_.size;omega
   obtain ⟨bw6,HBw6⟩:∃ b',Hid (b'=bw5 ++ ([u8 n3])):=⟨_,hide rfl⟩
   replace h:=WrT.to h_ (show _=bw6 by rw [HBw6.out] <;> simp only [txtB,List.append_assoc])
   clear h_ q_ 
   have hlw6:bw6.length≤bw4.length+1301:=by rw [HBw6.out];simp [txtB_length,num8_len,strCells_length] <;> omega
   (try clear cX fX);have cX:=X.cell;have fX:=X.frozen
   go_wp2_with fail
   clear cX fX
   go_loopw [53] (fun s53 wr=>∃ k:Nat,k≤n3∧s53 = .int .i64 (k:Int)∧∃ v' bs',WrT wr g base v' bs'∧Wrote w wr g v v'∧Blk wr w.heap.size 82 #[.int .i64 k0,.string t0,.int .i64 c0,.slice A1 n1 c1,.slice A2 n2 c2,.slice A3 n3 c3]∧VSl wr ⟨k0,t0,c0,ps,is_,ss⟩ A1 n1 c1 A2 n2 c2 A3 n3 c3∧Tps wr A1 A2 A3∧bs'.length≤bw6.length+29*k∧Hid (bs'=bw6 ++ ((ss.take k).map scoreB).flatten)∧base≤wr.heap.size) (fun s53 _=>n3 - (intOf s53).toNat)
   case atStart=>exact ⟨0,by omega,rfl,_,bw6,h,Q,X,V,T,by omega,hide (by simp),hb⟩
   case round=>
    clear h Q X V T hb
    obtain ⟨k,hk,rfl,v',bs',h,Q,X,V,T,hln,HQ,hb⟩:=hrel
    by_cases hlt:k<n3
    ·have hkl:k<ss.length:=by omega
     obtain ⟨b_,off,rfl,hbb,i0,i1⟩:=V.s.seg.score hkl
     have hm:=TM.out _ (List.getElem_mem hkl)
     have hc:=CS_.out _ (List.getElem_mem hkl)
     have hnx:=NS.out k hkl
     generalize ss[k]=y at *
     obtain ⟨y0,y1⟩:=y
     simp only at i0 i1 hm hc
     have HNX:=hide hnx
     clear hnx
     have hz1:(0:Int)≤(k:Int):=by omega
     have hz2:(k:Int)<(n3:Int):=by omega
     have U:=Blk.new wr 163 #[.string y0,.int .i64 y1]
     have b0:Below wr.heap.size wr (wr.alloc (.cells #[.string y0,.int .i64 y1] 163)):=below_by
     replace X:=X.bl b0;replace V:=V.fr T (Fr.of b0);replace T:Tps _ A1 A2 (some ⟨b_,off,none⟩):=And.intro (T.1.bl b0) (And.intro (T.2.1.bl b0) (T.2.2.bl b0))
     replace Q:=Q.post b0
     replace h:WrT _ g base v' bs':=h.alloc (.cells #[.string y0,.int .i64 y1] 163)
     replace hb:base≤(wr.alloc (.cells #[.string y0,.int .i64 y1] 163)).heap.size:=by simp;omega
     clear b0
     go_wp2_with fail
     refine (wtext_any g base _ _ y0 _ h (by omega) hb hm).mono ?_
     rintro e was ⟨rfl,A_,n_,c_,h_,q_⟩
     replace X:=X.wt h q_
     replace V:=V.fr T (Fr.wt h q_)
     replace T:=And.intro (T.1.wt h q_) (And.intro (T.2.1.wt h q_) (T.2.2.wt h q_))
     replace U:=U.wt h q_
     replace Q:=Q.trans q_
     replace hb:base≤was.heap.size:=by have:=q_.size;omega
     obtain ⟨bwas,HBwas⟩:∃ b',Hid (b'=bs' ++ (txtB y0)):=⟨_,hide rfl⟩
     replace h:=WrT.to h_ (show _=bwas by rw [HBwas.out] <;> simp only [txtB,List.append_assoc])
     clear h_ q_ 
     have hlwas:bwas.length≤bs'.length+21:=by rw [HBwas.out];simp [txtB_length,num8_len,strCells_length] <;> omega
     clear i0 i1
     (try clear cU fU);have cU:=U.cell;have fU:=U.frozen
     go_wp2_with fail
     refine (number_any g base _ _ y1 _ h (by omega) hb hc.1 hc.2).mono ?_
     rintro e wbs ⟨rfl,A_,n_,c_,h_,q_⟩
     replace X:=X.wt h q_
     replace V:=V.fr T (Fr.wt h q_)
     replace T:=And.intro (T.1.wt h q_) (And.intro (T.2.1.wt h q_) (T.2.2.wt h q_))
     replace Q:=Q.trans q_
     replace hb:base≤wbs.heap.size:=by have:=q_.size;omega
     obtain ⟨bwbs,HBwbs⟩:∃ b',Hid (b'=bwas ++ (num8 y1)):=⟨_,hide rfl⟩
     replace h:=WrT.to h_ (show _=bwbs by rw [HBwbs.out] <;> simp only [txtB,List.append_assoc])
     clear h_ q_ 
     have hlwbs:bwbs.length≤bs'.length+29:=by rw [HBwbs.out];simp [txtB_length,num8_len,strCells_length] <;> omega
     go_wp2_with fail
     go_roundw
     case rel=>exact ⟨k+1,by omega,by go_num,_,_,h,Q,X,V,T,by omega,hide (by rw [HBwbs.out,HBwas.out,HNX.out,HQ.out];simp [scoreB]),hb⟩
     case measure=>simp [intOf];omega
    ·obtain rfl:n3=k:=by omega
     go_wp2_with fail
     obtain ⟨A',n',c',rfl⟩:=wrt_slice h
     go_end0
     refine Writes.mk h Q ?_
     rw [HQ.out,List.take_of_length_le (show ss.length≤n3 by omega),HBw6.out,HBw5.out,HQ0.out,List.take_of_length_le (show ps.length≤n1 by omega),HBw4.out,HBw3.out,HBw2.out,HBw1.out]
     simp [valB,hp,hi,hs]
end Go.Proofs.YtgdcofbnbiclmaaGreatDoor

