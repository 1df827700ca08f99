import Derived.Test.YtgdcofbnbiclmaaGreatDoorQWireM
import Derived.Test.YtgdcofbnbiclmaaGreatDoorQCliO
namespace Go.Proofs.YtgdcofbnbiclmaaGreatDoor
set_option linter.all false
set_option maxHeartbeats 32000000
open Go.RowKit
open Go.Lib (strCells strCells_length)
def entB (x:En):List Value:=txtB x.key ++ valB x.val ++ num8 x.till
def cliB (x:Cl):List Value:=num8 x.id ++ num8 x.seq ++ num8 x.time ++ [u8 x.rep.code] ++ txtB x.rep.text ++ num8 x.rep.n ++ txtsB x.rep.list
def encB (m:Mach):List Value:=num8 m.now ++ ([u8 m.ents.length] ++ (m.ents.map entB).flatten) ++ num8 m.next ++ ([u8 m.clis.length] ++ (m.clis.map cliB).flatten)
theorem St.wt {w w':World} {g base n c:Nat} {v v':Value} {bs:List Value} {A:Option Addr} {l:List En} (h:St w A n c l) (W:WrT w g base v bs) (q:Wrote w w' g v v'):St w' A n c l:=by
 obtain ⟨⟨rows,k1,k2⟩,T⟩:=h
 exact ⟨⟨rows,k1.wt T W q,k2.fr (Fr.wt W q)⟩,T.wt W q⟩
theorem Ci.wt {w w':World} {g base n c:Nat} {v v':Value} {bs:List Value} {A:Option Addr} {l:List Cl} (h:Ci w A n c l) (W:WrT w g base v bs) (q:Wrote w w' g v v'):Ci w' A n c l:=by
 obtain ⟨⟨rows,k1,k2⟩,T⟩:=h
 exact ⟨⟨rows,k1.wt T W q,k2.fr (Fr.wt W q)⟩,T.wt W q⟩
theorem txtsB_le {l:List ByteArray} (h:∀ s∈l,s.size≤20) (hn:l.length≤20):(txtsB l).length≤421:=by
 have:=flat_le (f:=txtB) (b:=21) (l:=l) (fun s hs=>by rw [txtB_length];have:=h s hs;omega)
 simp only [txtsB,List.length_append,List.length_singleton];omega
theorem valB_le {x:Va} (h:Good x):(valB x).length≤2100:=by
 obtain ⟨k1,k6,-,-,-,-,-,np,ni,ns,tt,ti,tp,tm,cc,cs,-,-,-,-⟩:=good_ok h
 have h1:=flat_le (f:=pairB) (b:=42) (l:=x.pairs) (fun p hp=>by have:=tp p hp;simp only [pairB,List.length_append,txtB_length];omega)
 have h2:=flat_le (f:=scoreB) (b:=29) (l:=x.scores) (fun p hp=>by have:=tm p hp;simp only [scoreB,List.length_append,txtB_length,num8_len];omega)
 have h3:=txtsB_le ti ni
 simp only [valB,List.length_append,List.length_singleton,txtB_length,num8_len];omega
theorem cliB_le {x:Cl} (h:ReOk x.rep):(cliB x).length≤500:=by
 have h1:=txtsB_le h.each h.few
 have h2:=h.text
 simp only [cliB,List.length_append,List.length_singleton,txtB_length,num8_len];omega
theorem checkM_fine {m:Mach} (hok:MachOk m) (A B:Option Addr) (na ca nb cb:Nat) (w:World) (hE:St w A na ca m.ents) (hC:Ci w B nb cb m.clis) :
  Calls Tryz.prog 56 #[.agg #[.int .i64 m.now,.slice A na ca,.int .i64 m.next,.slice B nb cb]] w fun e w'=>e = .returned (.int .i64 0)∧Below w.heap.size w w':=by
 refine (CheckM_any m A B na ca nb cb w hE.sl hC.sl (by have:=hE.sl.len;have:=hok.sto.few;omega) (by have:=hC.sl.len;have:=hok.few;omega) (fun x hx=>by obtain ⟨a,b,d⟩:=hok.sto.small x hx;exact ⟨by omega,by omega,by omega⟩) (fun x hx=>by have:=rep_to (hok.cli x hx).rep;exact ⟨by have:=this.text;omega,by have:=this.few;omega⟩)).mono ?_
 rintro e w' ⟨rfl,hb⟩
 exact ⟨by rw [ok_mach hok],hb⟩
def EncPost (m:Mach) (w:World) (e:Ending) (w':World):Prop:=
 ∃ A n c,e = .returned (.tuple #[.slice A n c,.int .i64 0])∧w'.ownsRow w.heap.size 5 1 (.slice A n c) (encB m).length (encB m)∧Below w.heap.size w w'
set_option maxRecDepth 100000 in
theorem Encode_any {m:Mach} (hok:MachOk m) (A B:Option Addr) (na ca nb cb:Nat) (w:World) (hE:St w A na ca m.ents) (hC:Ci w B nb cb m.clis) :
  Calls Tryz.prog 173 #[.agg #[.int .i64 m.now,.slice A na ca,.int .i64 m.next,.slice B nb cb]] w (EncPost m w):=by
 have KC:=hide (fun w' (q:Below w.heap.size w w')=>checkM_fine hok A B na ca nb cb w' (hE.bl q) (hC.bl q))
 have hn0:=hok.sto.now0;have hn1:=hok.sto.now1;have hx1:=hok.next1;have hx2:=hok.nextm;have hf1:=hok.sto.few;have hf2:=hok.few
 have KE:=hide (fun x hx=>And.intro (hok.sto.good x hx) (And.intro (hok.sto.keys x hx) (hok.sto.till x hx)))
 have KL:=hide (fun x hx=>And.intro (hok.cli x hx) (rep_to (hok.cli x hx).rep))
 have NE:=hide (fun k (hk:k<m.ents.length)=>flat_next (f:=entB) hk)
 have NC:=hide (fun k (hk:k<m.clis.length)=>flat_next (f:=cliB) hk)
 have hle:=hE.sl.len;have hlc:=hC.sl.len
 clear hok
 obtain ⟨now,ents,next,clis⟩:=m
 simp only at KC hn0 hn1 hx1 hx2 hf1 hf2 KE KL NE NC hle hlc hE hC ⊢
 have X:=Blk.new w 49 #[.int .i64 now,.slice A na ca,.int .i64 next,.slice B nb cb]
 have b0:Below w.heap.size w (w.alloc (.cells #[.int .i64 now,.slice A na ca,.int .i64 next,.slice B nb cb] 49)):=below_by
 have S:=hE.bl b0;have C:=hC.bl b0
 go_enter Tryz.func173,Tryz.ntmps173
 go_wp2_with fail
 refine (KC.out _ b0).mono ?_
 rintro e w1 ⟨rfl,hb1⟩
 replace X:=X.bl hb1;replace S:=S.bl hb1;replace C:=C.bl hb1
 have q1:Below w.heap.size w w1:=bstep b0 hb1
 clear KC hb1 b0 hE hC
 have hg0:w.heap.size≤w1.heap.size:=q1.size
 obtain ⟨g0,hg⟩:∃ g0,g0=w1.heap.size:=⟨_,rfl⟩
 obtain ⟨base,hbs⟩:∃ base,base=w1.heap.size+1:=⟨_,rfl⟩
 obtain ⟨w5,hw5⟩:∃ w5,w5=w1.alloc (.cells #[.slice none 0 0] 279):=⟨_,rfl⟩
 have h:WrT w5 g0 base (.slice none 0 0) []:=by
  rw [hw5,hg,hbs]
  exact ⟨Blk.new _ _ _,World.ownsRow_nil _ _ _ _,by omega⟩
 have cX1:=X.cell
 have hxl:=X.lt
 have b5:Below w1.heap.size w1 w5:=by rw [hw5];exact below_by
 replace X:=X.bl b5;replace S:=S.bl b5;replace C:=C.bl b5
 have q5:=bstep q1 b5
 have hb:base≤w5.heap.size:=by rw [hw5,hbs];simp
 have hgw:w.heap.size≤g0∧w.heap.size≤base:=by omega
 have Q:=Wrote.refl w5 g0 (.slice none 0 0)
 have hl0:([]:List Value).length=0:=rfl
 go_wp2_with fail
 rw [←hw5,←hg]
 clear cX1 hxl hw5 hg hbs
 refine (number_any g0 base _ _ now _ h (by omega) hb (by omega) (by omega)).mono ?_
 rintro e w6 ⟨rfl,A_,n_,c_,h_,q_⟩
 replace X:=X.wt h q_
 replace S:=S.wt h q_
 replace C:=C.wt h q_
 replace Q:=Q.trans q_
 replace hb:base≤w6.heap.size:=by have:=q_.size;omega
 obtain ⟨bw6,HBw6⟩:∃ b',Hid (b'=[] ++ (num8 now)):=⟨_,hide rfl⟩
 replace h:=WrT.to h_ (show _=bw6 by rw [HBw6.out] <;> simp only [txtB,List.append_assoc])
 clear h_ q_ 
 have hlw6:bw6.length≤8:=by rw [HBw6.out];simp [num8_len]
 (try clear cX fX);have cX:=X.cell;have fX:=X.frozen
 go_wp2_with fail
 refine (small_any g0 base _ _ na _ h (by omega) hb (by omega) (by omega)).mono ?_
 rintro e w7 ⟨rfl,A_,n_,c_,h_,q_⟩
 replace X:=X.wt h q_
 replace S:=S.wt h q_
 replace C:=C.wt h q_
 replace Q:=Q.trans q_
 replace hb:base≤w7.heap.size:=by have:=q_.size;omega
 obtain ⟨bw7,HBw7⟩:∃ b',Hid (b'=bw6 ++ ([u8 na])):=⟨_,hide rfl⟩
 replace h:=WrT.to h_ (show _=bw7 by rw [HBw7.out] <;> simp only [txtB,List.append_assoc])
 clear h_ q_ 
 have hlw7:bw7.length≤9:=by rw [HBw7.out];simp <;> omega
 (try clear cX fX);have cX:=X.cell;have fX:=X.frozen
 go_wp2_with fail
 clear cX fX
 go_loopw [32] (fun s32 wr=>∃ k:Nat,k≤na∧s32 = .int .i64 (k:Int)∧∃ v' bs',WrT wr g0 base v' bs'∧Wrote w5 wr g0 (.slice none 0 0) v'∧Blk wr w.heap.size 49 #[.int .i64 now,.slice A na ca,.int .i64 next,.slice B nb cb]∧St wr A na ca ents∧Ci wr B nb cb clis∧bs'.length≤bw7.length+2200*k∧Hid (bs'=bw7 ++ ((ents.take k).map entB).flatten)∧base≤wr.heap.size) (fun s32 _=>na - (intOf s32).toNat)
 case atStart=>exact ⟨0,by omega,rfl,_,bw7,h,Q,X,S,C,by omega,hide (by simp),hb⟩
 case round=>
  clear h Q X S C hb
  obtain ⟨k,hk,rfl,v',bs',h,Q,X,S,C,hln,HQ,hb⟩:=hrel
  by_cases hlt:k<na
  ·have hkl:k<ents.length:=by omega
   obtain ⟨b_,off,E1,f1,g1,E2,f2,g2,E3,f3,g3,rfl,hbb,⟨i0,i1,i2,i3,i4,i5,i6,i7⟩,N,TT⟩:=S.sl.at_ hkl
   obtain ⟨he1,he2,he3⟩:=KE.out _ (List.getElem_mem hkl)
   have hnx:=NE.out k hkl
   generalize ents[k]=y at *
   obtain ⟨y0,⟨k0,t0,c0,ps,is_,ss⟩,tl⟩:=y
   simp only at i0 i1 i2 i3 i7 he1 he2 he3 N
   have HNX:=hide hnx
   clear hnx
   have hz1:(0:Int)≤(k:Int):=by omega
   have hz2:(k:Int)<(na:Int):=by omega
   have U:=Blk.new wr 84 #[.string y0,.int .i64 k0,.string t0,.int .i64 c0,.slice E1 f1 g1,.slice E2 f2 g2,.slice E3 f3 g3,.int .i64 tl]
   have b0:Below wr.heap.size wr (wr.alloc (.cells #[.string y0,.int .i64 k0,.string t0,.int .i64 c0,.slice E1 f1 g1,.slice E2 f2 g2,.slice E3 f3 g3,.int .i64 tl] 84)):=below_by
   replace X:=X.bl b0;replace S:=S.bl b0;replace C:=C.bl b0
   replace Q:=Q.post b0
   replace h:WrT _ g0 base v' bs':=h.alloc (.cells #[.string y0,.int .i64 k0,.string t0,.int .i64 c0,.slice E1 f1 g1,.slice E2 f2 g2,.slice E3 f3 g3,.int .i64 tl] 84)
   replace hb:base≤(wr.alloc (.cells #[.string y0,.int .i64 k0,.string t0,.int .i64 c0,.slice E1 f1 g1,.slice E2 f2 g2,.slice E3 f3 g3,.int .i64 tl] 84)).heap.size:=by simp;omega
   replace N:=N.fr TT (Fr.of b0);replace TT:Tps _ E1 E2 E3:=And.intro (TT.1.bl b0) (And.intro (TT.2.1.bl b0) (TT.2.2.bl b0))
   clear b0
   go_wp2_with fail
   refine (wtext_any g0 base _ _ y0 _ h (by omega) hb (by omega)).mono ?_
   rintro e wa ⟨rfl,A_,n_,c_,h_,q_⟩
   replace X:=X.wt h q_
   replace S:=S.wt h q_
   replace C:=C.wt h q_
   replace U:=U.wt h q_
   replace N:=N.fr TT (Fr.wt h q_)
   replace TT:=And.intro (TT.1.wt h q_) (And.intro (TT.2.1.wt h q_) (TT.2.2.wt h q_))
   replace Q:=Q.trans q_
   replace hb:base≤wa.heap.size:=by have:=q_.size;omega
   obtain ⟨bwa,HBwa⟩:∃ b',Hid (b'=bs' ++ (txtB y0)):=⟨_,hide rfl⟩
   replace h:=WrT.to h_ (show _=bwa by rw [HBwa.out] <;> simp only [txtB,List.append_assoc])
   clear h_ q_ 
   have hlwa:bwa.length≤bs'.length+21:=by rw [HBwa.out];simp [txtB_length,num8_len,strCells_length] <;> omega
   (try clear cU fU);have cU:=U.cell;have fU:=U.frozen
   go_wp2_with fail
   refine (wvalue_any g0 base _ _ ⟨k0,t0,c0,ps,is_,ss⟩ E1 E2 E3 f1 g1 f2 g2 f3 g3 _ h (by omega) hb N TT he1).mono ?_
   rintro e wb ⟨rfl,A_,n_,c_,h_,q_⟩
   replace X:=X.wt h q_
   replace S:=S.wt h q_
   replace C:=C.wt h q_
   replace U:=U.wt h q_
   replace N:=N.fr TT (Fr.wt h q_)
   replace TT:=And.intro (TT.1.wt h q_) (And.intro (TT.2.1.wt h q_) (TT.2.2.wt h q_))
   replace Q:=Q.trans q_
   replace hb:base≤wb.heap.size:=by have:=q_.size;omega
   obtain ⟨bwb,HBwb⟩:∃ b',Hid (b'=bwa ++ (valB ⟨k0,t0,c0,ps,is_,ss⟩)):=⟨_,hide rfl⟩
   replace h:=WrT.to h_ (show _=bwb by rw [HBwb.out] <;> simp only [txtB,List.append_assoc])
   clear h_ q_ 
   have hlwb:bwb.length≤bs'.length+2121:=by rw [HBwb.out];have:=valB_le he1;simp only [List.length_append];omega
   (try clear cU fU);have cU:=U.cell;have fU:=U.frozen
   go_wp2_with fail
   refine (number_any g0 base _ _ tl _ h (by omega) hb (by omega) (by omega)).mono ?_
   rintro e wc ⟨rfl,A_,n_,c_,h_,q_⟩
   replace X:=X.wt h q_
   replace S:=S.wt h q_
   replace C:=C.wt h q_
   replace U:=U.wt h q_
   replace N:=N.fr TT (Fr.wt h q_)
   replace TT:=And.intro (TT.1.wt h q_) (And.intro (TT.2.1.wt h q_) (TT.2.2.wt h q_))
   replace Q:=Q.trans q_
   replace hb:base≤wc.heap.size:=by have:=q_.size;omega
   obtain ⟨bwc,HBwc⟩:∃ b',Hid (b'=bwb ++ (num8 tl)):=⟨_,hide rfl⟩
   replace h:=WrT.to h_ (show _=bwc by rw [HBwc.out] <;> simp only [txtB,List.append_assoc])
   clear h_ q_ 
   have hlwc:bwc.length≤bs'.length+2129:=by rw [HBwc.out];simp [txtB_length,num8_len,strCells_length] <;> omega
   (try clear cU fU);have cU:=U.cell;have fU:=U.frozen
   go_wp2_with fail
   go_roundw
   case rel=>exact ⟨k+1,by omega,by go_num,_,_,h,Q,X,S,C,by omega,hide (by rw [HBwc.out,HBwb.out,HBwa.out,HNX.out,HQ.out];simp [entB]),hb⟩
   case measure=>simp [intOf];omega
  ·obtain rfl:na=k:=by omega
   have HQ0:=HQ
   (try clear cX fX);have cX:=X.cell;have fX:=X.frozen
   go_wp2_with fail
   refine (number_any g0 base _ _ next _ h (by omega) hb (by omega) (by omega)).mono ?_
   rintro e w8 ⟨rfl,A_,n_,c_,h_,q_⟩
   replace X:=X.wt h q_
   replace S:=S.wt h q_
   replace C:=C.wt h q_
   replace Q:=Q.trans q_
   replace hb:base≤w8.heap.size:=by have:=q_.size;omega
   obtain ⟨bw8,HBw8⟩:∃ b',Hid (b'=bs' ++ (num8 next)):=⟨_,hide rfl⟩
   replace h:=WrT.to h_ (show _=bw8 by rw [HBw8.out] <;> simp only [txtB,List.append_assoc])
   clear h_ q_ 
   have hlw8:bw8.length≤bs'.length+8:=by rw [HBw8.out];simp only [List.length_append,num8_len];omega
   (try clear cX fX);have cX:=X.cell;have fX:=X.frozen
   go_wp2_with fail
   refine (small_any g0 base _ _ nb _ h (by omega) hb (by omega) (by omega)).mono ?_
   rintro e w9 ⟨rfl,A_,n_,c_,h_,q_⟩
   replace X:=X.wt h q_
   replace S:=S.wt h q_
   replace C:=C.wt h q_
   replace Q:=Q.trans q_
   replace hb:base≤w9.heap.size:=by have:=q_.size;omega
   obtain ⟨bw9,HBw9⟩:∃ b',Hid (b'=bw8 ++ ([u8 nb])):=⟨_,hide rfl⟩
   replace h:=WrT.to h_ (show _=bw9 by rw [HBw9.out] <;> simp only [txtB,List.append_assoc])
   clear h_ q_ 
   have hlw9:bw9.length≤bs'.length+9:=by rw [HBw9.out];simp only [List.length_append,List.length_singleton];omega
   (try clear cX fX);have cX:=X.cell;have fX:=X.frozen
   go_wp2_with fail
   clear cX fX
   go_loopw [61] (fun s61 wr=>∃ k:Nat,k≤nb∧s61 = .int .i64 (k:Int)∧∃ v' bs',WrT wr g0 base v' bs'∧Wrote w5 wr g0 (.slice none 0 0) v'∧Blk wr w.heap.size 49 #[.int .i64 now,.slice A na ca,.int .i64 next,.slice B nb cb]∧St wr A na ca ents∧Ci wr B nb cb clis∧bs'.length≤bw9.length+500*k∧Hid (bs'=bw9 ++ ((clis.take k).map cliB).flatten)∧base≤wr.heap.size) (fun s61 _=>nb - (intOf s61).toNat)
   case atStart=>exact ⟨0,by omega,rfl,_,bw9,h,Q,X,S,C,by omega,hide (by simp),hb⟩
   case round=>
    clear h Q X S C hb
    obtain ⟨k,hk,rfl,v',bs',h,Q,X,S,C,hln,HQ,hb⟩:=hrel
    by_cases hlt:k<nb
    ·have hkl:k<clis.length:=by omega
     obtain ⟨b_,off,Y,mm,d,rfl,hbb,⟨i0,i1,i2,i3,i4,i5,i6⟩,TY⟩:=C.sl.at_ hkl
     obtain ⟨⟨a1,a2,a3,a4,a5,a6,-⟩,⟨hr1,hr2,hr3,hr4,hr5,hr6,hr7⟩⟩:=KL.out _ (List.getElem_mem hkl)
     have hnx:=NC.out k hkl
     generalize clis[k]=y at *
     obtain ⟨xi,xs,xt,⟨rc,rt,rn,rl⟩⟩:=y
     simp only at i0 i1 i2 i3 i4 i5 TY a1 a2 a3 a4 a5 a6 hr1 hr2 hr3 hr4 hr5 hr6 hr7
     have HR5:=hide hr5
     clear hr5
     have HNX:=hide hnx
     clear hnx
     have hz1:(0:Int)≤(k:Int):=by omega
     have hz2:(k:Int)<(nb:Int):=by omega
     have U:=Blk.new wr 142 #[.int .i64 xi,.int .i64 xs,.int .i64 xt,.int .i64 rc,.string rt,.int .i64 rn,.slice Y mm d]
     have b0:Below wr.heap.size wr (wr.alloc (.cells #[.int .i64 xi,.int .i64 xs,.int .i64 xt,.int .i64 rc,.string rt,.int .i64 rn,.slice Y mm d] 142)):=below_by
     replace X:=X.bl b0;replace S:=S.bl b0;replace C:=C.bl b0
     replace Q:=Q.post b0
     replace h:WrT _ g0 base v' bs':=h.alloc (.cells #[.int .i64 xi,.int .i64 xs,.int .i64 xt,.int .i64 rc,.string rt,.int .i64 rn,.slice Y mm d] 142)
     replace hb:base≤(wr.alloc (.cells #[.int .i64 xi,.int .i64 xs,.int .i64 xt,.int .i64 rc,.string rt,.int .i64 rn,.slice Y mm d] 142)).heap.size:=by simp;omega
     replace TY:=TY.bl b0
     clear b0
     go_wp2_with fail
     refine (number_any g0 base _ _ xi _ h (by omega) hb (by omega) (by omega)).mono ?_
     rintro e wa ⟨rfl,A_,n_,c_,h_,q_⟩
     replace X:=X.wt h q_
     replace S:=S.wt h q_
     replace C:=C.wt h q_
     replace U:=U.wt h q_
     replace TY:=TY.wt h q_
     replace Q:=Q.trans q_
     replace hb:base≤wa.heap.size:=by have:=q_.size;omega
     obtain ⟨bwa,HBwa⟩:∃ b',Hid (b'=bs' ++ (num8 xi)):=⟨_,hide rfl⟩
     replace h:=WrT.to h_ (show _=bwa by rw [HBwa.out] <;> simp only [txtB,List.append_assoc])
     clear h_ q_ 
     have hlwa:bwa.length≤bs'.length+8:=by rw [HBwa.out];simp [txtB_length,num8_len,strCells_length] <;> omega
     (try clear cU fU);have cU:=U.cell;have fU:=U.frozen
     go_wp2_with fail
     refine (number_any g0 base _ _ xs _ h (by omega) hb (by omega) (by omega)).mono ?_
     rintro e wb ⟨rfl,A_,n_,c_,h_,q_⟩
     replace X:=X.wt h q_
     replace S:=S.wt h q_
     replace C:=C.wt h q_
     replace U:=U.wt h q_
     replace TY:=TY.wt h q_
     replace Q:=Q.trans q_
     replace hb:base≤wb.heap.size:=by have:=q_.size;omega
     obtain ⟨bwb,HBwb⟩:∃ b',Hid (b'=bwa ++ (num8 xs)):=⟨_,hide rfl⟩
     replace h:=WrT.to h_ (show _=bwb by rw [HBwb.out] <;> simp only [txtB,List.append_assoc])
     clear h_ q_ 
     have hlwb:bwb.length≤bs'.length+16:=by rw [HBwb.out];simp [txtB_length,num8_len,strCells_length] <;> omega
     (try clear cU fU);have cU:=U.cell;have fU:=U.frozen
     go_wp2_with fail
     refine (number_any g0 base _ _ xt _ h (by omega) hb (by omega) (by omega)).mono ?_
     rintro e wc ⟨rfl,A_,n_,c_,h_,q_⟩
     replace X:=X.wt h q_
     replace S:=S.wt h q_
     replace C:=C.wt h q_
     replace U:=U.wt h q_
     replace TY:=TY.wt h q_
     replace Q:=Q.trans q_
     replace hb:base≤wc.heap.size:=by have:=q_.size;omega
     obtain ⟨bwc,HBwc⟩:∃ b',Hid (b'=bwb ++ (num8 xt)):=⟨_,hide rfl⟩
     replace h:=WrT.to h_ (show _=bwc by rw [HBwc.out] <;> simp only [txtB,List.append_assoc])
     clear h_ q_ 
     have hlwc:bwc.length≤bs'.length+24:=by rw [HBwc.out];simp [txtB_length,num8_len,strCells_length] <;> omega
     (try clear cU fU);have cU:=U.cell;have fU:=U.frozen
     go_wp2_with fail
     refine (small_any g0 base _ _ rc _ h (by omega) hb (by omega) (by omega)).mono ?_
     rintro e wd ⟨rfl,A_,n_,c_,h_,q_⟩
     replace X:=X.wt h q_
     replace S:=S.wt h q_
     replace C:=C.wt h q_
     replace U:=U.wt h q_
     replace TY:=TY.wt h q_
     replace Q:=Q.trans q_
     replace hb:base≤wd.heap.size:=by have:=q_.size;omega
     obtain ⟨bwd,HBwd⟩:∃ b',Hid (b'=bwc ++ ([u8 rc])):=⟨_,hide rfl⟩
     replace h:=WrT.to h_ (show _=bwd by rw [HBwd.out] <;> simp only [txtB,List.append_assoc])
     clear h_ q_ 
     have hlwd:bwd.length≤bs'.length+25:=by rw [HBwd.out];simp [txtB_length,num8_len,strCells_length] <;> omega
     (try clear cU fU);have cU:=U.cell;have fU:=U.frozen
     go_wp2_with fail
     refine (wtext_any g0 base _ _ rt _ h (by omega) hb hr3).mono ?_
     rintro e we ⟨rfl,A_,n_,c_,h_,q_⟩
     replace X:=X.wt h q_
     replace S:=S.wt h q_
     replace C:=C.wt h q_
     replace U:=U.wt h q_
     replace TY:=TY.wt h q_
     replace Q:=Q.trans q_
     replace hb:base≤we.heap.size:=by have:=q_.size;omega
     obtain ⟨bwe,HBwe⟩:∃ b',Hid (b'=bwd ++ (txtB rt)):=⟨_,hide rfl⟩
     replace h:=WrT.to h_ (show _=bwe by rw [HBwe.out] <;> simp only [txtB,List.append_assoc])
     clear h_ q_ 
     have hlwe:bwe.length≤bs'.length+46:=by rw [HBwe.out];simp [txtB_length,num8_len,strCells_length] <;> omega
     (try clear cU fU);have cU:=U.cell;have fU:=U.frozen
     go_wp2_with fail
     refine (number_any g0 base _ _ rn _ h (by omega) hb hr6 hr7).mono ?_
     rintro e wf ⟨rfl,A_,n_,c_,h_,q_⟩
     replace X:=X.wt h q_
     replace S:=S.wt h q_
     replace C:=C.wt h q_
     replace U:=U.wt h q_
     replace TY:=TY.wt h q_
     replace Q:=Q.trans q_
     replace hb:base≤wf.heap.size:=by have:=q_.size;omega
     obtain ⟨bwf,HBwf⟩:∃ b',Hid (b'=bwe ++ (num8 rn)):=⟨_,hide rfl⟩
     replace h:=WrT.to h_ (show _=bwf by rw [HBwf.out] <;> simp only [txtB,List.append_assoc])
     clear h_ q_ 
     have hlwf:bwf.length≤bs'.length+54:=by rw [HBwf.out];simp [txtB_length,num8_len,strCells_length] <;> omega
     (try clear cU fU);have cU:=U.cell;have fU:=U.frozen
     go_wp2_with fail
     refine (wtexts_any g0 base _ _ Y mm d rl _ h (by omega) hb TY hr4 HR5.out).mono ?_
     rintro e wg ⟨rfl,A_,n_,c_,h_,q_⟩
     replace X:=X.wt h q_
     replace S:=S.wt h q_
     replace C:=C.wt h q_
     replace U:=U.wt h q_
     replace TY:=TY.wt h q_
     replace Q:=Q.trans q_
     replace hb:base≤wg.heap.size:=by have:=q_.size;omega
     obtain ⟨bwg,HBwg⟩:∃ b',Hid (b'=bwf ++ (txtsB rl)):=⟨_,hide rfl⟩
     replace h:=WrT.to h_ (show _=bwg by rw [HBwg.out] <;> simp only [txtB,List.append_assoc])
     clear h_ q_ 
     have hlwg:bwg.length≤bs'.length+475:=by rw [HBwg.out];have:=txtsB_le HR5.out hr4;simp only [List.length_append];omega
     (try clear cU fU);have cU:=U.cell;have fU:=U.frozen
     go_wp2_with fail
     go_roundw
     case rel=>exact ⟨k+1,by omega,by go_num,_,_,h,Q,X,S,C,by omega,hide (by rw [HBwg.out,HBwf.out,HBwe.out,HBwd.out,HBwc.out,HBwb.out,HBwa.out,HNX.out,HQ.out];simp [cliB]),hb⟩
     case measure=>simp [intOf];omega
    ·obtain rfl:nb=k:=by omega
     (try clear cX fX);have cX:=X.cell;have fX:=X.frozen
     have hcl:=h.cell
     have hfr:=h.frozen
     have hlt0:=h.lt
     obtain ⟨A',n',c',rfl⟩:=wrt_slice h
     go_wp2_with fail
     go_ret2
     have hbytes:bs'=encB ⟨now,ents,next,clis⟩:=by
      rw [HQ.out,List.take_of_length_le (show clis.length≤nb by omega),HBw9.out,HBw8.out,HQ0.out,List.take_of_length_le (show ents.length≤na by omega),HBw7.out,HBw6.out]
      simp [encB,hle,hlc]
     subst hbytes
     refine ⟨A',n',c',rfl,⟨h.own.1,?_⟩,q5.trans (Q.below (by omega) (fun k hk=>by simp [Value.ownBlock] at hk) q5.size)⟩
     rcases h.own.2 with e|⟨g',cap,cur,e1,e2,e3⟩
     ·exact .inl e
     ·exact .inr ⟨g',cap,cur,e1,by omega,e3⟩
end Go.Proofs.YtgdcofbnbiclmaaGreatDoor

