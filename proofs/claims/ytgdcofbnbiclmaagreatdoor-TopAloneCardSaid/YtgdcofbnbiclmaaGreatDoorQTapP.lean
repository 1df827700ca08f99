import Derived.Test.YtgdcofbnbiclmaaGreatDoorQMacP
import Derived.Test.YtgdcofbnbiclmaaGreatDoorQCliD
namespace Go.Proofs.YtgdcofbnbiclmaaGreatDoor
set_option linter.all false
set_option maxHeartbeats 32000000
open Go.RowKit
open Go.Lib (strCells strCells_length)
inductive RK where
 | mark (t f:Int)
 | line (i:Int) (x:Itm)
 | load (i t:Int) (m:Mach)
def RK.Ok:RK→Prop
 | .mark t f=>numberOk t=true∧-1≤f∧f<3
 | .line i x=>numberOk i=true∧checkItem x=0
 | .load i t m=>numberOk i=true∧numberOk t=true∧MachOk m
def three (n:Int):List Value:=[u8 (n / 65536 % 256),u8 (n / 256 % 256),u8 (n % 256)]
def val3:List Value→Int
 | a :: b :: c :: _=>intv a*65536+intv b*256+intv c
 | _=>0
theorem three_len (n:Int):(three n).length=3:=rfl
theorem val3_three {n:Int} (h0:0≤n) (h1:n<16777216) (r:List Value):val3 (three n ++ r)=n:=by
 show n / 65536 % 256*65536+n / 256 % 256*256+n % 256=n
 omega
theorem number_iff {n:Int}:numberOk n=true ↔ 1≤n∧n≤1048576:=by simp [numberOk]
def RK.bytes:RK→List Value
 | .mark t f=>u8 1 :: (three t ++ [u8 (f+1)])
 | .line i x=>u8 2 :: (three i ++ itemBytes x)
 | .load i t m=>u8 3 :: (three i ++ (three t ++ encB m))
def RK.frame (r:RK):List Value:=three r.bytes.length ++ r.bytes
def tapeB (l:List RK):List Value:=(l.map RK.frame).flatten
def decRec (b:List Value):Option RK:=
 if b.length=5∧headV b=1 then (if (numberOk (val3 (b.drop 1)) && decide (headV (b.drop 4) - 1<3))=true then some (.mark (val3 (b.drop 1)) (headV (b.drop 4) - 1)) else none)
 else if 4<b.length∧headV b=2 then (if (decodeOf (b.drop 4)).2=0∧numberOk (val3 (b.drop 1))=true then some (.line (val3 (b.drop 1)) (decodeOf (b.drop 4)).1) else none)
 else if 7<b.length∧headV b=3 then (if (decM (b.drop 7)).2=0∧numberOk (val3 (b.drop 1))=true∧numberOk (val3 (b.drop 4))=true then some (.load (val3 (b.drop 1)) (val3 (b.drop 4)) (decM (b.drop 7)).1) else none)
 else none
theorem itemBytes_in {x:Itm} (h:checkItem x=0):(itemBytes x).length≤200:=by
 have hf:=item_fits h
 have a:=hf.cmd.key;have b:=hf.cmd.field;have c:=hf.cmd.text
 unfold itemBytes
 split
 ·simp [num8_len]
 ·unfold callBytes
  split
  ·simp only [List.length_append,num8_len,List.length_singleton,cmdBytes,txt,strCells_length];omega
  ·simp [num8_len]
theorem bytes_in {r:RK} (h:r.Ok):5≤r.bytes.length∧r.bytes.length≤12807:=by
 cases r with
 | mark t f=>simp [RK.bytes,three]
 | line i x=>
  have:=itemBytes_in h.2
  have:=itemBytes_pos x
  simp only [RK.bytes,List.length_cons,List.length_append,three_len];omega
 | load i t m=>
  have:=encB_in h.2.2
  have:=encB_pos m
  simp only [RK.bytes,List.length_cons,List.length_append,three_len];omega
theorem frame_len (r:RK):r.frame.length=3+r.bytes.length:=by simp [RK.frame,three_len]
theorem dec_bytes {r:RK} (h:r.Ok):decRec r.bytes=some r:=by
 cases r with
 | mark t f=>
  obtain ⟨h1,h2,h3⟩:=h
  have hn:=number_iff.1 h1
  have e1:headV (RK.mark t f).bytes=1:=rfl
  have e2:val3 ((RK.mark t f).bytes.drop 1)=t:=val3_three (by omega) (by omega) _
  have e3:headV ((RK.mark t f).bytes.drop 4)=f+1:=rfl
  unfold decRec
  rw [if_pos ⟨rfl,e1⟩,e2,e3,show f+1 - 1=f by omega,h1,if_pos (by simp;omega)]
 | line i x=>
  obtain ⟨h1,h2⟩:=h
  have hn:=number_iff.1 h1
  have hp:=itemBytes_pos x
  have e1:headV (RK.line i x).bytes=2:=rfl
  have e2:val3 ((RK.line i x).bytes.drop 1)=i:=val3_three (by omega) (by omega) _
  have e3:(RK.line i x).bytes.drop 4=itemBytes x:=rfl
  have e4:4<(RK.line i x).bytes.length:=by simp only [RK.bytes,List.length_cons,List.length_append,three_len];omega
  unfold decRec
  rw [if_neg (by rw [e1];omega),if_pos ⟨e4,e1⟩,e2,e3,decode_back h2,if_pos ⟨rfl,h1⟩]
 | load i t m=>
  obtain ⟨h1,h2,h3⟩:=h
  have hn:=number_iff.1 h1
  have hm:=number_iff.1 h2
  have hp:=encB_pos m
  have e1:headV (RK.load i t m).bytes=3:=rfl
  have e2:val3 ((RK.load i t m).bytes.drop 1)=i:=val3_three (by omega) (by omega) _
  have e3:val3 ((RK.load i t m).bytes.drop 4)=t:=val3_three (by omega) (by omega) _
  have e5:(RK.load i t m).bytes.drop 7=encB m:=rfl
  have e4:7<(RK.load i t m).bytes.length:=by simp only [RK.bytes,List.length_cons,List.length_append,three_len];omega
  unfold decRec
  rw [if_neg (by rw [e1];omega),if_neg (by rw [e1];omega),if_pos ⟨e4,e1⟩,e2,e3,e5,decM_back h3,if_pos ⟨rfl,h1,h2⟩]
def recov:Nat→List Value→List RK×Nat
 | 0,_=>([],0)
 | k+1,l=>
  if l.length<3∨l.length<3+(val3 l).toNat then ([],0)
  else match decRec ((l.drop 3).take (val3 l).toNat) with
   | none=>([],0)
   | some r=>(r :: (recov k (l.drop (3+(val3 l).toNat))).1,3+(val3 l).toNat+(recov k (l.drop (3+(val3 l).toNat))).2)
def wholes:List RK→Nat→Nat
 | [],_=>0
 | r :: l,k=>if r.frame.length≤k then wholes l (k - r.frame.length)+1 else 0
theorem wholes_le:∀ (l:List RK) (k:Nat),wholes l k≤l.length
 | [],_=>Nat.le_refl _
 | r :: l,k=>by
  unfold wholes
  split
  ·have:=wholes_le l (k - r.frame.length);simp;omega
  ·simp
theorem tapeB_cons (r:RK) (l:List RK):tapeB (r :: l)=r.frame ++ tapeB l:=rfl
theorem tapeB_app (l l':List RK):tapeB (l ++ l')=tapeB l ++ tapeB l':=by simp [tapeB]
theorem wholes_in:∀ (l:List RK) (k:Nat),(tapeB (l.take (wholes l k))).length≤k
 | [],k=>by simp [wholes,tapeB]
 | r :: l,k=>by
  unfold wholes
  split
  ·rename_i h
   rw [List.take_succ_cons,tapeB_cons,List.length_append]
   have:=wholes_in l (k - r.frame.length)
   omega
  ·simp [tapeB]
theorem tape_take (l:List RK) (j:Nat):(tapeB l).take (tapeB (l.take j)).length=tapeB (l.take j):=by
 conv=>lhs;arg 2;rw [←List.take_append_drop j l]
 rw [tapeB_app];simp
theorem recov_take:∀ (l:List RK) (k fuel:Nat),(∀ r∈l,r.Ok)→l.length<fuel→k≤(tapeB l).length→recov fuel ((tapeB l).take k)=(l.take (wholes l k),(tapeB (l.take (wholes l k))).length)
 | _,_,0,_,hf,_=>by omega
 | [],k,fuel+1,_,_,hk=>by
  simp [recov,wholes,tapeB]
 | r :: l,k,fuel+1,ho,hf,hk=>by
  have hr:=ho r (by simp)
  have hb:=bytes_in hr
  have hfl:=frame_len r
  rw [tapeB_cons,List.length_append] at hk
  by_cases h3:k<3
  ·unfold recov wholes
   rw [if_pos (by left;rw [List.length_take];omega),if_neg (by omega)]
   simp [tapeB]
  ·have hl:((tapeB (r :: l)).take k).length=k:=by rw [List.length_take,tapeB_cons,List.length_append];omega
   have e:(tapeB (r :: l)).take k=three r.bytes.length ++ ((r.bytes ++ tapeB l).take (k - 3)):=by
    rw [tapeB_cons,RK.frame,List.append_assoc,List.take_append,three_len,List.take_of_length_le (by rw [three_len];omega)]
   have hv:val3 ((tapeB (r :: l)).take k)=(r.bytes.length:Int):=by
    rw [e]
    exact val3_three (by omega) (by omega) _
   by_cases hlt:r.frame.length≤k
   ·have hd:(((tapeB (r :: l)).take k).drop 3).take r.bytes.length=r.bytes:=by
     rw [e,List.drop_left' (three_len _),List.take_take,Nat.min_eq_left (by omega),List.take_left' rfl]
    have hd2:((tapeB (r :: l)).take k).drop (3+r.bytes.length)=(tapeB l).take (k - r.frame.length):=by
     rw [←hfl,tapeB_cons,List.take_append,List.take_of_length_le hlt,List.drop_append,List.drop_of_length_le (Nat.le_refl _),Nat.sub_self]
     simp
    have ih:=recov_take l (k - r.frame.length) fuel (fun x hx=>ho x (by simp [hx])) (by simp at hf;omega) (by omega)
    unfold recov wholes
    rw [hl,hv,Int.toNat_natCast,if_neg (by omega),if_pos hlt,hd,dec_bytes hr]
    simp only
    rw [hd2,ih,List.take_succ_cons,tapeB_cons,List.length_append,hfl]
   ·unfold recov wholes
    rw [hl,hv,Int.toNat_natCast,if_pos (by right;omega),if_neg hlt]
    simp [tapeB]
theorem recov_fuel:∀ (k k':Nat) (l:List Value),l.length<k→l.length<k'→recov k l=recov k' l
 | 0,_,_,h,_=>by omega
 | _+1,0,_,_,h=>by omega
 | k+1,k'+1,l,h1,h2=>by
  unfold recov
  split
  ·rfl
  ·rename_i hh
   have ih:=recov_fuel k k' (l.drop (3+(val3 l).toNat)) (by rw [List.length_drop];omega) (by rw [List.length_drop];omega)
   rw [ih]
def recA (l:List Value):List RK×Nat:=recov (l.length+1) l
theorem recA_of {k:Nat} {l:List Value} (h:l.length<k):recov k l=recA l:=recov_fuel _ _ _ h (by omega)
theorem recA_short {l:List Value} (h:l.length<3∨l.length<3+(val3 l).toNat):recA l=([],0):=by
 unfold recA recov;rw [if_pos h]
theorem recA_none {l:List Value} (h:¬ (l.length<3∨l.length<3+(val3 l).toNat)) (hd:decRec ((l.drop 3).take (val3 l).toNat)=none):recA l=([],0):=by
 unfold recA recov;rw [if_neg h,hd]
theorem recA_some {l:List Value} {r:RK} (h:¬ (l.length<3∨l.length<3+(val3 l).toNat)) (hd:decRec ((l.drop 3).take (val3 l).toNat)=some r) :
  recA l=(r :: (recA (l.drop (3+(val3 l).toNat))).1,3+(val3 l).toNat+(recA (l.drop (3+(val3 l).toNat))).2):=by
 rw [←recA_of (k:=l.length) (l:=l.drop (3+(val3 l).toNat)) (by rw [List.length_drop];omega)]
 conv=>lhs;unfold recA recov
 rw [if_neg h,hd]
theorem recA_take {l:List RK} {k:Nat} (h:∀ r∈l,r.Ok) (hk:k≤(tapeB l).length):recA ((tapeB l).take k)=(l.take (wholes l k),(tapeB (l.take (wholes l k))).length):=by
 have:=recov_take l k (((tapeB l).take k).length+l.length+1) h (by omega) hk
 rw [←this]
 exact (recA_of (by omega)).symm
def Scan (l:List Value) (done:List RK) (at_:Nat):Prop:=recA l=(done ++ (recA (l.drop at_)).1,at_+(recA (l.drop at_)).2)
theorem scan_start (l:List Value):Scan l [] 0:=by unfold Scan;simp
theorem scan_step {l:List Value} {done:List RK} {a:Nat} {r:RK} (h:Scan l done a) (h1:¬ ((l.drop a).length<3∨(l.drop a).length<3+(val3 (l.drop a)).toNat))
  (hd:decRec (((l.drop a).drop 3).take (val3 (l.drop a)).toNat)=some r):Scan l (done ++ [r]) (a+(3+(val3 (l.drop a)).toNat)):=by
 unfold Scan at h ⊢
 rw [h,recA_some h1 hd,List.drop_drop]
 simp only [List.append_assoc,List.singleton_append,Nat.add_assoc]
theorem scan_short {l:List Value} {done:List RK} {a:Nat} (h:Scan l done a) (h1:(l.drop a).length<3∨(l.drop a).length<3+(val3 (l.drop a)).toNat):recA l=(done,a):=by
 unfold Scan at h;rw [h,recA_short h1];simp
theorem scan_none {l:List Value} {done:List RK} {a:Nat} (h:Scan l done a) (h1:¬ ((l.drop a).length<3∨(l.drop a).length<3+(val3 (l.drop a)).toNat))
  (hd:decRec (((l.drop a).drop 3).take (val3 (l.drop a)).toNat)=none):recA l=(done,a):=by
 unfold Scan at h;rw [h,recA_none h1 hd];simp
theorem val3_bd {l:List Value} (hu:U8s l):0≤val3 l∧val3 l<16777216:=by
 match l,hu with
 | [],_=>simp [val3]
 | [_],_=>simp [val3]
 | [_,_],_=>simp [val3]
 | a :: b :: c :: l,hu=>
  obtain ⟨x,rfl,x0,x1⟩:=hu a (by simp)
  obtain ⟨y,rfl,y0,y1⟩:=hu b (by simp)
  obtain ⟨z,rfl,z0,z1⟩:=hu c (by simp)
  simp only [val3,intv]
  omega
theorem decodeOf_long {l:List Value} (hu:U8s l) (h:20000<l.length):(decodeOf l).2≠0:=by
 intro h0
 obtain ⟨h1,h2⟩:=decode_fix hu h0
 have:=itemBytes_in h1
 rw [h2] at this
 omega
theorem tapeB_take_le (l:List RK) (j:Nat):(tapeB (l.take j)).length≤(tapeB l).length:=by
 conv=>rhs;rw [←List.take_append_drop j l,tapeB_app,List.length_append]
 omega
end Go.Proofs.YtgdcofbnbiclmaaGreatDoor

