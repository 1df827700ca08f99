import Derived.Test.YtgdcofbnbiclmaaGreatDoorQWire
import Derived.Test.YtgdcofbnbiclmaaGreatDoorQLed
import Derived.Laws.BytesString
import Derived.Test.YtgdcofbnbiclmaaGreatDoorQOwn
import Derived.Laws.Bits64b
namespace Go.Proofs.YtgdcofbnbiclmaaGreatDoor
set_option linter.all false
set_option maxHeartbeats 32000000
open Go.RowKit Go.Lib
def txt (s:ByteArray):List Value:=[u8 s.size] ++ strCells s
def cmdBytes (c:Cmd):List Value:=[u8 c.kind] ++ txt c.key ++ txt c.field ++ txt c.text ++ num8 c.n
def callBytes (client seq:Int) (c:Cmd):List Value:=num8 client ++ (if 0<client then num8 seq ++ cmdBytes c else [])
def itemBytes (x:Itm):List Value:=num8 x.term ++ num8 x.time ++ (if x.nop=true then [u8 1] else [u8 0] ++ callBytes x.client x.seq x.cmd)
theorem num8_length (n:Int):(num8 n).length=8:=rfl
theorem txt_length (s:ByteArray):(txt s).length=1+s.size:=by simp [txt,strCells_length];omega
structure CmdFits (c:Cmd):Prop where
 k0:0≤c.kind
 k1:c.kind<256
 key:c.key.size≤20
 field:c.field.size≤20
 text:c.text.size≤20
 n0 : -1099511627776≤c.n
 n1:c.n≤1099511627776
theorem command_any (g base:Nat) (v:Value) (bs:List Value) (c:Cmd) (w:World) (h:WrT w g base v bs) (hl:bs.length≤900000) (hb:base≤w.heap.size) (hc:CmdFits c) :
  Calls Tryz.prog 251 #[.pointer (some ⟨g,0,none⟩),.agg #[.int .i64 c.kind,.string c.key,.string c.field,.string c.text,.int .i64 c.n]] w (Writes w g base v (bs ++ cmdBytes c)):=by
 obtain ⟨kind,key,field,text,n⟩:=c
 obtain ⟨k0,k1,hkey,hfield,htext,n0,n1⟩:=hc
 simp only at k0 k1 hkey hfield htext n0 n1
 have HL:=fun (s:ByteArray)=>(txt_length s)
 have hB:bs ++ cmdBytes ⟨kind,key,field,text,n⟩=bs ++ [u8 kind] ++ [u8 key.size] ++ strCells key ++ [u8 field.size] ++ strCells field ++ [u8 text.size] ++ strCells text ++ num8 n:=by simp [cmdBytes,txt,List.append_assoc]
 rw [hB]
 have l1:(bs ++ [u8 kind]).length≤900001:=by simp;omega
 have l2:(bs ++ [u8 kind] ++ [u8 key.size] ++ strCells key).length≤900030:=by simp [strCells_length];omega
 have l3:(bs ++ [u8 kind] ++ [u8 key.size] ++ strCells key ++ [u8 field.size] ++ strCells field).length≤900060:=by simp [strCells_length];omega
 have l4:(bs ++ [u8 kind] ++ [u8 key.size] ++ strCells key ++ [u8 field.size] ++ strCells field ++ [u8 text.size] ++ strCells text).length≤900090:=by simp [strCells_length];omega
 clear hB HL
 have b0:=Box.new h 36 #[.int .i64 kind,.string key,.string field,.string text,.int .i64 n]
 have h0:=h.alloc (.cells #[.int .i64 kind,.string key,.string field,.string text,.int .i64 n] 36)
 have q0:Below w.heap.size w (w.alloc (.cells #[.int .i64 kind,.string key,.string field,.string text,.int .i64 n] 36)):=below_by
 go_enter Tryz.func251,Tryz.ntmps251
 go_wp2_with fail
 refine (small_any g base _ _ kind _ h0 (by omega) (by simp;omega) k0 k1).mono ?_
 rintro e w1 ⟨rfl,A1,m1,c1,h1,p1⟩
 have b1:=b0.wr p1
 have x1:=b1.cell
 have hz1:base≤w1.heap.size:=by have:=p1.size;simp at this;omega
 go_wp2_with fail
 refine (wtext_any g base _ _ key _ h1 (by omega) hz1 hkey).mono ?_
 rintro e w2 ⟨rfl,A2,m2,c2,h2,p2⟩
 have b2:=b1.wr p2
 have x2:=b2.cell
 clear x1
 have hz2:base≤w2.heap.size:=by have:=p2.size;omega
 go_wp2_with fail
 refine (wtext_any g base _ _ field _ h2 (by omega) hz2 hfield).mono ?_
 rintro e w3 ⟨rfl,A3,m3,c3,h3,p3⟩
 have b3:=b2.wr p3
 have x3:=b3.cell
 clear x2
 have hz3:base≤w3.heap.size:=by have:=p3.size;omega
 go_wp2_with fail
 refine (wtext_any g base _ _ text _ h3 (by omega) hz3 htext).mono ?_
 rintro e w4 ⟨rfl,A4,m4,c4,h4,p4⟩
 have b4:=b3.wr p4
 have x4:=b4.cell
 clear x3
 have hz4:base≤w4.heap.size:=by have:=p4.size;omega
 go_wp2_with fail
 refine (number_any g base _ _ n _ h4 (by omega) hz4 n0 n1).mono ?_
 rintro e w5 ⟨rfl,A5,m5,c5,h5,p5⟩
 go_wp2_with fail
 go_end0
 exact Writes.mk h5 (Wrote.pre q0 ((((p1.trans p2).trans p3).trans p4).trans p5)) rfl
theorem checkCommand_fits {k:Int} {key field text:ByteArray} {n:Int} (h:checkCommand k key field text n=0):1≤k∧k≤22∧key.size≤20∧field.size≤20∧text.size≤20∧-1099511627776≤n∧n≤1099511627776:=by
 unfold checkCommand at h
 split at h
 ·cases h
 rename_i hk
 split at h
 ·cases h
 rename_i hb
 split at h
 ·cases h
 rename_i hs
 split at h
 ·cases h
 rename_i hn
 have hz:∀ {s:ByteArray},(s.toList == [])=true→s.size=0:=by
  intro s h
  have:=congrArg List.length (eq_of_beq h)
  simpa [ByteArray.toList_eq] using this
 simp only [bare,Bool.not_eq_false,Bool.and_eq_true,Bool.or_eq_true] at hb
 obtain ⟨⟨⟨hb1,hb2⟩,hb3⟩,hb4⟩:=hb
 simp only [not_or,not_and,Bool.not_eq_false] at hs
 obtain ⟨hs1,hs2,hs3⟩:=hs
 simp only [countOk,Bool.not_eq_false,Bool.and_eq_true,decide_eq_true_eq] at hn
 simp only [textOk,decide_eq_true_eq] at hs3
 refine ⟨by omega,by omega,?_,?_,hs3,hn.1,hn.2⟩
 ·rcases hb1 with h1|h1
  ·have:=hs1 h1
   simp only [fieldOk,Bool.and_eq_true,decide_eq_true_eq] at this
   omega
  ·rw [hz h1];omega
 ·rcases hb2 with h1|h1
  ·have:=hs2 h1
   simp only [fieldOk,Bool.and_eq_true,decide_eq_true_eq] at this
   omega
  ·rw [hz h1];omega
theorem flatten_singles (l:List Value):(l.map fun b=>[b]).flatten=l:=by
 induction l with
 | nil=>rfl
 | cons x l ih=>simp [ih]
def byteRows (l:List Value):List (List Value):=l.map fun b=>[b]
theorem Own.of_row {w:World} {base base':Nat} {e:TypeId} {v:Value} {bs:List Value} (h:w.ownsRow base e 1 v bs.length bs) (hb:base'≤base):Own w base' e 1 v (byteRows bs):=by
 have h2:Own w base e 1 v (byteRows bs):=⟨by unfold byteRows;rw [flatten_singles,List.length_map];exact h,by intro r hr;obtain ⟨x,_,rfl⟩:=List.mem_map.1 hr;rfl⟩
 exact h2.mono hb
theorem byteRows_length (l:List Value):(byteRows l).length=l.length:=by simp [byteRows]
structure ItemFits (x:Itm):Prop where
 cmd:CmdFits x.cmd
 t1:1≤x.term
 t2:x.term≤1048576
 i1:0≤x.time
 i2:x.time≤1073741824
 a1:0≤x.client
 a2:x.client≤1048576
 s1:0≤x.seq
 s2:x.seq≤1048576
theorem zeroCall_is {seq kind:Int} {key field text:ByteArray} {n:Int} (h:zeroCall seq kind key field text n=true):seq=0∧kind=0∧key.size=0∧field.size=0∧text.size=0∧n=0:=by
 simp only [zeroCall,Bool.and_eq_true,beq_iff_eq] at h
 obtain ⟨⟨⟨⟨⟨h1,h2⟩,h3⟩,h4⟩,h5⟩,h6⟩:=h
 have hs:∀ {s:ByteArray},s.toList=[]→s.size=0:=by
  intro s h
  have:=congrArg List.length h
  simpa [ByteArray.toList_eq] using this
 exact ⟨h1,h2,hs h3,hs h4,hs h5,h6⟩
theorem item_fits {x:Itm} (h:checkItem x=0):ItemFits x:=by
 have h1:=checkItem_ok h
 unfold checkItem at h
 rw [if_neg (by omega)] at h
 have key:(x.client=0∧zeroCall x.seq x.cmd.kind x.cmd.key x.cmd.field x.cmd.text x.cmd.n=true)∨(1≤x.client∧x.client≤1048576∧1≤x.seq∧x.seq≤1048576∧checkCommand x.cmd.kind x.cmd.key x.cmd.field x.cmd.text x.cmd.n=0):=by
  split at h
  ·split at h
   ·rename_i hz
    simp only [Itm.zero,Bool.and_eq_true,beq_iff_eq] at hz
    exact .inl hz
   ·cases h
  ·unfold checkCall at h
   split at h
   ·rename_i hc
    split at h
    ·rename_i hz
     exact .inl ⟨by simpa using hc,hz⟩
    ·cases h
   ·split at h
    ·cases h
    ·rename_i hn
     simp only [not_or,Bool.not_eq_false,numberOk,Bool.and_eq_true,decide_eq_true_eq] at hn
     exact .inr ⟨hn.1.1,hn.1.2,hn.2.1,hn.2.2,h⟩
 rcases key with ⟨hc,hz⟩|⟨c1,c2,s1,s2,hc⟩
 ·obtain ⟨z1,z2,z3,z4,z5,z6⟩:=zeroCall_is hz
  exact ⟨⟨by omega,by omega,by omega,by omega,by omega,by omega,by omega⟩,by omega,by omega,by omega,by omega,by omega,by omega,by omega,by omega⟩
 ·obtain ⟨z1,z2,z3,z4,z5,z6,z7⟩:=checkCommand_fits hc
  exact ⟨⟨by omega,by omega,z3,z4,z5,z6,z7⟩,by omega,by omega,by omega,by omega,by omega,by omega,by omega,by omega⟩
def intv:Value→Int
 | .int _ n=>n
 | _=>0
def U8s (l:List Value):Prop:=∀ u∈l,∃ n:Int,u = .int .u8 n∧0≤n∧n<256
def strOf (l:List Value):ByteArray:=⟨(l.map fun v=>UInt8.ofNat (intv v).toNat).toArray⟩
abbrev RS:=List Value×Bool
def takeR (n:Int) (st:RS):List Value×RS:=if st.2=true∨(st.1.length:Int)<n then ([],(st.1,true)) else (st.1.take n.toNat,(st.1.drop n.toNat,false))
def beR (l:List Value):Int:=l.foldl (fun u c=>(u*256+intv c) % 18446744073709551616) 0
def numOf (b:List Value):Int:=IntKind.i64.wrap (IntKind.u64.wrap (beR b - 4611686018427387904))
def numR (st:RS):Int×RS:=(numOf (takeR 8 st).1,(takeR 8 st).2)
def headV (b:List Value):Int:=match b with|c :: _=>intv c | []=>0
def smallR (st:RS):Int×RS:=(headV (takeR 1 st).1,(takeR 1 st).2)
def textRd (st:RS):ByteArray×RS:=(strOf (takeR (smallR st).1 (smallR st).2).1,(takeR (smallR st).1 (smallR st).2).2)
def cmdRd (st:RS):Cmd×RS:=
 ({ kind:=(smallR st).1,key:=(textRd (smallR st).2).1,field:=(textRd (textRd (smallR st).2).2).1,text:=(textRd (textRd (textRd (smallR st).2).2).2).1,n:=(numR (textRd (textRd (textRd (smallR st).2).2).2).2).1 },
  (numR (textRd (textRd (textRd (smallR st).2).2).2).2).2)
structure CallD where
 client:Int
 seq:Int
 cmd:Cmd
def callRd (st:RS):CallD×RS:=
 if (numR st).1=0 then (⟨0,0,zeroCmd⟩,(numR st).2)
 else (⟨(numR st).1,(numR (numR st).2).1,(cmdRd (numR (numR st).2).2).1⟩,(cmdRd (numR (numR st).2).2).2)
def itemRd (st:RS):(Itm×Bool)×RS:=
 if (smallR (numR (numR st).2).2).1=0 then
  ((⟨(numR st).1,(numR (numR st).2).1,false,(callRd (smallR (numR (numR st).2).2).2).1.client,(callRd (smallR (numR (numR st).2).2).2).1.seq,(callRd (smallR (numR (numR st).2).2).2).1.cmd⟩,true),(callRd (smallR (numR (numR st).2).2).2).2)
 else if (smallR (numR (numR st).2).2).1=1 then ((⟨(numR st).1,(numR (numR st).2).1,true,0,0,zeroCmd⟩,true),(smallR (numR (numR st).2).2).2)
 else ((⟨(numR st).1,(numR (numR st).2).1,false,0,0,zeroCmd⟩,false),(smallR (numR (numR st).2).2).2)

theorem takeR_app (a r:List Value) {n:Int} (hn:n=a.length):takeR n (a ++ r,false)=(a,(r,false)):=by
 subst hn
 unfold takeR
 rw [if_neg (by simp;omega)]
 simp
theorem be_num8 (n:Int) (h1 : -1099511627776≤n) (h2:n≤1099511627776):beR (num8 n)=n+4611686018427387904:=by
 have e:∃ m,m=n+4611686018427387904:=⟨_,rfl⟩
 obtain ⟨m,hm⟩:=e
 unfold num8
 rw [←hm]
 have m0:0≤m:=by omega
 have m1:m<18446744073709551616:=by omega
 simp only [beR,u8,intv,List.foldl_cons,List.foldl_nil]
 have s1:(0*256+m / 72057594037927936 % 256) % 18446744073709551616=m / 72057594037927936:=by omega
 rw [s1]
 have s2:(m / 72057594037927936*256+m / 281474976710656 % 256) % 18446744073709551616=m / 281474976710656:=by omega
 rw [s2]
 have s3:(m / 281474976710656*256+m / 1099511627776 % 256) % 18446744073709551616=m / 1099511627776:=by omega
 rw [s3]
 have s4:(m / 1099511627776*256+m / 4294967296 % 256) % 18446744073709551616=m / 4294967296:=by omega
 rw [s4]
 have s5:(m / 4294967296*256+m / 16777216 % 256) % 18446744073709551616=m / 16777216:=by omega
 rw [s5]
 have s6:(m / 16777216*256+m / 65536 % 256) % 18446744073709551616=m / 65536:=by omega
 rw [s6]
 have s7:(m / 65536*256+m / 256 % 256) % 18446744073709551616=m / 256:=by omega
 rw [s7]
 omega
theorem numOf_num8 (n:Int) (h1 : -1099511627776≤n) (h2:n≤1099511627776):numOf (num8 n)=n:=by
 unfold numOf
 rw [be_num8 n h1 h2,show n+4611686018427387904 - 4611686018427387904=n by omega]
 simp only [IntKind.wrap,IntKind.signed,IntKind.bits]
 simp
 omega
theorem numR_num8 (n:Int) (r:List Value) (h1 : -1099511627776≤n) (h2:n≤1099511627776):numR (num8 n ++ r,false)=(n,(r,false)):=by
 unfold numR
 rw [takeR_app (n:=8) (num8 n) r rfl,numOf_num8 n h1 h2]
theorem smallR_u8 (n:Int) (r:List Value):smallR (u8 n :: r,false)=(n,(r,false)):=by
 unfold smallR
 rw [show (u8 n :: r)=[u8 n] ++ r from rfl,takeR_app (n:=1) [u8 n] r rfl]
 rfl
theorem strOf_cells (s:ByteArray):strOf (strCells s)=s:=by
 unfold strOf strCells
 rw [List.map_map]
 obtain ⟨⟨l⟩⟩:=s
 congr 2
 simp only
 conv=>rhs;rw [←List.map_id l]
 apply List.map_congr_left
 intro b _
 simp [intv]
theorem textRd_txt (s:ByteArray) (r:List Value):textRd (txt s ++ r,false)=(s,(r,false)):=by
 unfold textRd txt
 rw [show [u8 (s.size:Int)] ++ strCells s ++ r=u8 s.size :: (strCells s ++ r) by simp,smallR_u8]
 simp only
 rw [takeR_app (strCells s) r (by rw [strCells_length]),strOf_cells]
theorem cmdRd_bytes {c:Cmd} (h:CmdFits c) (r:List Value):cmdRd (cmdBytes c ++ r,false)=(c,(r,false)):=by
 unfold cmdRd cmdBytes
 rw [show [u8 c.kind] ++ txt c.key ++ txt c.field ++ txt c.text ++ num8 c.n ++ r=u8 c.kind :: (txt c.key ++ (txt c.field ++ (txt c.text ++ (num8 c.n ++ r)))) by simp]
 simp only [smallR_u8,textRd_txt,numR_num8 _ _ h.n0 h.n1]
theorem emp_of {s:ByteArray} (h:s.size=0):s=emp:=by
 obtain ⟨⟨l⟩⟩:=s
 have:l.length=0:=h
 obtain rfl:=List.eq_nil_of_length_eq_zero this
 rfl
theorem zero_item {x:Itm} (h:checkItem x=0):(x.nop=true→x.client=0)∧(x.client=0→x.seq=0∧x.cmd=zeroCmd):=by
 have h1:=checkItem_ok h
 unfold checkItem at h
 rw [if_neg (by omega)] at h
 have zz:zeroCall x.seq x.cmd.kind x.cmd.key x.cmd.field x.cmd.text x.cmd.n=true→x.seq=0∧x.cmd=zeroCmd:=by
  intro hz
  obtain ⟨z1,z2,z3,z4,z5,z6⟩:=zeroCall_is hz
  refine ⟨z1,?_⟩
  obtain ⟨_,_,_,_,_,⟨k,ky,f,tx,n⟩⟩:=x
  simp only at z2 z3 z4 z5 z6
  rw [z2,emp_of z3,emp_of z4,emp_of z5,z6];rfl
 split at h
 ·split at h
  ·rename_i hz
   simp only [Itm.zero,Bool.and_eq_true,beq_iff_eq] at hz
   exact ⟨fun _=>hz.1,fun _=>zz hz.2⟩
  ·cases h
 ·rename_i hn
  refine ⟨fun h=>absurd h hn,fun hc=>?_⟩
  unfold checkCall at h
  rw [if_pos (by simp [hc])] at h
  split at h
  ·rename_i hz;exact zz hz
  ·cases h
theorem itemRd_bytes {x:Itm} (h:checkItem x=0) (r:List Value):itemRd (itemBytes x ++ r,false)=((x,true),(r,false)):=by
 have hf:=item_fits h
 have hz:=zero_item h
 have t1:=hf.t1;have t2:=hf.t2;have i1:=hf.i1;have i2:=hf.i2;have a1:=hf.a1;have a2:=hf.a2;have s1:=hf.s1;have s2:=hf.s2
 obtain ⟨term,time,nop,client,seq,c⟩:=x
 simp only at t1 t2 i1 i2 a1 a2 s1 s2 hz
 have e1:=fun r=>numR_num8 term r (by omega) (by omega)
 have e2:=fun r=>numR_num8 time r (by omega) (by omega)
 have e3:=fun r=>numR_num8 client r (by omega) (by omega)
 have e4:=fun r=>numR_num8 seq r (by omega) (by omega)
 have e5:=fun r=>cmdRd_bytes hf.cmd r
 simp only at e5
 cases nop
 ·by_cases hc:client=0
  ·obtain ⟨rfl,rfl⟩:=hz.2 hc
   subst hc
   simp only [itemBytes,callBytes,List.append_assoc,Int.lt_irrefl,if_false,Bool.false_eq_true,List.append_nil,List.singleton_append,List.cons_append,List.nil_append,itemRd,callRd,e1,e2,e3,smallR_u8,if_true]
  ·have hp:0<client:=by omega
   simp only [itemBytes,callBytes,List.append_assoc,hp,if_true,if_false,Bool.false_eq_true,List.singleton_append,List.cons_append,List.nil_append,itemRd,callRd,e1,e2,e3,e4,e5,smallR_u8,hc]
 ·obtain ⟨rfl,rfl⟩:=hz.2 (hz.1 rfl)
  obtain rfl:=hz.1 rfl
  simp [itemBytes,itemRd,e1,e2,smallR_u8]
theorem U8s.app {a b:List Value} (ha:U8s a) (hb:U8s b):U8s (a ++ b):=fun u hu=>(List.mem_append.1 hu).elim (ha u) (hb u)
theorem U8s.one {n:Int} (h0:0≤n) (h1:n<256):U8s [u8 n]:=fun u hu=>by rw [List.mem_singleton] at hu;exact ⟨n,hu,h0,h1⟩
theorem u8s_num8 (n:Int):U8s (num8 n):=by
 intro u hu
 simp only [num8,List.mem_cons,List.not_mem_nil,or_false] at hu
 rcases hu with rfl|rfl|rfl|rfl|rfl|rfl|rfl|rfl <;> exact ⟨_,rfl,by omega,by omega⟩
theorem u8s_str (s:ByteArray):U8s (strCells s):=by
 intro u hu
 simp only [strCells,List.mem_map] at hu
 obtain ⟨b,_,rfl⟩:=hu
 exact ⟨_,rfl,by omega,by have:=b.toNat_lt;omega⟩
theorem u8s_txt {s:ByteArray} (h:s.size<256):U8s (txt s):=(U8s.one (by omega) (by omega)).app (u8s_str s)
theorem itemBytes_pos (x:Itm):0<(itemBytes x).length:=by simp [itemBytes,num8_length];omega
end Go.Proofs.YtgdcofbnbiclmaaGreatDoor
namespace Go.Proofs.YtgdcofbnbiclmaaGreatDoor
set_option linter.all false
set_option maxHeartbeats 32000000
open Go.ChangeShapes Go.WideShapes Go.ChangeAt Go.RowKit
theorem run_str {P:Program} {w:World} {src dst e:TypeId} {A:Option Addr} {n c:Nat} {bs:List Value} (hs:P.underlying src=some (.slice e)) (he:P.underlying e=some (.int .u8)) (hd:P.underlying dst=some .string)
  (h:Sl w 1 A n c (byteRows bs)) (hb:U8s bs):(convert src dst (.slice A n c)).run P w = .ok (.string (strOf bs)) w:=by
 have hl:bs.length=n:=by rw [←h.len,byteRows_length]
 have he2:strOf bs=strOfNums (bs.map intv):=by simp [strOf,strOfNums,List.map_map]
 by_cases h0:n=0
 ·have hz:bs=[]:=List.eq_nil_of_length_eq_zero (by omega)
  subst hz
  subst h0
  cases A with
  | none=>rw [run_convert_bytes_nil w src e hs he 0 c dst hd];rfl
  | some a=>rw [run_convert_bytes_string w src dst e _ 0 c hs he hd,run_bytesToString w a 0 c [] (by simp [loadCells,loadCellsFrom])];rfl
 ·obtain ⟨b,off,rfl,_,hc⟩:=h.seg (by rw [byteRows_length];omega)
  rw [he2]
  refine run_convert_bytes_arg w src e hs he b off n c (bs.map intv) (by simpa using hl) (fun i hi=>?_) dst hd
  have hi':i<bs.length:=by omega
  have:=hc i [bs[i]] (by simp [byteRows,hi']) 0 bs[i] rfl
  rw [Nat.mul_one,Nat.add_zero] at this
  rw [this]
  obtain ⟨m,hm,_⟩:=hb bs[i] (List.getElem_mem hi')
  rw [hm]
  simp [List.getD,hi',hm,intv]
end Go.Proofs.YtgdcofbnbiclmaaGreatDoor
namespace Go.Proofs.YtgdcofbnbiclmaaGreatDoor
set_option linter.all false
set_option maxHeartbeats 32000000
open Go.RowKit Go.Lib
structure Rd (W0 w:World) (g:Nat) (st:RS):Prop where
 slc:∃ A n c,Blk w g 284 #[.slice A n c,.bool st.2]∧Sl W0 1 A n c (byteRows st.1)
 low:Below W0.heap.size W0 w
 gb:W0.heap.size≤g
 u8:U8s st.1
def Nil:Value:=.slice none 0 0
def Reads (W0 w:World) (g:Nat) (v:Value) (st:RS) (e:Ending) (w':World):Prop:=e = .returned v∧Rd W0 w' g st∧Wrote w w' g Nil Nil
theorem Rd.below {W0 w w':World} {g:Nat} {st:RS} (h:Rd W0 w g st) (hb:Below w.heap.size w w'):Rd W0 w' g st:=by
 obtain ⟨⟨A,n,c,h1,h2⟩,h3,h4,h5⟩:=h
 exact ⟨⟨A,n,c,h1.below' hb,h2⟩,h3.trans (hb.mono h3.size),h4,h5⟩
theorem Rd.alloc {W0 w:World} {g:Nat} {st:RS} (h:Rd W0 w g st) (o:Obj):Rd W0 (w.alloc o) g st:=h.below ((Below.refl _ w).alloc (Nat.le_refl _) o)
theorem Wrote.set0 {w:World} {g i:Nat} (u:Value):Wrote w (w.setCell ⟨g,i,none⟩ u) g Nil Nil:=
 ⟨rfl,rfl,rfl,by simp,fun b _ hg _=>Below.heap_setCell w _ _ b (by simpa using hg),.inl rfl⟩
theorem U8s.drop {l:List Value} (h:U8s l) (n:Nat):U8s (l.drop n):=fun u hu=>h u (List.mem_of_mem_drop hu)
theorem U8s.take {l:List Value} (h:U8s l) (n:Nat):U8s (l.take n):=fun u hu=>h u (List.mem_of_mem_take hu)
theorem takeR_u8 {n:Int} {st:RS} (h:U8s st.1):U8s (takeR n st).1∧U8s (takeR n st).2.1:=by
 unfold takeR
 split
 ·exact ⟨fun u hu=>by simp at hu,h⟩
 ·exact ⟨h.take _,h.drop _⟩
theorem byteRows_take (l:List Value) (k:Nat):(byteRows l).take k=byteRows (l.take k):=by simp [byteRows]
theorem byteRows_drop (l:List Value) (k:Nat):(byteRows l).drop k=byteRows (l.drop k):=by simp [byteRows]
theorem u8_size:(Tryz.prog.info? 5).map (·.size)=some 1:=by kernel_rfl
theorem take_any (W0:World) (g:Nat) (st:RS) (n:Nat) (w:World) (h:Rd W0 w g st) (hn:n≤1000) :
  Calls Tryz.prog 227 #[.pointer (some ⟨g,0,none⟩),.int .i64 n] w fun e w'=>∃ A m c,e = .returned (.slice A m c)∧Sl W0 1 A m c (byteRows (takeR n st).1)∧Rd W0 w' g (takeR n st).2∧Wrote w w' g Nil Nil:=by
 obtain ⟨⟨A,m,c,hB,hS⟩,hlow,hgb,hu⟩:=h
 obtain ⟨l,sh⟩:=st
 simp only at hB hS hu
 have hm:l.length=m:=by rw [←hS.len,byteRows_length]
 subst hm
 have hcm:=hS.cm
 have hnc:=hS.nc
 unfold maxLen at hcm
 have hg:=hB.lt
 have hc:=hB.cell
 have hf:=hB.frozen
 cases sh
 ·by_cases hlt:l.length<n
  ·have hlt':(l.length:Int)<(n:Int):=by omega
   have hT:takeR n (l,false)=([],(l,true)):=by unfold takeR;rw [if_pos (by right;exact hlt')]
   rw [hT]
   have HT:True:=trivial
   clear hT
   go_enter Tryz.func227,Tryz.ntmps227
   go_wp2_with fail
   go_ret
   exact ⟨none,0,0,rfl,Sl.nil_ _ _,⟨⟨A,l.length,c,hB.set' rfl,hS⟩,hlow.setCell hgb _,hgb,hu⟩,Wrote.set0 _⟩
  ·have hlt':¬ (l.length:Int)<(n:Int):=by omega
   have hT:takeR n (l,false)=(l.take n,(l.drop n,false)):=by unfold takeR;rw [if_neg (by simp;omega)];simp
   rw [hT]
   clear hT
   have s1:=fun w=>run_take Tryz.underlying113 u8_size A l.length c n (by omega) w
   have s2:=fun w=>run_cut Tryz.underlying113 u8_size A l.length c n (by omega) w
   have h1:=hS.take n (by omega) c (by omega) (Nat.le_refl _)
   have h2:=hS.drop n (by omega) c (Nat.le_refl _) hnc
   rw [byteRows_take] at h1
   rw [byteRows_drop] at h2
   go_enter Tryz.func227,Tryz.ntmps227
   go_wp2_with fail
   go_ret
   exact ⟨A,n,c,rfl,h1,⟨⟨_,_,_,hB.set' rfl,h2⟩,hlow.setCell hgb _,hgb,hu.drop n⟩,Wrote.set0 _⟩
 ·have hT:takeR n (l,true)=([],(l,true)):=by unfold takeR;rw [if_pos (by left;rfl)]
  rw [hT]
  clear hT
  go_enter Tryz.func227,Tryz.ntmps227
  go_wp2_with fail
  go_ret
  exact ⟨none,0,0,rfl,Sl.nil_ _ _,⟨⟨A,l.length,c,hB.set' rfl,hS⟩,hlow.setCell hgb _,hgb,hu⟩,Wrote.set0 _⟩
theorem wrap64_i64 (x:Int):wrap64 x=IntKind.i64.wrap x:=by
 simp [wrap64,IntKind.wrap,IntKind.signed,IntKind.bits]
 split <;> omega
theorem be_snoc (l:List Value) (v:Value):beR (l ++ [v])=(beR l*256+intv v) % 18446744073709551616:=by simp [beR]
theorem be_bd (l:List Value):0≤beR l∧beR l<18446744073709551616:=by
 rcases List.eq_nil_or_concat l with rfl|⟨l,v,rfl⟩
 ·simp [beR]
 ·rw [List.concat_eq_append,be_snoc];omega
theorem or_step (u x:Int) (h0:0≤u) (x0:0≤x) (x1:x<256):bits .or .u64 (IntKind.u64.wrap (u*256)) x=(u*256+x) % 18446744073709551616:=by
 obtain ⟨a,ha⟩:=Int.eq_ofNat_of_zero_le (show 0≤u % 72057594037927936 by omega)
 obtain ⟨b,rfl⟩:=Int.eq_ofNat_of_zero_le x0
 have e1:IntKind.u64.wrap (u*256)=((a*256:Nat):Int):=by rw [IntKind.wrap_u64];omega
 have hb:b<2 ^ 8:=by omega
 have e2:a*256 ||| b=a*256+b:=by
  have:=Nat.shiftLeft_add_eq_or_of_lt hb a
  rw [Nat.shiftLeft_eq] at this
  exact this.symm
 rw [e1,bits_or_u64_nat _ _ (by omega) (by omega),e2]
 omega
theorem rnumber_any (W0:World) (g:Nat) (st:RS) (w:World) (h:Rd W0 w g st) :
  Calls Tryz.prog 202 #[.pointer (some ⟨g,0,none⟩)] w (Reads W0 w g (.int .i64 (numR st).1) (numR st).2):=by
 have hu:=(takeR_u8 (n:=8) h.u8).1
 have e1:numR st=(numOf (takeR 8 st).1,(takeR 8 st).2):=rfl
 rw [e1]
 have hT:=take_any W0 g st 8 w h (by omega)
 rw [show ((8:Nat):Int)=8 from rfl] at hT
 generalize takeR 8 st=R at hu hT
 obtain ⟨b,st'⟩:=R
 simp only at hu hT ⊢
 have HT:=hide hT;have HU:=hide hu
 clear hT e1 hu
 go_enter Tryz.func202,Tryz.ntmps202
 go_wp2_with fail
 refine HT.out.mono ?_
 rintro e w1 ⟨A,m,c,rfl,hS,hR,hW⟩
 have hm:b.length=m:=by rw [←hS.len,byteRows_length]
 subst hm
 have hS1:=hS.below hR.low
 have hcm:=hS.cm
 have hnc:=hS.nc
 unfold maxLen at hcm
 go_wp2_with fail
 go_loop [3,9] (fun s3 s9=>∃ k:Nat,k≤b.length∧s9 = .int .i64 k∧s3 = .int .u64 (beR (b.take k))) (fun _ s9=>b.length - (intOf s9).toNat)
 case atStart=>exact ⟨0,by omega,rfl,rfl⟩
 case round=>
  obtain ⟨k,hk,rfl,rfl⟩:=hrel
  have hbd:=be_bd (b.take k)
  by_cases hlt:k<b.length
  ·obtain ⟨x,hx,x0,x1⟩:=HU.out b[k] (List.getElem_mem hlt)
   have hsn:beR (b.take (k+1))=(beR (b.take k)*256+x) % 18446744073709551616:=by
    rw [List.take_succ_eq_append_getElem hlt,be_snoc,hx];rfl
   obtain ⟨yb,yo,rfl,hyb,hcell⟩:=hS1.seg (by rw [byteRows_length];omega)
   have hck:=hcell k [b[k]] (by simp [byteRows,hlt]) 0 b[k] rfl
   rw [hx,Nat.mul_one,Nat.add_zero] at hck
   have hk1:(k:Int)<(b.length:Int):=by omega
   have HSN:=hide hsn
   clear hsn hcell
   generalize beR (b.take k)=u at hbd HSN
   obtain ⟨u0,u1⟩:=hbd
   have hor:=or_step u x u0 x0 x1
   go_wp2_with fail
   go_round
   case rel=>exact ⟨k+1,by omega,by go_num,by rw [HSN.out]⟩
   case measure=>simp [intOf];omega
  ·obtain rfl:k=b.length:=by omega
   rw [List.take_of_length_le (Nat.le_refl _)]
   have hno:numOf b=IntKind.i64.wrap (IntKind.u64.wrap (beR b - 4611686018427387904)):=rfl
   have HN:=hide hno;clear hno
   generalize beR b=u at hbd HN
   obtain ⟨u0,u1⟩:=hbd
   go_wp2_with fail
   go_ret
   exact ⟨ret_int (by rw [HN.out];exact wrap64_i64 _),hR,hW⟩
theorem rsmall_any (W0:World) (g:Nat) (st:RS) (w:World) (h:Rd W0 w g st) :
  Calls Tryz.prog 208 #[.pointer (some ⟨g,0,none⟩)] w (Reads W0 w g (.int .i64 (smallR st).1) (smallR st).2):=by
 have hu:=(takeR_u8 (n:=1) h.u8).1
 have e1:smallR st=(headV (takeR 1 st).1,(takeR 1 st).2):=rfl
 rw [e1]
 have hT:=take_any W0 g st 1 w h (by omega)
 rw [show ((1:Nat):Int)=1 from rfl] at hT
 generalize takeR 1 st=R at hu hT
 obtain ⟨b,st'⟩:=R
 simp only at hu hT ⊢
 have HT:=hide hT;have HU:=hide hu
 clear hT e1 hu
 go_enter Tryz.func208,Tryz.ntmps208
 go_wp2_with fail
 refine HT.out.mono ?_
 rintro e w1 ⟨A,m,c,rfl,hS,hR,hW⟩
 have hm:b.length=m:=by rw [←hS.len,byteRows_length]
 subst hm
 have hS1:=hS.below hR.low
 have hcm:=hS.cm
 have hnc:=hS.nc
 unfold maxLen at hcm
 cases b with
 | nil=>
  go_wp2_with fail
  refine wp_loop_rounds 1 ?_
  rw [rounds_succ]
  go_wp2_with fail
  go_ret
  exact ⟨rfl,hR,hW⟩
 | cons y b=>
  obtain ⟨x,hx,x0,x1⟩:=HU.out y (by simp)
  subst hx
  obtain ⟨yb,yo,rfl,hyb,hcell⟩:=hS1.seg (by rw [byteRows_length];simp)
  have hck:=hcell 0 [.int .u8 x] (by simp [byteRows]) 0 (.int .u8 x) rfl
  rw [Nat.zero_mul,Nat.add_zero] at hck
  clear hcell HU
  have hl1:(0:Int)<((Value.int IntKind.u8 x :: b).length:Int):=by rw [List.length_cons];omega
  generalize (Value.int IntKind.u8 x :: b).length=len at *
  go_wp2_with fail
  refine wp_loop_rounds 1 ?_
  rw [rounds_succ]
  go_wp2_with fail
  go_ret
  exact ⟨rfl,hR,hW⟩
theorem small_bd {st:RS} (h:U8s st.1):0≤(smallR st).1∧(smallR st).1<256∧U8s (smallR st).2.1:=by
 have hu:=takeR_u8 (n:=1) h
 unfold smallR
 simp only
 refine ⟨?_,?_,hu.2⟩
 all_goals
  cases hb:(takeR 1 st).1 with
  | nil=>simp [headV]
  | cons y b=>
   rw [hb] at hu
   obtain ⟨x,rfl,x0,x1⟩:=hu.1 y (by simp)
   simpa [headV,intv]
theorem rtext_any (W0:World) (g:Nat) (st:RS) (w:World) (h:Rd W0 w g st) :
  Calls Tryz.prog 205 #[.pointer (some ⟨g,0,none⟩)] w (Reads W0 w g (.string (textRd st).1) (textRd st).2):=by
 obtain ⟨s0,s1,s2⟩:=small_bd h.u8
 have e1:textRd st=(strOf (takeR (smallR st).1 (smallR st).2).1,(takeR (smallR st).1 (smallR st).2).2):=rfl
 rw [e1]
 have hT:=rsmall_any W0 g st w h
 generalize smallR st=R at s0 s1 s2 hT
 obtain ⟨n,st1⟩:=R
 simp only at s0 s1 s2 hT ⊢
 obtain ⟨k,rfl⟩:=Int.eq_ofNat_of_zero_le s0
 have hu:=(takeR_u8 (n:=k) s2).1
 have hT2:=fun w h=>take_any W0 g st1 k w h (by omega)
 generalize takeR k st1=R2 at hu hT2
 obtain ⟨b,st2⟩:=R2
 simp only at hu hT2 ⊢
 have HT:=hide hT;have HU:=hide hu;have HT2:=hide hT2
 clear hT e1 hu hT2
 go_enter Tryz.func205,Tryz.ntmps205
 go_wp2_with fail
 refine HT.out.mono ?_
 rintro e w1 ⟨rfl,hR,hW⟩
 go_wp2_with fail
 refine (HT2.out _ hR).mono ?_
 rintro e w2 ⟨A,m,c,rfl,hS,hR2,hW2⟩
 have hs:=run_str Tryz.underlying113 Tryz.underlying5 Tryz.underlying9 (hS.below hR2.low) HU.out
 go_wp2_with fail
 go_ret
 exact ⟨rfl,hR2,hW.trans hW2⟩
theorem Rd.set {W0 w:World} {g:Nat} {st:RS} (h:Rd W0 w g st) {p:Addr} (hp:g≠p.block) (hp2:W0.heap.size≤p.block) (u:Value):Rd W0 (w.setCell p u) g st:=by
 obtain ⟨⟨A,n,c,h1,h2⟩,h3,h4,h5⟩:=h
 exact ⟨⟨A,n,c,h1.far hp u,h2⟩,h3.setCell hp2 u,h4,h5⟩
theorem Rd.lt {W0 w:World} {g:Nat} {st:RS} (h:Rd W0 w g st):g<w.heap.size:=by
 obtain ⟨⟨A,n,c,h1,_⟩,_⟩:=h;exact h1.lt
theorem Rd.big {W0 w:World} {g:Nat} {st:RS} (h:Rd W0 w g st):W0.heap.size≤w.heap.size:=h.low.size
theorem Wrote.set {w w1:World} {g:Nat} {v v':Value} (h:Wrote w w1 g v v') {p:Addr} (hp:w.heap.size≤p.block) (u:Value):Wrote w (w1.setCell p u) g v v':=
 ⟨h.os,h.tape,h.output,by have:=h.size;simpa using this,fun b hb hg hv=>(Below.heap_setCell w1 p u b (by omega)).trans (h.block b hb hg hv),h.row⟩
theorem Wrote.alloc {w w1:World} {g:Nat} {v v':Value} (h:Wrote w w1 g v v') (o:Obj):Wrote w (w1.alloc o) g v v':=h.post ((Below.refl _ w1).alloc (Nat.le_refl _) o)
theorem Box.fresh {w:World} {g:Nat} (hg:g<w.heap.size) (t:TypeId) (cs:Array Value):Box (w.alloc (.cells cs t)) w.heap.size t cs g Nil:=
 ⟨Blk.new w t cs,by omega,by simp [Nil,Value.ownBlock]⟩
theorem Box.al {w:World} {b g:Nat} {t:TypeId} {cs:Array Value} {v:Value} (h:Box w b t cs g v) (o:Obj):Box (w.alloc o) b t cs g v:=h.below ((Below.refl _ w).alloc (Nat.le_refl _) o)
theorem Box.set {w:World} {b g i:Nat} {t:TypeId} {cs:Array Value} {v u:Value} {cs':Array Value} (h:Box w b t cs g v) (he:cs.setIfInBounds i u=cs'):Box (w.setCell ⟨b,i,none⟩ u) b t cs' g v:=⟨h.blk.set' he,h.ng,h.nv⟩
theorem Box.far {w:World} {b g:Nat} {t:TypeId} {cs:Array Value} {v:Value} (h:Box w b t cs g v) {p:Addr} (hp:b≠p.block) (u:Value):Box (w.setCell p u) b t cs g v:=⟨h.blk.far hp u,h.ng,h.nv⟩
theorem rcommand_any (W0:World) (g:Nat) (st:RS) (w:World) (h:Rd W0 w g st) :
  Calls Tryz.prog 247 #[.pointer (some ⟨g,0,none⟩)] w (Reads W0 w g (.agg #[.int .i64 (cmdRd st).1.kind,.string (cmdRd st).1.key,.string (cmdRd st).1.field,.string (cmdRd st).1.text,.int .i64 (cmdRd st).1.n]) (cmdRd st).2):=by
 have hlt:=h.lt
 have hbig:=h.big
 unfold cmdRd
 simp only
 have H1:=fun w h=>rsmall_any W0 g st w h
 generalize smallR st=R1 at H1
 obtain ⟨kind,s1⟩:=R1
 have H2:=fun w h=>rtext_any W0 g s1 w h
 simp only at H1 ⊢
 generalize textRd s1=R2 at H2
 obtain ⟨key,s2⟩:=R2
 have H3:=fun w h=>rtext_any W0 g s2 w h
 simp only at H2 ⊢
 generalize textRd s2=R3 at H3
 obtain ⟨field,s3⟩:=R3
 have H4:=fun w h=>rtext_any W0 g s3 w h
 simp only at H3 ⊢
 generalize textRd s3=R4 at H4
 obtain ⟨text,s4⟩:=R4
 have H5:=fun w h=>rnumber_any W0 g s4 w h
 simp only at H4 ⊢
 generalize numR s4=R5 at H5
 obtain ⟨num,s5⟩:=R5
 simp only at H5 ⊢
 have K1:=hide H1;have K2:=hide H2;have K3:=hide H3;have K4:=hide H4;have K5:=hide H5
 clear H1 H2 H3 H4 H5
 have a0:Below w.heap.size w (w.alloc (.cells #[.int .i64 0,.string emp,.string emp,.string emp,.int .i64 0] 36)):=below_by
 have R:=Box.fresh hlt 36 #[.int .i64 0,.string emp,.string emp,.string emp,.int .i64 0]
 replace h:=h.alloc (.cells #[.int .i64 0,.string emp,.string emp,.string emp,.int .i64 0] 36)
 go_enter Tryz.func247,Tryz.ntmps247
 go_wp2_with fail
 refine (K1.out _ h).mono ?_
 rintro e w1 ⟨rfl,h1,p1⟩
 replace R:=R.wr p1
 have hz1:w.heap.size<w1.heap.size:=R.blk.lt
 have C:=Box.fresh h1.lt 36 #[.int .i64 kind,.string emp,.string emp,.string emp,.int .i64 0]
 have a1:Below w1.heap.size w1 (w1.alloc (.cells #[.int .i64 kind,.string emp,.string emp,.string emp,.int .i64 0] 36)):=below_by
 replace R:=R.al (.cells #[.int .i64 kind,.string emp,.string emp,.string emp,.int .i64 0] 36)
 replace h1:=h1.alloc (.cells #[.int .i64 kind,.string emp,.string emp,.string emp,.int .i64 0] 36)
 go_wp2_with fail
 refine (K2.out _ h1).mono ?_
 rintro e w2 ⟨rfl,h2,p2⟩
 replace R:=R.wr p2
 replace C:=C.wr p2
 go_wp2_with fail
 refine (K3.out _ h2).mono ?_
 rintro e w3 ⟨rfl,h3,p3⟩
 replace R:=R.wr p3
 replace C:=C.wr p3
 go_wp2_with fail
 refine (K4.out _ h3).mono ?_
 rintro e w4 ⟨rfl,h4,p4⟩
 replace R:=R.wr p4
 replace C:=C.wr p4
 (try clear cC fC);have cC:=C.cell;have fC:=C.frozen;(try clear cR fR);have cR:=R.cell;have fR:=R.frozen
 have hgw:g≠w1.heap.size:=C.ng.symm
 have hgr:g≠w.heap.size:=R.ng.symm
 have hz4:w.heap.size<w4.heap.size:=R.blk.lt
 have hz5:w1.heap.size<w4.heap.size:=C.blk.lt
 have W0a:W0.heap.size≤w1.heap.size:=by omega
 go_wp2_with fail
 refine (K5.out _ (by repeat (first|(with_reducible assumption)|(with_reducible refine Rd.alloc ?_ _)|((with_reducible refine Rd.set ?_ ?_ ?_ _);rotate_left;(focus first|(simp;done)|(simp;omega)|omega);(focus first|(simp;done)|(simp;omega)|omega))))).mono ?_
 rintro e w5 ⟨rfl,h5,p5⟩
 have hrc:w.heap.size≠w1.heap.size:=by omega
 replace R:=(((R.far (p:=⟨w1.heap.size,1,none⟩) hrc (.string key)).far (p:=⟨w1.heap.size,2,none⟩) hrc (.string field)).far (p:=⟨w1.heap.size,3,none⟩) hrc (.string text)).wr p5
 replace C:=(((C.set (i:=1) (u:=.string key) (cs':=#[.int .i64 kind,.string key,.string emp,.string emp,.int .i64 0]) rfl).set (i:=2) (u:=.string field) (cs':=#[.int .i64 kind,.string key,.string field,.string emp,.int .i64 0]) rfl).set (i:=3) (u:=.string text) (cs':=#[.int .i64 kind,.string key,.string field,.string text,.int .i64 0]) rfl).wr p5
 clear cC fC cR fR
 (try clear cC fC);have cC:=C.cell;have fC:=C.frozen;(try clear cR fR);have cR:=R.cell;have fR:=R.frozen
 have hz6:w.heap.size<w5.heap.size:=R.blk.lt
 have hz7:w1.heap.size<w5.heap.size:=C.blk.lt
 have q4:Wrote w w4 g Nil Nil:=((((Wrote.pre a0 p1).trans (Wrote.pre a1 p2)).trans p3).trans p4)
 have q4':Wrote w (((w4.setCell ⟨w1.heap.size,1,none⟩ (.string key)).setCell ⟨w1.heap.size,2,none⟩ (.string field)).setCell ⟨w1.heap.size,3,none⟩ (.string text)) g Nil Nil:=(by repeat (first|(with_reducible assumption)|(with_reducible refine Wrote.alloc ?_ _)|((with_reducible refine Wrote.set ?_ ?_ _);rotate_left;(focus first|(simp;done)|(simp;omega)|omega))))
 have q5:=q4'.trans p5
 clear q4 q4'
 go_wp2_with fail
 refine bodyPost_ret (v:=.agg #[.int .i64 kind,.string key,.string field,.string text,.int .i64 num]) ?_ rfl ⟨rfl,(by repeat (first|(with_reducible assumption)|(with_reducible refine Rd.alloc ?_ _)|((with_reducible refine Rd.set ?_ ?_ ?_ _);rotate_left;(focus first|(simp;done)|(simp;omega)|omega);(focus first|(simp;done)|(simp;omega)|omega)))),(by repeat (first|(with_reducible assumption)|(with_reducible refine Wrote.alloc ?_ _)|((with_reducible refine Wrote.set ?_ ?_ _);rotate_left;(focus first|(simp;done)|(simp;omega)|omega))))⟩
 simp [results,Tryz.results247,go_sem, *]
theorem rcall_any (W0:World) (g:Nat) (st:RS) (w:World) (h:Rd W0 w g st) :
  Calls Tryz.prog 241 #[.pointer (some ⟨g,0,none⟩)] w (Reads W0 w g (.agg #[.int .i64 (callRd st).1.client,.int .i64 (callRd st).1.seq,.int .i64 (callRd st).1.cmd.kind,.string (callRd st).1.cmd.key,.string (callRd st).1.cmd.field,.string (callRd st).1.cmd.text,.int .i64 (callRd st).1.cmd.n]) (callRd st).2):=by
 have hlt:=h.lt
 have hbig:=h.big
 unfold callRd
 have H1:=fun w h=>rnumber_any W0 g st w h
 generalize numR st=R1 at H1
 obtain ⟨cl,s1⟩:=R1
 have H2:=fun w h=>rnumber_any W0 g s1 w h
 simp only at H1 ⊢
 generalize numR s1=R2 at H2
 obtain ⟨sq,s2⟩:=R2
 have H3:=fun w h=>rcommand_any W0 g s2 w h
 simp only at H2 ⊢
 generalize cmdRd s2=R3 at H3
 obtain ⟨c,s3⟩:=R3
 simp only at H3 ⊢
 have K1:=hide H1;have K2:=hide H2;have K3:=hide H3
 clear H1 H2 H3
 have a0:Below w.heap.size w (w.alloc (.cells #[.int .i64 0,.int .i64 0,.int .i64 0,.string emp,.string emp,.string emp,.int .i64 0] 38)):=below_by
 have R:=Box.fresh hlt 38 #[.int .i64 0,.int .i64 0,.int .i64 0,.string emp,.string emp,.string emp,.int .i64 0]
 replace h:=h.alloc (.cells #[.int .i64 0,.int .i64 0,.int .i64 0,.string emp,.string emp,.string emp,.int .i64 0] 38)
 by_cases hc0:cl=0
 ·rw [if_pos hc0]
  subst hc0
  go_enter Tryz.func241,Tryz.ntmps241
  go_wp2_with fail
  refine (K1.out _ h).mono ?_
  rintro e w1 ⟨rfl,h1,p1⟩
  replace R:=R.wr p1
  have hz1:w.heap.size<w1.heap.size:=R.blk.lt
  have C:=Box.fresh h1.lt 38 #[.int .i64 0,.int .i64 0,.int .i64 0,.string emp,.string emp,.string emp,.int .i64 0]
  have cR1:=R.cell
  have fR1:=R.frozen
  have q1:Wrote w w1 g Nil Nil:=Wrote.pre a0 p1
  replace R:=R.al (.cells #[.int .i64 0,.int .i64 0,.int .i64 0,.string emp,.string emp,.string emp,.int .i64 0] 38)
  have hgr:g≠w.heap.size:=R.ng.symm
  (try clear cC fC);have cC:=C.cell;have fC:=C.frozen;(try clear cR fR);have cR:=R.cell;have fR:=R.frozen
  go_wp2_with fail
  refine bodyPost_ret (v:=.agg #[.int .i64 0,.int .i64 0,.int .i64 0,.string emp,.string emp,.string emp,.int .i64 0]) ?_ rfl ⟨by simp [zeroCmd,emp],(by repeat (first|(with_reducible assumption)|(with_reducible refine Rd.alloc ?_ _)|((with_reducible refine Rd.set ?_ ?_ ?_ _);rotate_left;(focus first|(simp;done)|(simp;omega)|omega);(focus first|(simp;done)|(simp;omega)|omega)))),(by repeat (first|(with_reducible assumption)|(with_reducible refine Wrote.alloc ?_ _)|((with_reducible refine Wrote.set ?_ ?_ _);rotate_left;(focus first|(simp;done)|(simp;omega)|omega))))⟩
  simp [results,Tryz.results241,go_sem,zeroCmd,emp, *]
 ·rw [if_neg hc0]
  have hcb:(cl == 0)=false:=by simpa using hc0
  go_enter Tryz.func241,Tryz.ntmps241
  go_wp2_with fail
  refine (K1.out _ h).mono ?_
  rintro e w1 ⟨rfl,h1,p1⟩
  replace R:=R.wr p1
  have hz1:w.heap.size<w1.heap.size:=R.blk.lt
  have C:=Box.fresh h1.lt 38 #[.int .i64 cl,.int .i64 0,.int .i64 0,.string emp,.string emp,.string emp,.int .i64 0]
  have a1:Below w1.heap.size w1 (w1.alloc (.cells #[.int .i64 cl,.int .i64 0,.int .i64 0,.string emp,.string emp,.string emp,.int .i64 0] 38)):=below_by
  replace R:=R.al (.cells #[.int .i64 cl,.int .i64 0,.int .i64 0,.string emp,.string emp,.string emp,.int .i64 0] 38)
  replace h1:=h1.alloc (.cells #[.int .i64 cl,.int .i64 0,.int .i64 0,.string emp,.string emp,.string emp,.int .i64 0] 38)
  have hgw:g≠w1.heap.size:=C.ng.symm
  have hgr:g≠w.heap.size:=R.ng.symm
  have W0a:W0.heap.size≤w1.heap.size:=by omega
  have hrc:w.heap.size≠w1.heap.size:=by omega
  (try clear cC fC);have cC:=C.cell;have fC:=C.frozen;(try clear cR fR);have cR:=R.cell;have fR:=R.frozen
  go_wp2_with fail
  refine (K2.out _ h1).mono ?_
  rintro e w2 ⟨rfl,h2,p2⟩
  replace R:=R.wr p2
  replace C:=C.wr p2
  (try clear cC fC);have cC:=C.cell;have fC:=C.frozen;(try clear cR fR);have cR:=R.cell;have fR:=R.frozen
  go_wp2_with fail
  refine (K3.out _ (by repeat (first|(with_reducible assumption)|(with_reducible refine Rd.alloc ?_ _)|((with_reducible refine Rd.set ?_ ?_ ?_ _);rotate_left;(focus first|(simp;done)|(simp;omega)|omega);(focus first|(simp;done)|(simp;omega)|omega))))).mono ?_
  rintro e w3 ⟨rfl,h3,p3⟩
  replace R:=(R.far (p:=⟨w1.heap.size,1,none⟩) hrc (.int .i64 sq)).wr p3
  replace C:=(C.set (i:=1) (u:=.int .i64 sq) (cs':=#[.int .i64 cl,.int .i64 sq,.int .i64 0,.string emp,.string emp,.string emp,.int .i64 0]) rfl).wr p3
  clear cC fC cR fR
  (try clear cC fC);have cC:=C.cell;have fC:=C.frozen;(try clear cR fR);have cR:=R.cell;have fR:=R.frozen
  have hz6:w.heap.size<w3.heap.size:=R.blk.lt
  have hz7:w1.heap.size<w3.heap.size:=C.blk.lt
  have q2:Wrote w w2 g Nil Nil:=(Wrote.pre a0 p1).trans (Wrote.pre a1 p2)
  have q2':Wrote w (w2.setCell ⟨w1.heap.size,1,none⟩ (.int .i64 sq)) g Nil Nil:=(by repeat (first|(with_reducible assumption)|(with_reducible refine Wrote.alloc ?_ _)|((with_reducible refine Wrote.set ?_ ?_ _);rotate_left;(focus first|(simp;done)|(simp;omega)|omega))))
  have q3:=q2'.trans p3
  clear q2 q2'
  go_wp2_with fail
  refine bodyPost_ret (v:=.agg #[.int .i64 cl,.int .i64 sq,.int .i64 c.kind,.string c.key,.string c.field,.string c.text,.int .i64 c.n]) ?_ rfl ⟨rfl,(by repeat (first|(with_reducible assumption)|(with_reducible refine Rd.alloc ?_ _)|((with_reducible refine Rd.set ?_ ?_ ?_ _);rotate_left;(focus first|(simp;done)|(simp;omega)|omega);(focus first|(simp;done)|(simp;omega)|omega)))),(by repeat (first|(with_reducible assumption)|(with_reducible refine Wrote.alloc ?_ _)|((with_reducible refine Wrote.set ?_ ?_ _);rotate_left;(focus first|(simp;done)|(simp;omega)|omega))))⟩
  simp [results,Tryz.results241,go_sem, *]
def ItemV (x:Itm) (ok:Bool):Value:=.tuple #[.agg #[.int .i64 x.term,.int .i64 x.time,.bool x.nop,.int .i64 x.client,.int .i64 x.seq,.int .i64 x.cmd.kind,.string x.cmd.key,.string x.cmd.field,.string x.cmd.text,.int .i64 x.cmd.n],.bool ok]
theorem ritem_any (W0:World) (g:Nat) (st:RS) (w:World) (h:Rd W0 w g st) :
  Calls Tryz.prog 226 #[.pointer (some ⟨g,0,none⟩)] w (Reads W0 w g (ItemV (itemRd st).1.1 (itemRd st).1.2) (itemRd st).2):=by
 have hlt:=h.lt
 have hbig:=h.big
 unfold itemRd
 have H1:=fun w h=>rnumber_any W0 g st w h
 generalize numR st=R1 at H1
 obtain ⟨t,s1⟩:=R1
 have H2:=fun w h=>rnumber_any W0 g s1 w h
 simp only at H1 ⊢
 generalize numR s1=R2 at H2
 obtain ⟨m,s2⟩:=R2
 have H3:=fun w h=>rsmall_any W0 g s2 w h
 simp only at H2 ⊢
 generalize smallR s2=R3 at H3
 obtain ⟨k,s3⟩:=R3
 have H4:=fun w h=>rcall_any W0 g s3 w h
 simp only at H3 ⊢
 generalize callRd s3=R4 at H4
 obtain ⟨c,s4⟩:=R4
 simp only at H4 ⊢
 have K1:=hide H1;have K2:=hide H2;have K3:=hide H3;have K4:=hide H4
 clear H1 H2 H3 H4
 have a0:Below w.heap.size w (w.alloc (.cells #[.int .i64 0,.int .i64 0,.bool false,.int .i64 0,.int .i64 0,.int .i64 0,.string emp,.string emp,.string emp,.int .i64 0] 67)):=below_by
 have R:=Box.fresh hlt 67 #[.int .i64 0,.int .i64 0,.bool false,.int .i64 0,.int .i64 0,.int .i64 0,.string emp,.string emp,.string emp,.int .i64 0]
 replace h:=h.alloc (.cells #[.int .i64 0,.int .i64 0,.bool false,.int .i64 0,.int .i64 0,.int .i64 0,.string emp,.string emp,.string emp,.int .i64 0] 67)
 have hcase:(k=0)∨(k≠0∧k=1)∨(k≠0∧k≠1):=by omega
 rcases hcase with hk|⟨hk,hk1⟩|⟨hk,hk1⟩
 ·rw [if_pos hk]
  subst hk
  go_enter Tryz.func226,Tryz.ntmps226
  go_wp2_with fail
  refine (K1.out _ h).mono ?_
  rintro e w1 ⟨rfl,h1,p1⟩
  replace R:=R.wr p1
  go_wp2_with fail
  refine (K2.out _ h1).mono ?_
  rintro e w2 ⟨rfl,h2,p2⟩
  replace R:=R.wr p2
  have hz1:w.heap.size<w2.heap.size:=R.blk.lt
  have C:=Box.fresh h2.lt 67 #[.int .i64 t,.int .i64 m,.bool false,.int .i64 0,.int .i64 0,.int .i64 0,.string emp,.string emp,.string emp,.int .i64 0]
  have a1:Below w2.heap.size w2 (w2.alloc (.cells #[.int .i64 t,.int .i64 m,.bool false,.int .i64 0,.int .i64 0,.int .i64 0,.string emp,.string emp,.string emp,.int .i64 0] 67)):=below_by
  replace R:=R.al (.cells #[.int .i64 t,.int .i64 m,.bool false,.int .i64 0,.int .i64 0,.int .i64 0,.string emp,.string emp,.string emp,.int .i64 0] 67)
  replace h2:=h2.alloc (.cells #[.int .i64 t,.int .i64 m,.bool false,.int .i64 0,.int .i64 0,.int .i64 0,.string emp,.string emp,.string emp,.int .i64 0] 67)
  have hgw:g≠w2.heap.size:=C.ng.symm
  have hgr:g≠w.heap.size:=R.ng.symm
  have W0a:W0.heap.size≤w2.heap.size:=by omega
  have hrc:w.heap.size≠w2.heap.size:=by omega
  go_wp2_with fail
  refine (K3.out _ h2).mono ?_
  rintro e w3 ⟨rfl,h3,p3⟩
  replace R:=R.wr p3
  replace C:=C.wr p3
  (try clear cC fC);have cC:=C.cell;have fC:=C.frozen;(try clear cR fR);have cR:=R.cell;have fR:=R.frozen
  have hz6:w.heap.size<w3.heap.size:=R.blk.lt
  have hz7:w2.heap.size<w3.heap.size:=C.blk.lt
  have q3:Wrote w w3 g Nil Nil:=((Wrote.pre a0 p1).trans p2).trans (Wrote.pre a1 p3)
  go_wp2_with fail
  refine (K4.out _ h3).mono ?_
  rintro e w4 ⟨rfl,h4,p4⟩
  replace R:=R.wr p4
  replace C:=C.wr p4
  clear cC fC cR fR
  (try clear cC fC);have cC:=C.cell;have fC:=C.frozen;(try clear cR fR);have cR:=R.cell;have fR:=R.frozen
  have hz8:w.heap.size<w4.heap.size:=R.blk.lt
  have hz9:w2.heap.size<w4.heap.size:=C.blk.lt
  replace q3:=q3.trans p4
  go_wp2_with fail
  refine bodyPost_ret (v:=ItemV ⟨t,m,false,c.client,c.seq,c.cmd⟩ true) ?_ rfl ⟨rfl,(by repeat (first|(with_reducible assumption)|(with_reducible refine Rd.alloc ?_ _)|((with_reducible refine Rd.set ?_ ?_ ?_ _);rotate_left;(focus first|(simp;done)|(simp;omega)|omega);(focus first|(simp;done)|(simp;omega)|omega)))),(by repeat (first|(with_reducible assumption)|(with_reducible refine Wrote.alloc ?_ _)|((with_reducible refine Wrote.set ?_ ?_ _);rotate_left;(focus first|(simp;done)|(simp;omega)|omega))))⟩
  simp [results,Tryz.results226,go_sem,ItemV, *]
 ·rw [if_neg hk,if_pos hk1]
  subst hk1
  clear hk
  go_enter Tryz.func226,Tryz.ntmps226
  go_wp2_with fail
  refine (K1.out _ h).mono ?_
  rintro e w1 ⟨rfl,h1,p1⟩
  replace R:=R.wr p1
  go_wp2_with fail
  refine (K2.out _ h1).mono ?_
  rintro e w2 ⟨rfl,h2,p2⟩
  replace R:=R.wr p2
  have hz1:w.heap.size<w2.heap.size:=R.blk.lt
  have C:=Box.fresh h2.lt 67 #[.int .i64 t,.int .i64 m,.bool false,.int .i64 0,.int .i64 0,.int .i64 0,.string emp,.string emp,.string emp,.int .i64 0]
  have a1:Below w2.heap.size w2 (w2.alloc (.cells #[.int .i64 t,.int .i64 m,.bool false,.int .i64 0,.int .i64 0,.int .i64 0,.string emp,.string emp,.string emp,.int .i64 0] 67)):=below_by
  replace R:=R.al (.cells #[.int .i64 t,.int .i64 m,.bool false,.int .i64 0,.int .i64 0,.int .i64 0,.string emp,.string emp,.string emp,.int .i64 0] 67)
  replace h2:=h2.alloc (.cells #[.int .i64 t,.int .i64 m,.bool false,.int .i64 0,.int .i64 0,.int .i64 0,.string emp,.string emp,.string emp,.int .i64 0] 67)
  have hgw:g≠w2.heap.size:=C.ng.symm
  have hgr:g≠w.heap.size:=R.ng.symm
  have W0a:W0.heap.size≤w2.heap.size:=by omega
  have hrc:w.heap.size≠w2.heap.size:=by omega
  go_wp2_with fail
  refine (K3.out _ h2).mono ?_
  rintro e w3 ⟨rfl,h3,p3⟩
  replace R:=R.wr p3
  replace C:=C.wr p3
  (try clear cC fC);have cC:=C.cell;have fC:=C.frozen;(try clear cR fR);have cR:=R.cell;have fR:=R.frozen
  have hz6:w.heap.size<w3.heap.size:=R.blk.lt
  have hz7:w2.heap.size<w3.heap.size:=C.blk.lt
  have q3:Wrote w w3 g Nil Nil:=((Wrote.pre a0 p1).trans p2).trans (Wrote.pre a1 p3)
  go_wp2_with fail
  refine bodyPost_ret (v:=ItemV ⟨t,m,true,0,0,zeroCmd⟩ true) ?_ rfl ⟨rfl,(by repeat (first|(with_reducible assumption)|(with_reducible refine Rd.alloc ?_ _)|((with_reducible refine Rd.set ?_ ?_ ?_ _);rotate_left;(focus first|(simp;done)|(simp;omega)|omega);(focus first|(simp;done)|(simp;omega)|omega)))),(by repeat (first|(with_reducible assumption)|(with_reducible refine Wrote.alloc ?_ _)|((with_reducible refine Wrote.set ?_ ?_ _);rotate_left;(focus first|(simp;done)|(simp;omega)|omega))))⟩
  simp [results,Tryz.results226,go_sem,ItemV,zeroCmd,emp, *]
 ·rw [if_neg hk,if_neg hk1]
  have hkb:(k == 0)=false:=by simpa using hk
  have hkc:(k == 1)=false:=by simpa using hk1
  go_enter Tryz.func226,Tryz.ntmps226
  go_wp2_with fail
  refine (K1.out _ h).mono ?_
  rintro e w1 ⟨rfl,h1,p1⟩
  replace R:=R.wr p1
  go_wp2_with fail
  refine (K2.out _ h1).mono ?_
  rintro e w2 ⟨rfl,h2,p2⟩
  replace R:=R.wr p2
  have hz1:w.heap.size<w2.heap.size:=R.blk.lt
  have C:=Box.fresh h2.lt 67 #[.int .i64 t,.int .i64 m,.bool false,.int .i64 0,.int .i64 0,.int .i64 0,.string emp,.string emp,.string emp,.int .i64 0]
  have a1:Below w2.heap.size w2 (w2.alloc (.cells #[.int .i64 t,.int .i64 m,.bool false,.int .i64 0,.int .i64 0,.int .i64 0,.string emp,.string emp,.string emp,.int .i64 0] 67)):=below_by
  replace R:=R.al (.cells #[.int .i64 t,.int .i64 m,.bool false,.int .i64 0,.int .i64 0,.int .i64 0,.string emp,.string emp,.string emp,.int .i64 0] 67)
  replace h2:=h2.alloc (.cells #[.int .i64 t,.int .i64 m,.bool false,.int .i64 0,.int .i64 0,.int .i64 0,.string emp,.string emp,.string emp,.int .i64 0] 67)
  have hgw:g≠w2.heap.size:=C.ng.symm
  have hgr:g≠w.heap.size:=R.ng.symm
  have W0a:W0.heap.size≤w2.heap.size:=by omega
  have hrc:w.heap.size≠w2.heap.size:=by omega
  go_wp2_with fail
  refine (K3.out _ h2).mono ?_
  rintro e w3 ⟨rfl,h3,p3⟩
  replace R:=R.wr p3
  replace C:=C.wr p3
  (try clear cC fC);have cC:=C.cell;have fC:=C.frozen;(try clear cR fR);have cR:=R.cell;have fR:=R.frozen
  have hz6:w.heap.size<w3.heap.size:=R.blk.lt
  have hz7:w2.heap.size<w3.heap.size:=C.blk.lt
  have q3:Wrote w w3 g Nil Nil:=((Wrote.pre a0 p1).trans p2).trans (Wrote.pre a1 p3)
  go_wp2_with fail
  refine bodyPost_ret (v:=ItemV ⟨t,m,false,0,0,zeroCmd⟩ false) ?_ rfl ⟨rfl,(by repeat (first|(with_reducible assumption)|(with_reducible refine Rd.alloc ?_ _)|((with_reducible refine Rd.set ?_ ?_ ?_ _);rotate_left;(focus first|(simp;done)|(simp;omega)|omega);(focus first|(simp;done)|(simp;omega)|omega)))),(by repeat (first|(with_reducible assumption)|(with_reducible refine Wrote.alloc ?_ _)|((with_reducible refine Wrote.set ?_ ?_ _);rotate_left;(focus first|(simp;done)|(simp;omega)|omega))))⟩
  simp [results,Tryz.results226,go_sem,ItemV,zeroCmd,emp, *]
def endOf (ok:Bool) (st:RS):Int:=if st.2=true then 9 else if ok=false∨0<st.1.length then 8 else 0
theorem rend_any (W0:World) (g:Nat) (st:RS) (ok:Bool) (w:World) (h:Rd W0 w g st) :
  Calls Tryz.prog 210 #[.pointer (some ⟨g,0,none⟩),.bool ok] w fun e w'=>e = .returned (.int .i64 (endOf ok st))∧w=w':=by
 obtain ⟨⟨A,m,c,hB,hS⟩,hlow,hgb,hu⟩:=h
 obtain ⟨l,sh⟩:=st
 simp only at hB hS hu
 have hm:l.length=m:=by rw [←hS.len,byteRows_length]
 subst hm
 have hg:=hB.lt
 have hc:=hB.cell
 have hf:=hB.frozen
 cases sh <;> cases ok
 all_goals
  go_enter Tryz.func210,Tryz.ntmps210
  go_wp2_with fail
  all_goals go_ret
  all_goals refine ⟨ret_int ?_,rfl⟩
  all_goals (unfold endOf;(repeat' split) <;> first|rfl|(simp_all;done)|(simp_all;omega))
def zeroItm:Itm:=⟨0,0,false,0,0,zeroCmd⟩
def DecV (x:Itm) (e:Int):Value:=.tuple #[.agg #[.int .i64 x.term,.int .i64 x.time,.bool x.nop,.int .i64 x.client,.int .i64 x.seq,.int .i64 x.cmd.kind,.string x.cmd.key,.string x.cmd.field,.string x.cmd.text,.int .i64 x.cmd.n],.int .i64 e]
def decodeOf (l:List Value):Itm×Int:=
 if endOf (itemRd (l,false)).1.2 (itemRd (l,false)).2≠0 then (zeroItm,endOf (itemRd (l,false)).1.2 (itemRd (l,false)).2)
 else if checkItem (itemRd (l,false)).1.1≠0 then (zeroItm,checkItem (itemRd (l,false)).1.1) else ((itemRd (l,false)).1.1,0)
def DecPost (r:Itm×Int) (w:World) (e:Ending) (w':World):Prop:=e = .returned (DecV r.1 r.2)∧Below w.heap.size w w'
theorem DecodeItem_any (A:Option Addr) (n c:Nat) (l:List Value) (w:World) (hS:Sl w 1 A n c (byteRows l)) (hu:U8s l) (hl:l.length≤20000) :
  Calls Tryz.prog 195 #[.slice A n c] w (DecPost (decodeOf l) w):=by
 have hm:l.length=n:=by rw [←hS.len,byteRows_length]
 subst hm
 unfold decodeOf
 have H1:=fun w' h=>ritem_any w (w.heap.size+1) (l,false) w' h
 generalize itemRd (l,false)=R at H1
 obtain ⟨⟨x,ok⟩,st⟩:=R
 have H2:=fun w' h=>rend_any w (w.heap.size+1) st ok w' h
 simp only at H1 ⊢
 generalize endOf ok st=en at H2
 have K1:=hide H1;have K2:=hide H2
 clear H1 H2
 have h0:Rd w ((w.alloc (.cells #[.int .i64 0,.int .i64 0,.bool false,.int .i64 0,.int .i64 0,.int .i64 0,.string emp,.string emp,.string emp,.int .i64 0] 67)).alloc (.cells #[.slice A l.length c,.bool false] 284)) (w.heap.size+1) (l,false):=
  ⟨⟨A,l.length,c,Blk.new' _ _ _ (by simp),hS⟩,below_by,by omega,hu⟩
 have R:Box ((w.alloc (.cells #[.int .i64 0,.int .i64 0,.bool false,.int .i64 0,.int .i64 0,.int .i64 0,.string emp,.string emp,.string emp,.int .i64 0] 67)).alloc (.cells #[.slice A l.length c,.bool false] 284)) w.heap.size 67 #[.int .i64 0,.int .i64 0,.bool false,.int .i64 0,.int .i64 0,.int .i64 0,.string emp,.string emp,.string emp,.int .i64 0] (w.heap.size+1) Nil:=
  ⟨(Blk.new _ _ _).alloc _,by omega,by simp [Nil,Value.ownBlock]⟩
 have a0:Below w.heap.size w ((w.alloc (.cells #[.int .i64 0,.int .i64 0,.bool false,.int .i64 0,.int .i64 0,.int .i64 0,.string emp,.string emp,.string emp,.int .i64 0] 67)).alloc (.cells #[.slice A l.length c,.bool false] 284)):=below_by
 by_cases he:en=0
 ·rw [if_neg (by simpa using he)]
  subst he
  have hC:=fun w=>CheckItem_any x w
  by_cases hx:checkItem x=0
  ·rw [if_neg (by simpa using hx)]
   rw [hx] at hC
   have HC:=hide hC;clear hC hx
   go_enter Tryz.func195,Tryz.ntmps195
   go_wp2_with fail
   refine (K1.out _ h0).mono ?_
   rintro e w1 ⟨rfl,h1,p1⟩
   unfold ItemV
   replace R:=R.wr p1
   have hz1:w.heap.size<w1.heap.size:=R.blk.lt
   have X1:=Blk.new w1 67 #[.int .i64 x.term,.int .i64 x.time,.bool x.nop,.int .i64 x.client,.int .i64 x.seq,.int .i64 x.cmd.kind,.string x.cmd.key,.string x.cmd.field,.string x.cmd.text,.int .i64 x.cmd.n]
   have hb1:Below w.heap.size w w1:=a0.trans (p1.below (by omega) (by simp [Nil,Value.ownBlock]) (by simp;omega))
   replace R:=R.al (.cells #[.int .i64 x.term,.int .i64 x.time,.bool x.nop,.int .i64 x.client,.int .i64 x.seq,.int .i64 x.cmd.kind,.string x.cmd.key,.string x.cmd.field,.string x.cmd.text,.int .i64 x.cmd.n] 67)
   go_wp2_with fail
   refine (K2.out _ (h1.alloc _)).mono ?_
   rintro e w' ⟨rfl,rfl⟩
   have cX1:=X1.cell
   go_wp2_with fail
   refine (HC.out _).mono ?_
   rintro e w2 ⟨rfl,hb2⟩
   replace R:=R.below hb2
   have X2:=X1.below' hb2
   clear cX1
   (try clear cR fR);have cR:=R.cell;have fR:=R.frozen;(try clear cX2 fX2);have cX2:=X2.cell;have fX2:=X2.frozen
   have hz3:w.heap.size<w2.heap.size:=R.blk.lt
   have hb3:Below w.heap.size w (w1.alloc (.cells #[.int .i64 x.term,.int .i64 x.time,.bool x.nop,.int .i64 x.client,.int .i64 x.seq,.int .i64 x.cmd.kind,.string x.cmd.key,.string x.cmd.field,.string x.cmd.text,.int .i64 x.cmd.n] 67)):=below_by
   have hb4:=bstep hb3 hb2
   have hz2:w1.heap.size<w2.heap.size:=X2.lt
   go_wp2_with fail
   refine bodyPost_ret (v:=DecV x 0) ?_ rfl ⟨rfl,below_by⟩
   simp [results,Tryz.results195,go_sem,DecV, *]
  ·rw [if_pos hx]
   generalize checkItem x=k at hx hC
   have hk:(k == 0)=false:=by simpa using hx
   have HC:=hide hC;clear hC hx
   go_enter Tryz.func195,Tryz.ntmps195
   go_wp2_with fail
   refine (K1.out _ h0).mono ?_
   rintro e w1 ⟨rfl,h1,p1⟩
   unfold ItemV
   replace R:=R.wr p1
   have hz1:w.heap.size<w1.heap.size:=R.blk.lt
   have X1:=Blk.new w1 67 #[.int .i64 x.term,.int .i64 x.time,.bool x.nop,.int .i64 x.client,.int .i64 x.seq,.int .i64 x.cmd.kind,.string x.cmd.key,.string x.cmd.field,.string x.cmd.text,.int .i64 x.cmd.n]
   have hb1:Below w.heap.size w w1:=a0.trans (p1.below (by omega) (by simp [Nil,Value.ownBlock]) (by simp;omega))
   replace R:=R.al (.cells #[.int .i64 x.term,.int .i64 x.time,.bool x.nop,.int .i64 x.client,.int .i64 x.seq,.int .i64 x.cmd.kind,.string x.cmd.key,.string x.cmd.field,.string x.cmd.text,.int .i64 x.cmd.n] 67)
   go_wp2_with fail
   refine (K2.out _ (h1.alloc _)).mono ?_
   rintro e w' ⟨rfl,rfl⟩
   have cX1:=X1.cell
   go_wp2_with fail
   refine (HC.out _).mono ?_
   rintro e w2 ⟨rfl,hb2⟩
   replace R:=R.below hb2
   have X2:=X1.below' hb2
   clear cX1
   (try clear cR fR);have cR:=R.cell;have fR:=R.frozen;(try clear cX2 fX2);have cX2:=X2.cell;have fX2:=X2.frozen
   have hz3:w.heap.size<w2.heap.size:=R.blk.lt
   have hb3:Below w.heap.size w (w1.alloc (.cells #[.int .i64 x.term,.int .i64 x.time,.bool x.nop,.int .i64 x.client,.int .i64 x.seq,.int .i64 x.cmd.kind,.string x.cmd.key,.string x.cmd.field,.string x.cmd.text,.int .i64 x.cmd.n] 67)):=below_by
   have hb4:=bstep hb3 hb2
   go_wp2_with fail
   refine bodyPost_ret (v:=DecV zeroItm k) ?_ rfl ⟨rfl,below_by⟩
   simp [results,Tryz.results195,go_sem,DecV,zeroItm,zeroCmd,emp, *]
 ·rw [if_pos he]
  have hk:(en == 0)=false:=by simpa using he
  go_enter Tryz.func195,Tryz.ntmps195
  go_wp2_with fail
  refine (K1.out _ h0).mono ?_
  rintro e w1 ⟨rfl,h1,p1⟩
  unfold ItemV
  replace R:=R.wr p1
  have cR1:=R.cell
  have fR1:=R.frozen
  have hz1:w.heap.size<w1.heap.size:=R.blk.lt
  go_wp2_with fail
  refine (K2.out _ (h1.alloc _)).mono ?_
  rintro e w' ⟨rfl,rfl⟩
  have hb1:Below w.heap.size w w1:=a0.trans (p1.below (by omega) (by simp [Nil,Value.ownBlock]) (by simp;omega))
  go_wp2_with fail
  refine bodyPost_ret (v:=DecV zeroItm en) ?_ rfl ⟨rfl,below_by⟩
  simp [results,Tryz.results195,go_sem,DecV,zeroItm,zeroCmd,emp, *]
theorem DecodeItem_long (A:Option Addr) (n c:Nat) (w:World) (hl:20000<n) (hn:n≤9223372036854775807) :
  Calls Tryz.prog 195 #[.slice A n c] w (DecPost (zeroItm,1) w):=by
 go_enter Tryz.func195,Tryz.ntmps195
 go_wp2_with fail
 refine bodyPost_ret (v:=DecV zeroItm 1) ?_ rfl ⟨rfl,below_by⟩
 simp [results,Tryz.results195,go_sem,DecV,zeroItm,zeroCmd,emp, *]
def bindR {α β:Type} (P:RS→α×RS) (Q:α→RS→β×RS):RS→β×RS:=fun st=>Q (P st).1 (P st).2
structure Parse {α:Type} (P:RS→α×RS):Prop where
 stick:∀ l,(P (l,true)).2.2=true
 pre:∀ p q:List Value,(P (p ++ q,false)).2.2=false→(P (p,false)).2.2=true∨∃ r,P (p,false)=((P (p ++ q,false)).1,(r,false))∧(P (p ++ q,false)).2.1=r ++ q
theorem Parse.bind {α β:Type} {P:RS→α×RS} {Q:α→RS→β×RS} (hP:Parse P) (hQ:∀ a,Parse (Q a)):Parse (bindR P Q):=by
 have key:∀ (a:α) (st:RS),st.2=true→(Q a st).2.2=true:=fun a st h=>by
  obtain ⟨l,s⟩:=st;simp only at h;subst h;exact (hQ a).stick l
 constructor
 ·intro l
  exact key _ _ (hP.stick l)
 ·intro p q h
  have h1:(P (p ++ q,false)).2.2=false:=by
   cases hs:(P (p ++ q,false)).2.2 with
   | false=>rfl
   | true=>have:=key (P (p ++ q,false)).1 _ hs;unfold bindR at h;rw [this] at h;cases h
  rcases hP.pre p q h1 with h2|⟨r,h2,h3⟩
  ·left;exact key _ _ h2
  ·have e:(P (p ++ q,false)).2=(r ++ q,false):=by
    generalize P (p ++ q,false)=R at h1 h3
    obtain ⟨a,l,s⟩:=R
    simp only at h1 h3
    rw [h1,h3]
   unfold bindR at h ⊢
   rw [e] at h
   rw [h2,e]
   simp only
   exact (hQ _).pre r q h
theorem Parse.map {α β:Type} {P:RS→α×RS} (hP:Parse P) (f:α→β):Parse (fun st=>(f (P st).1,(P st).2)):=by
 constructor
 ·intro l;exact hP.stick l
 ·intro p q h
  rcases hP.pre p q h with h2|⟨r,h2,h3⟩
  ·exact .inl h2
  ·exact .inr ⟨r,by rw [h2],h3⟩
theorem Parse.pure {α:Type} (a:α):Parse (fun st=>(a,st)):=by
 constructor
 ·intro l;rfl
 ·intro p q _;exact .inr ⟨p,rfl,rfl⟩
theorem parse_take (n:Int) (h0:0≤n):Parse (takeR n):=by
 constructor
 ·intro l;simp [takeR]
 ·intro p q h
  have h1:n≤((p ++ q).length:Int):=by
   unfold takeR at h
   split at h
   ·cases h
   ·rename_i hh;simp only [Bool.false_eq_true,false_or] at hh;omega
  have e:takeR n (p ++ q,false)=((p ++ q).take n.toNat,((p ++ q).drop n.toNat,false)):=by
   unfold takeR;rw [if_neg (by simp only [Bool.false_eq_true,false_or];omega)]
  rw [e]
  by_cases hp:n≤(p.length:Int)
  ·right
   refine ⟨p.drop n.toNat,?_,?_⟩
   ·unfold takeR
    rw [if_neg (by simp only [Bool.false_eq_true,false_or];omega),List.take_append_of_le_length (by omega)]
   ·simp only
    rw [List.drop_append_of_le_length (by omega)]
  ·left
   unfold takeR
   rw [if_pos (by right;simp only;omega)]
theorem parse_num:Parse numR:=(parse_take 8 (by omega)).map numOf
theorem parse_small:Parse smallR:=(parse_take 1 (by omega)).map headV
theorem headV_nn (st:RS) (h:U8s st.1):0≤(smallR st).1:=(small_bd h).1
theorem parse_takeN (n:Int):Parse (fun st=>if n<0 then ([],st) else takeR n st):=by
 by_cases h:n<0
 ·simp only [h,if_true];exact Parse.pure _
 ·simp only [h,if_false];exact parse_take n (by omega)
def textRd' (st:RS):ByteArray×RS:=bindR smallR (fun n st=>(strOf (if n<0 then ([],st) else takeR n st).1,(if n<0 then ([],st) else takeR n st).2)) st
theorem textRd_eq {st:RS} (h:U8s st.1):textRd st=textRd' st:=by
 have h0:=headV_nn st h
 have hn:¬ (smallR st).1<0:=by omega
 unfold textRd textRd' bindR
 simp only [hn,if_false]
theorem parse_text:Parse textRd':=Parse.bind parse_small fun n=>(parse_takeN n).map strOf
def cmdRd':RS→Cmd×RS:=bindR smallR fun k=>bindR textRd' fun key=>bindR textRd' fun field=>bindR textRd' fun text=>fun st=>(⟨k,key,field,text,(numR st).1⟩,(numR st).2)
theorem parse_cmd:Parse cmdRd':=Parse.bind parse_small fun _=>Parse.bind parse_text fun _=>Parse.bind parse_text fun _=>Parse.bind parse_text fun _=>parse_num.map _
theorem text_u8 {st:RS} (h:U8s st.1):U8s (textRd st).2.1:=(takeR_u8 (small_bd h).2.2).2
theorem num_u8 {st:RS} (h:U8s st.1):U8s (numR st).2.1:=(takeR_u8 h).2
theorem cmdRd_eq {st:RS} (h:U8s st.1):cmdRd st=cmdRd' st:=by
 have h1:=(small_bd h).2.2
 have h2:=text_u8 h1
 have h3:=text_u8 h2
 unfold cmdRd cmdRd' bindR
 simp only
 rw [←textRd_eq h1,←textRd_eq h2,←textRd_eq h3]
def callRd':RS→CallD×RS:=bindR numR fun c=>if c=0 then (fun st=>(⟨0,0,zeroCmd⟩,st)) else bindR numR fun s=>fun st=>(⟨c,s,(cmdRd' st).1⟩,(cmdRd' st).2)
theorem parse_call:Parse callRd':=Parse.bind parse_num fun c=>by
 by_cases h:c=0
 ·rw [if_pos h];exact Parse.pure _
 ·rw [if_neg h];exact Parse.bind parse_num fun _=>parse_cmd.map _
theorem callRd_eq {st:RS} (h:U8s st.1):callRd st=callRd' st:=by
 have h1:=num_u8 h
 unfold callRd callRd' bindR
 by_cases hc:(numR st).1=0
 ·simp only [hc,if_true]
 ·simp only [hc,if_false,cmdRd_eq (num_u8 h1)]
theorem decode_back {x:Itm} (h:checkItem x=0):decodeOf (itemBytes x)=(x,0):=by
 have hf:=itemRd_bytes h []
 rw [List.append_nil] at hf
 unfold decodeOf
 rw [hf]
 simp [endOf,h]
theorem takeR_s {n:Int} {st:RS} (h:(takeR n st).2.2=false):st.2=false∧n≤st.1.length∧takeR n st=(st.1.take n.toNat,(st.1.drop n.toNat,false)):=by
 unfold takeR at h ⊢
 split at h
 ·cases h
 ·rename_i hh
  have h1:=hh
  simp only [not_or,Bool.not_eq_true,Int.not_lt] at h1
  exact ⟨h1.1,h1.2,by rw [if_neg hh]⟩
theorem take_fix {n:Int} {st:RS} (h:(takeR n st).2.2=false) (h0:0≤n):st.1=(takeR n st).1 ++ (takeR n st).2.1∧((takeR n st).1.length:Int)=n:=by
 obtain ⟨h1,h2,h3⟩:=takeR_s h
 rw [h3]
 refine ⟨(List.take_append_drop _ _).symm,?_⟩
 simp only [List.length_take];omega
theorem textRd_s {st:RS} (h:(textRd st).2.2=false):(smallR st).2.2=false∧st.2=false:=by
 have h1:=(takeR_s (n:=(smallR st).1) (st:=(smallR st).2) h).1
 exact ⟨h1,(takeR_s (n:=1) h1).1⟩
theorem small_fix {st:RS} (hu:U8s st.1) (h:(smallR st).2.2=false):st.1=u8 (smallR st).1 :: (smallR st).2.1:=by
 obtain ⟨h1,h2⟩:=take_fix (n:=1) (st:=st) h (by omega)
 have h3:=(takeR_u8 (n:=1) hu).1
 unfold smallR
 generalize takeR 1 st=R at h1 h2 h3
 obtain ⟨b,r⟩:=R
 simp only at h1 h2 h3 ⊢
 match b,h2,h3,h1 with
 | [x],_,h3,h1=>
  obtain ⟨n,rfl,_⟩:=h3 x (by simp)
  simpa [headV,intv,u8] using h1
 | [],h2,_,_=>simp at h2
 | _ :: _ :: _,h2,_,_=>simp at h2;omega
theorem strCells_of {b:List Value} (h:U8s b):strCells (strOf b)=b:=by
 unfold strCells strOf
 simp only [List.map_map]
 conv=>rhs;rw [←List.map_id b]
 apply List.map_congr_left
 intro v hv
 obtain ⟨n,rfl,n0,n1⟩:=h v hv
 simp only [Function.comp,intv,id]
 congr 1
 simp only [UInt8.toNat_ofNat']
 omega
theorem text_fix {st:RS} (hu:U8s st.1) (h:(textRd st).2.2=false):st.1=txt (textRd st).1 ++ (textRd st).2.1:=by
 obtain ⟨h1,_⟩:=textRd_s h
 obtain ⟨s0,s1,s2⟩:=small_bd hu
 have e1:=small_fix hu h1
 obtain ⟨e2,e3⟩:=take_fix (n:=(smallR st).1) (st:=(smallR st).2) h s0
 have h3:=(takeR_u8 (n:=(smallR st).1) s2).1
 unfold textRd
 rw [e1,e2]
 generalize takeR (smallR st).1 (smallR st).2=R at e2 e3 h3
 obtain ⟨b,r⟩:=R
 simp only at e2 e3 h3 ⊢
 have e4:((strOf b).size:Int)=(smallR st).1:=by rw [←e3];simp [strOf,ByteArray.size]
 simp only [txt,e4,strCells_of h3]
 simp
theorem num8_be {b:List Value} (hu:U8s b) (hl:b.length=8):num8 (beR b - 4611686018427387904)=b:=by
 match b,hl,hu with
 | [v0,v1,v2,v3,v4,v5,v6,v7],_,hu=>
  obtain ⟨n0,rfl,a0,b0⟩:=hu v0 (by simp)
  obtain ⟨n1,rfl,a1,b1⟩:=hu v1 (by simp)
  obtain ⟨n2,rfl,a2,b2⟩:=hu v2 (by simp)
  obtain ⟨n3,rfl,a3,b3⟩:=hu v3 (by simp)
  obtain ⟨n4,rfl,a4,b4⟩:=hu v4 (by simp)
  obtain ⟨n5,rfl,a5,b5⟩:=hu v5 (by simp)
  obtain ⟨n6,rfl,a6,b6⟩:=hu v6 (by simp)
  obtain ⟨n7,rfl,a7,b7⟩:=hu v7 (by simp)
  simp only [beR,intv,List.foldl_cons,List.foldl_nil]
  rw [show (0*256+n0) % 18446744073709551616=n0 by omega]
  obtain ⟨e1,h1⟩:∃ e,e=n0*256+n1:=⟨_,rfl⟩
  rw [show (n0*256+n1) % 18446744073709551616=e1 by omega]
  obtain ⟨e2,h2⟩:∃ e,e=e1*256+n2:=⟨_,rfl⟩
  rw [show (e1*256+n2) % 18446744073709551616=e2 by omega]
  obtain ⟨e3,h3⟩:∃ e,e=e2*256+n3:=⟨_,rfl⟩
  rw [show (e2*256+n3) % 18446744073709551616=e3 by omega]
  obtain ⟨e4,h4⟩:∃ e,e=e3*256+n4:=⟨_,rfl⟩
  rw [show (e3*256+n4) % 18446744073709551616=e4 by omega]
  obtain ⟨e5,h5⟩:∃ e,e=e4*256+n5:=⟨_,rfl⟩
  rw [show (e4*256+n5) % 18446744073709551616=e5 by omega]
  obtain ⟨e6,h6⟩:∃ e,e=e5*256+n6:=⟨_,rfl⟩
  rw [show (e5*256+n6) % 18446744073709551616=e6 by omega]
  obtain ⟨e7,h7⟩:∃ e,e=e6*256+n7:=⟨_,rfl⟩
  rw [show (e6*256+n7) % 18446744073709551616=e7 by omega]
  unfold num8
  rw [show e7 - 4611686018427387904+4611686018427387904=e7 by omega]
  rw [show e7 / 256=e6 by omega,show e7 / 65536=e5 by omega,show e7 / 16777216=e4 by omega,show e7 / 4294967296=e3 by omega,show e7 / 1099511627776=e2 by omega,show e7 / 281474976710656=e1 by omega,show e7 / 72057594037927936=n0 by omega]
  rw [show n0 % 256=n0 by omega,show e1 % 256=n1 by omega,show e2 % 256=n2 by omega,show e3 % 256=n3 by omega,show e4 % 256=n4 by omega,show e5 % 256=n5 by omega,show e6 % 256=n6 by omega,show e7 % 256=n7 by omega]
  rfl
theorem numOf_be {b:List Value} (h1 : -1099511627776≤numOf b) (h2:numOf b≤1099511627776):numOf b=beR b - 4611686018427387904:=by
 have hb:=be_bd b
 unfold numOf at h1 h2 ⊢
 generalize beR b=B at hb h1 h2
 rw [IntKind.wrap_u64,←wrap64_i64] at h1 h2 ⊢
 unfold wrap64 at h1 h2 ⊢
 omega
theorem num_fix {st:RS} (hu:U8s st.1) (h:(numR st).2.2=false) (h1 : -1099511627776≤(numR st).1) (h2:(numR st).1≤1099511627776):st.1=num8 (numR st).1 ++ (numR st).2.1:=by
 obtain ⟨e1,e2⟩:=take_fix (n:=8) (st:=st) h (by omega)
 have h3:=(takeR_u8 (n:=8) hu).1
 unfold numR at h1 h2 ⊢
 simp only at h1 h2 ⊢
 rw [numOf_be h1 h2,num8_be h3 (by omega)]
 exact e1
theorem cmd_fix {st:RS} (hu:U8s st.1) (h:(cmdRd st).2.2=false) (h1 : -1099511627776≤(cmdRd st).1.n) (h2:(cmdRd st).1.n≤1099511627776):st.1=cmdBytes (cmdRd st).1 ++ (cmdRd st).2.1:=by
 have u1:=(small_bd hu).2.2
 have u2:=text_u8 u1
 have u3:=text_u8 u2
 have u4:=text_u8 u3
 unfold cmdRd at h h1 h2 ⊢
 simp only at h h1 h2 ⊢
 have f4:=(takeR_s (n:=8) h).1
 have f3:=(textRd_s f4).2
 have f2:=(textRd_s f3).2
 have f1:=(textRd_s f2).2
 have e0:=small_fix hu f1
 have e1:=text_fix u1 f2
 have e2:=text_fix u2 f3
 have e3:=text_fix u3 f4
 have e4:=num_fix u4 h h1 h2
 unfold cmdBytes
 simp only
 conv=>lhs;rw [e0,e1,e2,e3,e4]
 simp
theorem call_fix {st:RS} (hu:U8s st.1) (h:(callRd st).2.2=false) (c1:0≤(callRd st).1.client) (c2:(callRd st).1.client≤1048576) (s1:0≤(callRd st).1.seq) (s2:(callRd st).1.seq≤1048576)
  (h1 : -1099511627776≤(callRd st).1.cmd.n) (h2:(callRd st).1.cmd.n≤1099511627776):st.1=callBytes (callRd st).1.client (callRd st).1.seq (callRd st).1.cmd ++ (callRd st).2.1:=by
 have u1:=num_u8 hu
 have u2:=num_u8 u1
 by_cases hc:(numR st).1=0
 ·have e:callRd st=(⟨0,0,zeroCmd⟩,(numR st).2):=by unfold callRd;rw [if_pos hc]
  rw [e] at h ⊢
  have e4:=num_fix hu h (by omega) (by omega)
  rw [hc] at e4
  simpa [callBytes] using e4
 ·have e:callRd st=(⟨(numR st).1,(numR (numR st).2).1,(cmdRd (numR (numR st).2).2).1⟩,(cmdRd (numR (numR st).2).2).2):=by unfold callRd;rw [if_neg hc]
  rw [e] at h c1 c2 s1 s2 h1 h2 ⊢
  simp only at h c1 c2 s1 s2 h1 h2 ⊢
  have f2:(numR (numR st).2).2.2=false:=by
   unfold cmdRd at h
   simp only at h
   exact (textRd_s (textRd_s (textRd_s (takeR_s (n:=8) h).1).2).2).2 |> fun q=>(takeR_s (n:=1) q).1
  have f1:=(takeR_s (n:=8) f2).1
  have e1:=num_fix hu f1 (by omega) (by omega)
  have e2:=num_fix u1 f2 (by omega) (by omega)
  have e3:=cmd_fix u2 h h1 h2
  unfold callBytes
  rw [if_pos (by omega)]
  conv=>lhs;rw [e1,e2,e3]
  simp
theorem item_fix {l:List Value} (hu:U8s l) {x:Itm} (h:itemRd (l,false)=((x,true),([],false))) (hx:checkItem x=0):itemBytes x=l:=by
 have hf:=item_fits hx
 have t1:=hf.t1;have t2:=hf.t2;have i1:=hf.i1;have i2:=hf.i2;have a1:=hf.a1;have a2:=hf.a2;have s1:=hf.s1;have s2:=hf.s2
 have n0:=hf.cmd.n0;have n1:=hf.cmd.n1
 have hul:U8s ((l,false):RS).1:=hu
 have u1:=num_u8 hul
 have u2:=num_u8 u1
 have u3:=(small_bd u2).2.2
 unfold itemRd at h
 split at h
 ·rename_i hk
  simp only [Prod.mk.injEq] at h
  obtain ⟨⟨hx1,_⟩,hr1⟩:=h
  subst hx1
  simp only at t1 t2 i1 i2 a1 a2 s1 s2 n0 n1
  have hr:(callRd (smallR (numR (numR (l,false)).2).2).2).2.2=false:=by rw [hr1]
  have f3:(smallR (numR (numR (l,false)).2).2).2.2=false:=by
   cases hs:(smallR (numR (numR (l,false)).2).2).2.2 with
   | false=>rfl
   | true=>
    have h9:=parse_call.stick (smallR (numR (numR (l,false)).2).2).2.1
    rw [callRd_eq u3] at hr
    have e:(smallR (numR (numR (l,false)).2).2).2=((smallR (numR (numR (l,false)).2).2).2.1,true):=by rw [←hs]
    rw [e,h9] at hr
    cases hr
  have f2:=(takeR_s (n:=1) f3).1
  have f1:=(takeR_s (n:=8) f2).1
  have e1:=num_fix hul f1 (by omega) (by omega)
  have e2:=num_fix u1 f2 (by omega) (by omega)
  have e3:=small_fix u2 f3
  have e4:=call_fix u3 hr a1 a2 s1 s2 n0 n1
  rw [hr1,List.append_nil] at e4
  rw [hk] at e3
  unfold itemBytes
  simp only [Bool.false_eq_true,if_false]
  have e1':l=num8 (numR (l,false)).1 ++ (numR (l,false)).2.1:=e1
  conv=>rhs;rw [e1',e2,e3,e4]
  simp
 ·split at h
  ·rename_i hk hk1
   simp only [Prod.mk.injEq] at h
   obtain ⟨⟨hx1,_⟩,hr1⟩:=h
   subst hx1
   simp only at t1 t2 i1 i2
   have f3:(smallR (numR (numR (l,false)).2).2).2.2=false:=by rw [hr1]
   have f2:=(takeR_s (n:=1) f3).1
   have f1:=(takeR_s (n:=8) f2).1
   have e1:=num_fix hul f1 (by omega) (by omega)
   have e2:=num_fix u1 f2 (by omega) (by omega)
   have e3:=small_fix u2 f3
   rw [hk1,hr1] at e3
   unfold itemBytes
   simp only [if_true]
   have e1':l=num8 (numR (l,false)).1 ++ (numR (l,false)).2.1:=e1
   conv=>rhs;rw [e1',e2,e3]
   simp
  ·simp only [Prod.mk.injEq] at h
   exact absurd h.1.2 (by decide)
theorem decode_fix {l:List Value} (hu:U8s l) (h:(decodeOf l).2=0):checkItem (decodeOf l).1=0∧itemBytes (decodeOf l).1=l:=by
 unfold decodeOf at h ⊢
 split at h
 ·rename_i hh;exact absurd h hh
 ·rename_i hh
  rw [if_neg hh]
  split at h
  ·rename_i h2;exact absurd h h2
  ·rename_i h2
   rw [if_neg h2]
   have h2:checkItem (itemRd (l,false)).1.1=0:=Decidable.byContradiction h2
   have hh:endOf (itemRd (l,false)).1.2 (itemRd (l,false)).2=0:=Decidable.byContradiction hh
   refine ⟨h2,item_fix hu ?_ h2⟩
   generalize itemRd (l,false)=R at hh h2
   obtain ⟨⟨x,ok⟩,r,s⟩:=R
   simp only at hh h2 ⊢
   unfold endOf at hh
   simp only at hh
   split at hh
   ·cases hh
   ·rename_i q1
    split at hh
    ·cases hh
    ·rename_i q2
     simp only [not_or,Bool.not_eq_false,Nat.not_lt,Nat.le_zero_eq] at q2
     have:s=false:=by simpa using q1
     rw [q2.1,this,List.eq_nil_of_length_eq_zero q2.2]
end Go.Proofs.YtgdcofbnbiclmaaGreatDoor

