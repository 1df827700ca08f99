import Derived.Test.YtgdcofbnbiclmaaGreatDoorQBase
import Derived.StillTailTactics
import Derived.Test.YtgdcofbnbiclmaaGreatDoorQOwn
import Derived.Maps.AppendAt
import Derived.Lib.AppendStr
import Derived.Deep.RegionLaw
import Derived.Test.YtgdcofbnbiclmaaGreatDoorProg
namespace Go.Proofs.YtgdcofbnbiclmaaGreatDoor
set_option linter.all false
set_option maxHeartbeats 32000000
open Go.RowKit
structure Wrote (w w':World) (g:Nat) (v v':Value):Prop where
 os:w'.os=w.os
 tape:w'.tape=w.tape
 output:w'.output=w.output
 size:w.heap.size≤w'.heap.size
 block:∀ b,b<w.heap.size→b≠g→some b≠v.ownBlock→w'.heap[b]?=w.heap[b]?
 row:v'.ownBlock=v.ownBlock∨∃ r,v'.ownBlock=some r∧w.heap.size≤r
section
variable {w w0 w1 w2 w':World} {g:Nat} {v v1 v2 v':Value}
theorem Wrote.refl (w:World) (g:Nat) (v:Value):Wrote w w g v v:=⟨rfl,rfl,rfl,Nat.le_refl _,fun _ _ _ _=>rfl,.inl rfl⟩
theorem Wrote.trans (h:Wrote w w1 g v v1) (k:Wrote w1 w2 g v1 v2):Wrote w w2 g v v2:=by
 have hs:=h.size
 refine ⟨k.os.trans h.os,k.tape.trans h.tape,k.output.trans h.output,Nat.le_trans hs k.size,fun b hb hg hv=>(k.block b (by omega) hg ?_).trans (h.block b hb hg hv),?_⟩
 ·rcases h.row with e|⟨r,e,hr⟩
  ·rw [e];exact hv
  ·rw [e];intro hh;injection hh with hh;omega
 ·rcases k.row with e|⟨r,e,hr⟩
  ·rw [e];exact h.row
  ·exact .inr ⟨r,e,by omega⟩
theorem Wrote.pre (hb:Below w.heap.size w w1) (k:Wrote w1 w2 g v v2):Wrote w w2 g v v2:=by
 have hs:=hb.size
 refine ⟨k.os.trans hb.os,k.tape.trans hb.tape,k.output.trans hb.output,Nat.le_trans hs k.size,fun b hlt hg hv=>(k.block b (by omega) hg hv).trans (hb.block b hlt),?_⟩
 rcases k.row with e|⟨r,e,hr⟩
 ·exact .inl e
 ·exact .inr ⟨r,e,by omega⟩
theorem Wrote.post (h:Wrote w w1 g v v1) (hb:Below w1.heap.size w1 w2):Wrote w w2 g v v1:=by
 have hs:=h.size
 exact ⟨hb.os.trans h.os,hb.tape.trans h.tape,hb.output.trans h.output,Nat.le_trans hs hb.size,fun b hlt hg hv=>(hb.block b (by omega)).trans (h.block b hlt hg hv),h.row⟩
theorem Wrote.below {B:Nat} (h:Wrote w w' g v v') (hg:B≤g) (hv:∀ k,v.ownBlock=some k→B≤k) (hB:B≤w.heap.size):Below B w w':=
 ⟨h.os,h.tape,h.output,h.size,fun k hk=>h.block k (by omega) (by omega) (fun e=>by have:=hv k e.symm;omega)⟩
theorem Blk.wrote {b:Nat} {t:TypeId} {cs:Array Value} (h:Blk w b t cs) (k:Wrote w w' g v v') (hg:b≠g) (hv:some b≠v.ownBlock):Blk w' b t cs:=(k.block b h.lt hg hv).trans h
end
structure Wr (w:World) (T e:TypeId) (g base:Nat) (v:Value) (bs:List Value):Prop where
 blk:Blk w g T #[v]
 own:w.ownsRow base e 1 v bs.length bs
 gb:g<base
section
variable {w w0 w1 w2 w':World} {T e:TypeId} {g base:Nat} {v v1 v2 v':Value} {bs bs':List Value}
theorem Wr.lt (h:Wr w T e g base v bs):g<w.heap.size:=h.blk.lt
theorem Wr.below (h:Wr w T e g base v bs) (hb:Below w.heap.size w w'):Wr w' T e g base v bs:=
 ⟨h.blk.below' hb,h.own.kept (row:=none) ⟨hb.os,hb.tape,hb.output,hb.size,fun k hk _=>hb.block k hk⟩ (by cases v.ownBlock <;> simp),h.gb⟩
theorem Wr.alloc (h:Wr w T e g base v bs) (o:Obj):Wr (w.alloc o) T e g base v bs:=h.below ((Below.refl _ w).alloc (Nat.le_refl _) o)
theorem owns_slice {n:Nat} {xs:List Value} (h:w.ownsRow base e 1 v n xs):∃ A c,v = .slice A n c:=by
 rcases h.2 with ⟨rfl,rfl⟩|⟨g,cap,cur,rfl,_⟩
 ·exact ⟨_,_,rfl⟩
 ·exact ⟨_,_,rfl⟩
theorem Wr.drew (h:Wr w T e g base v bs):Wr w.drew T e g base v bs:=⟨h.blk,h.own,h.gb⟩
theorem Wr.cell (h:Wr w T e g base v bs):w.cell? ⟨g,0,none⟩=some v:=by rw [h.blk.cell];rfl
theorem Wr.frozen (h:Wr w T e g base v bs):w.frozen? ⟨g,0,none⟩=false:=h.blk.frozen 0
theorem Wr.row_lt (h:Wr w T e g base v bs) {k:Nat} (hk:v.ownBlock=some k):base≤k∧k<w.heap.size:=h.own.lt k hk
theorem Wr.apart (h:Wr w T e g base v bs) {b:Nat} (hb:w.heap.size≤b):b≠g∧some b≠v.ownBlock:=by
 refine ⟨by have:=h.lt;omega,fun e=>?_⟩
 have:=(h.row_lt e.symm).2
 omega
theorem Wr.push {n:Nat} {xs:List Value} (h:Wr w T e g base v bs) (h0:Below w.heap.size w w0) (hgrow:w0.grownBy w1 v.ownBlock) (hown:w1.ownsRow base e 1 v' n xs) (hat:v'.ownBlock=v.ownBlock∨v'.ownBlock=some w0.heap.size)
  (he:xs=bs') (hn:n=bs'.length):Wr (w1.setCell ⟨g,0,none⟩ v') T e g base v' bs'∧Wrote w (w1.setCell ⟨g,0,none⟩ v') g v v':=by
 subst he;subst hn
 have hs:=h0.size
 have hs2:=hgrow.size
 have hlt:=h.lt
 have hne:some g≠v.ownBlock:=fun e=>by have:=(h.row_lt e.symm).1;have:=h.gb;omega
 have hb1:Blk w1 g T #[v]:=(h.blk.below' h0).grown hgrow hne
 have hgv:∀ k,v'.ownBlock=some k→k≠g:=fun k hk=>by have:=(hown.lt k hk).1;have:=h.gb;omega
 refine ⟨⟨hb1.set' (by simp),?_,h.gb⟩,?_⟩
 ·refine hown.kept (row:=some g) ⟨rfl,rfl,rfl,by simp,fun k _ hk=>Below.heap_setCell w1 _ _ k (fun e=>hk (by simp [e]))⟩ ?_
  cases hv:v'.ownBlock with
  | none=>exact .inl rfl
  | some k=>exact .inr (fun e=>by injection e with e;exact hgv k hv e)
 ·refine ⟨hgrow.os.trans h0.os,hgrow.tape.trans h0.tape,hgrow.output.trans h0.output,by simp;omega,fun b hb hg hv=>?_,?_⟩
  ·rw [Below.heap_setCell w1 _ _ b (by simpa using hg),hgrow.block b (by omega) hv]
   exact h0.block b hb
  ·rcases hat with e|e
   ·exact .inl e
   ·exact .inr ⟨_,e,hs⟩
end
structure Box (w:World) (b:Nat) (t:TypeId) (cs:Array Value) (g:Nat) (v:Value):Prop where
 blk:Blk w b t cs
 ng:b≠g
 nv:some b≠v.ownBlock
section
variable {w w':World} {T e t:TypeId} {g base b:Nat} {v v':Value} {bs cs':List Value} {cs:Array Value}
theorem Box.new (h:Wr w T e g base v bs) (t:TypeId) (cs:Array Value):Box (w.alloc (.cells cs t)) w.heap.size t cs g v:=
 ⟨Blk.new w t cs,(h.apart (Nat.le_refl _)).1,(h.apart (Nat.le_refl _)).2⟩
theorem Box.wr (h:Box w b t cs g v) (k:Wrote w w' g v v'):Box w' b t cs g v':=by
 refine ⟨h.blk.wrote k h.ng h.nv,h.ng,?_⟩
 rcases k.row with e|⟨r,e,hr⟩
 ·rw [e];exact h.nv
 ·rw [e];intro hh;injection hh with hh;have:=h.blk.lt;omega
theorem Box.below (h:Box w b t cs g v) (k:Below w.heap.size w w'):Box w' b t cs g v:=⟨h.blk.below' k,h.ng,h.nv⟩
theorem Box.cell (h:Box w b t cs g v) (i:Nat):w.cell? ⟨b,i,none⟩=cs[i]?:=h.blk.cell i
theorem Box.frozen (h:Box w b t cs g v) (i:Nat):w.frozen? ⟨b,i,none⟩=false:=h.blk.frozen i
end
section
variable {P:Program} (w:World)
open Go.Lib
theorem run_append_str_at (base:Nat) (t u ty e:TypeId) (i:TypeInfo) (ht:P.underlying t=some (.slice e)) (hu:P.underlying u=some .string) (hi:P.info? e=some i) (hz:i.zero=some (.int .u8 0))
  (hsize:i.size=1) (hby:i.bytes=1) (v:Value) (n:Nat) (xs:List Value) (hown:w.ownsRow base e 1 v n xs) (s:ByteArray) (h63:n+s.size≤maxLen) (hbytes:n+s.size≤140737488355328) (hbase:base≤w.heap.size) :
  ∃ v' w',(Builtin.append_ #[t,u] ty #[v,.string s]).run P w = .ok v' w'∧w'.ownsRow base e 1 v' (n+s.size) (xs ++ strCells s)∧w.grownBy w' v.ownBlock∧(v'.ownBlock=v.ownBlock∨v'.ownBlock=some w.heap.size):=by
 obtain ⟨v',w',h1,h2,h3,_⟩:=run_append_own_string (P:=P) w base t u ty e i ht hu hi hz hsize hby v n xs hown s h63 hbytes hbase
 refine ⟨v',w',h1,h2,h3,?_⟩
 have hsmall:n+s.size≤9223372036854775807:=by simp only [maxLen] at h63;omega
 rcases hown.2 with ⟨rfl,rfl⟩|⟨g,cap,cur,rfl,hbg,hg,hnc,hcm,hcs,htake⟩
 ·by_cases hm:s.size=0
  ·have hf:=run_firstCells_string (P:=P) w 1 s
   rw [hm] at hf
   have:(Builtin.append_ #[t,u] ty #[.slice none 0 0,.string s]).run P w = .ok (.slice none 0 0) w:=by
    simp [Builtin.append_,run_underlying ht,run_underlying hu,sizeOf,typeInfo,hi,hsize,Builtin.lenOf,hm,hf]
   rw [this] at h1
   injection h1 with h1 _
   exact .inl (by rw [←h1])
  ·have hr:=run_append_nil_string (P:=P) w t u ty e i (.int .u8 0) ht hu hi hz s (by omega) (by omega) (by rw [hby];omega)
   rw [hr] at h1
   injection h1 with h1 _
   exact .inr (by rw [←h1];rfl)
 ·by_cases hroom:n+s.size≤cap
  ·have hcs':cur.size=cap:=by simpa using hcs
   have hr:=run_append_room_string (P:=P) w t u ty e i ht hu hi hsize g n cap cur hg s hroom (by omega)
   rw [hr] at h1
   injection h1 with h1 _
   exact .inl (by rw [←h1];rfl)
  ·have hxl:xs.length=n:=by simpa using hown.1
   have hr:=run_append_grow_string (P:=P) w t u ty e i (.int .u8 0) ht hu hi hz ⟨g,0,none⟩ n cap xs (by rw [hsize];simpa using hxl) (hown.cells (g:=g) rfl) s (by omega) (by omega) (by rw [hby];exact growslice_fits (by omega) (by omega))
   rw [hr] at h1
   injection h1 with h1 _
   exact .inr (by rw [←h1];rfl)
end
section
variable {P:Program} {w:World} {ops:Array Oper} {rest:List Oper} {o:Oper} {a:Act} {Q:Exit→Act→World→Prop} {T e:TypeId} {g base:Nat} {v:Value} {bs:List Value}
open Go.Lib
theorem wpList_wr_str (hgd:o.guard=none) (sl x:Operand) (t u:TypeId) (ho:o.op = .call { callee:=.builtin .append,args:=#[sl,x],argTypes:=#[t,u] })
  (ht:P.underlying t=some (.slice e)) (hu:P.underlying u=some .string) (hi:(P.info? e).map (fun i=>(i.zero,i.size,i.bytes))=some (some (.int .u8 0),1,1))
  (h:Wr w T e g base v bs) (hs:a.eval sl=v) (s:ByteArray) (hx:a.eval x = .string s) (hlen:bs.length+s.size≤100000000) (hbase:base≤w.heap.size)
  (hK:∀ A c w',Wr (w'.setCell ⟨g,0,none⟩ (.slice A (bs.length+s.size) c)) T e g base (.slice A (bs.length+s.size) c) (bs ++ strCells s)→Wrote w (w'.setCell ⟨g,0,none⟩ (.slice A (bs.length+s.size) c)) g v (.slice A (bs.length+s.size) c)→w'.frozen? ⟨g,0,none⟩=false→w'.cell? ⟨g,0,none⟩=some v→wpList P ops Q rest (a.put o.dst (.slice A (bs.length+s.size) c)) w') :
  wpList P ops Q (o :: rest) a w:=by
 obtain ⟨i,hi1,hi2,hi3,hi4⟩:=info_parts hi
 refine wpList_plain hgd fun K hK'=>?_
 obtain ⟨v',w',hr,h2,h3,h4⟩:=run_append_str_at (P:=P) w base t u o.type e i ht hu hi1 hi2 hi3 hi4 v bs.length bs h.own s (by unfold maxLen;omega) (by omega) hbase
 have hp:=h.push (Below.refl _ w) h3 h2 h4 rfl (by rw [List.length_append,strCells_length])
 have hne:some g≠v.ownBlock:=fun e=>by have:=(h.row_lt e.symm).1;have:=h.gb;omega
 have hb1:Blk w' g T #[v]:=h.blk.grown h3 hne
 unfold Oper.wp execOp
 simp only [ho,resolve,invoke,builtin,Sem.run_bind,Sem.run_pure,Result.andThen_ok,List.map_toArray,List.map_cons,List.map_nil,hs,hx,hr]
 obtain ⟨A,c,rfl⟩:=owns_slice h2
 exact hK' _ _ (hK A c w' hp.1 hp.2 (hb1.frozen 0) (by rw [hb1.cell];rfl))
theorem wpList_wr_push (hgd:o.guard=none) (s x:Operand) (t:TypeId) (ho:o.op = .call { callee:=.builtin .append,args:=#[s,x],argTypes:=#[t,t] })
  (ht:P.underlying t=some (.slice e)) (hi:(P.info? e).map (fun i=>(i.zero,i.size,i.bytes))=some (some (.int .u8 0),1,1))
  (h:Wr w T e g base v bs) (hs:a.eval s=v) {H:Nat} (hH:w.heap.size=H) {y:Value} (hx:a.eval x = .slice (some ⟨H,0,none⟩) 1 1) (h1:y.oneCell'=true) (hlen:bs.length+1≤100000000) (hbase:base≤w.heap.size)
  (hK:∀ A c w',Wr (w'.setCell ⟨g,0,none⟩ (.slice A (bs.length+1) c)) T e g base (.slice A (bs.length+1) c) (bs ++ [y])→Wrote w (w'.setCell ⟨g,0,none⟩ (.slice A (bs.length+1) c)) g v (.slice A (bs.length+1) c)→w'.frozen? ⟨g,0,none⟩=false→w'.cell? ⟨g,0,none⟩=some v→wpList P ops Q rest (a.put o.dst (.slice A (bs.length+1) c)) w') :
  wpList P ops Q (o :: rest) a (w.alloc (.cells #[y] e)):=by
 subst hH
 obtain ⟨i,hi1,hi2,hi3,hi4⟩:=info_parts hi
 refine wpList_append_own_at _ hgd s x t ho base e i _ 1 1 ht hi1 hi2 hi3 hi4 rfl (by omega) v bs.length bs hs (h.alloc _).own ⟨w.heap.size,0,none⟩ 1 1 [y] hx rfl (cell_one_new _ _ _) (by simpa using h1) (by unfold maxLen;omega) (by omega) (by simp;omega) ?_
 intro v' w' h2 h3 _ h4
 have hp:=h.push ((Below.refl _ w).alloc (Nat.le_refl _) _) h3 h2 h4 (bs':=bs ++ [y]) rfl (by simp)
 have hne:some g≠v.ownBlock:=fun e=>by have:=(h.row_lt e.symm).1;have:=h.gb;omega
 have hb1:Blk w' g T #[v]:=(h.blk.alloc _).grown h3 hne
 obtain ⟨A,c,rfl⟩:=owns_slice h2
 exact hK A c w' hp.1 hp.2 (hb1.frozen 0) (by rw [hb1.cell];rfl)
theorem step_wr_push {K:Act→World→Prop} {E:Prop} (hgd:o.guard=none) (s x:Operand) (t:TypeId) (ho:o.op = .call { callee:=.builtin .append,args:=#[s,x],argTypes:=#[t,t] })
  (ht:P.underlying t=some (.slice e)) (hi:(P.info? e).map (fun i=>(i.zero,i.size,i.bytes))=some (some (.int .u8 0),1,1))
  (h:Wr w T e g base v bs) (hs:a.eval s=v) {H:Nat} (hH:w.heap.size=H) {y:Value} (hx:a.eval x = .slice (some ⟨H,0,none⟩) 1 1) (h1:y.oneCell'=true) (hlen:bs.length+1≤100000000) (hbase:base≤w.heap.size)
  (hK:∀ A c w',Wr (w'.setCell ⟨g,0,none⟩ (.slice A (bs.length+1) c)) T e g base (.slice A (bs.length+1) c) (bs ++ [y])→Wrote w (w'.setCell ⟨g,0,none⟩ (.slice A (bs.length+1) c)) g v (.slice A (bs.length+1) c)→w'.frozen? ⟨g,0,none⟩=false→w'.cell? ⟨g,0,none⟩=some v→K (a.put o.dst (.slice A (bs.length+1) c)) w') :
  if Region.wanted o (yielded ops a.tmps)=true then Oper.wp P o a (w.alloc (.cells #[y] e)) K Q else E:=by
 have hw:Region.wanted o (yielded ops a.tmps)=true:=by simp [Region.wanted,hgd]
 rw [if_pos hw]
 subst hH
 obtain ⟨i,hi1,hi2,hi3,hi4⟩:=info_parts hi
 obtain ⟨v',w',hr,h2,h3,_,h4⟩:=run_append_own_at (P:=P) (w.alloc (.cells #[y] e)) base t o.type e i _ 1 1 ht hi1 hi2 hi3 hi4 (by rfl) (by omega) v bs.length bs (h.alloc _).own ⟨w.heap.size,0,none⟩ 1 1 [y] rfl (cell_one_new _ _ _) (by simpa using h1) (by unfold maxLen;omega) (by omega) (by simp;omega)
 have hp:=h.push ((Below.refl _ w).alloc (Nat.le_refl _) _) h3 h2 h4 (bs':=bs ++ [y]) rfl (by simp)
 have hne:some g≠v.ownBlock:=fun e=>by have:=(h.row_lt e.symm).1;have:=h.gb;omega
 have hb1:Blk w' g T #[v]:=(h.blk.alloc _).grown h3 hne
 obtain ⟨A,c,rfl⟩:=owns_slice h2
 unfold Oper.wp execOp
 simp only [ho,resolve,invoke,builtin,Sem.run_bind,Sem.run_pure,Result.andThen_ok,List.map_toArray,List.map_cons,List.map_nil,hs,hx,hr]
 exact hK A c w' hp.1 hp.2 (hb1.frozen 0) (by rw [hb1.cell];rfl)
end
end Go.Proofs.YtgdcofbnbiclmaaGreatDoor
namespace Go.Proofs.YtgdcofbnbiclmaaGreatDoor
set_option linter.all false
set_option maxHeartbeats 32000000
open Go.RowKit Go.Lib
theorem u8_info:(Tryz.prog.info? 5).map (fun i=>(i.zero,i.size,i.bytes))=some (some (.int .u8 0),1,1):=by kernel_rfl
def WrT (w:World) (g base:Nat) (v:Value) (bs:List Value):Prop:=Wr w 279 5 g base v bs
theorem WrT.to {w:World} {g base:Nat} {v:Value} {bs bs':List Value} (h:WrT w g base v bs) (e:bs=bs'):WrT w g base v bs':=e ▸ h
def Writes (w:World) (g base:Nat) (v:Value) (bs:List Value) (e:Ending) (w':World):Prop:=
 e = .returned (.tuple #[])∧∃ A n c,WrT w' g base (.slice A n c) bs∧Wrote w w' g v (.slice A n c)
theorem Writes.mk {w w':World} {g base:Nat} {v:Value} {bs bs':List Value} {A:Option Addr} {n c:Nat} (h1:WrT w' g base (.slice A n c) bs') (h2:Wrote w w' g v (.slice A n c)) (e:bs'=bs):Writes w g base v bs (.returned (.tuple #[])) w':=by
 subst e
 exact ⟨rfl,A,n,c,h1,h2⟩
theorem u8_wrap (x:Int):IntKind.u8.wrap x=x % 256:=by
 simp [IntKind.wrap,IntKind.signed,IntKind.bits]
def u8 (n:Int):Value:=.int .u8 n
theorem small_any (g base:Nat) (v:Value) (bs:List Value) (n:Int) (w:World) (h:WrT w g base v bs) (hl:bs.length≤10000000) (hb:base≤w.heap.size) (hn0:0≤n) (hn:n<256) :
  Calls Tryz.prog 198 #[.pointer (some ⟨g,0,none⟩),.int .i64 n] w (Writes w g base v (bs ++ [u8 n])):=by
 have hc:=h.cell
 have hf:=h.frozen
 have hl':=h.lt
 go_enter Tryz.func198,Tryz.ntmps198
 go_wp2_with (at_builtin;refine wpList_wr_push rfl _ _ _ rfl Tryz.underlying113 u8_info h (by rfl) rfl (by rfl) rfl (by omega) hb ?_;intro A c w1 h1 h2 h3 h4)
 go_end0
 exact Writes.mk h1 h2 rfl
def num8 (n:Int):List Value:=[u8 ((n+4611686018427387904) / 72057594037927936 % 256),u8 ((n+4611686018427387904) / 281474976710656 % 256),u8 ((n+4611686018427387904) / 1099511627776 % 256),u8 ((n+4611686018427387904) / 4294967296 % 256),
 u8 ((n+4611686018427387904) / 16777216 % 256),u8 ((n+4611686018427387904) / 65536 % 256),u8 ((n+4611686018427387904) / 256 % 256),u8 ((n+4611686018427387904) % 256)]
theorem number_any (g base:Nat) (v:Value) (bs:List Value) (n:Int) (w:World) (h:WrT w g base v bs) (hl:bs.length≤10000000) (hb:base≤w.heap.size) (h1 : -1099511627776≤n) (h2:n≤1099511627776) :
  Calls Tryz.prog 197 #[.pointer (some ⟨g,0,none⟩),.int .i64 n] w (Writes w g base v (bs ++ num8 n)):=by
 have hc:=h.cell
 have hf:=h.frozen
 have hl':=h.lt
 go_enter Tryz.func197,Tryz.ntmps197
 go_wp2_with fail
 clear hc hf hl'
 go_loopw [5] (fun s wr=>∃ k:Nat,k≤8∧s = .int .i64 (56 - 8*(k:Int))∧∃ v',(∃ A n c,v' = .slice A n c)∧WrT wr g base v' (bs ++ (num8 n).take k)∧Wrote w wr g v v') (fun s _=>(intOf s+8).toNat)
 case atStart=>exact ⟨0,by omega,rfl,v,(owns_slice h.own).elim fun A hA=>⟨A,_,hA⟩,by simpa using h,Wrote.refl _ _ _⟩
 case round=>
  obtain ⟨k,hk,rfl,v',HV,hr,hw⟩:=hrel
  have HV:=hide HV
  have hc:=hr.cell
  have hf:=hr.frozen
  have hl':=hr.lt
  have hlen:(bs ++ (num8 n).take k).length≤10000008:=by rw [List.length_append,List.length_take];omega
  have hb':base≤wr.heap.size:=by have:=hw.size;omega
  obtain ⟨bs',HB⟩:∃ bs',Hid (bs'=bs ++ (num8 n).take k):=⟨_,rfl⟩
  rw [←HB.out] at hr hlen
  have hk':k=0∨k=1∨k=2∨k=3∨k=4∨k=5∨k=6∨k=7∨k=8:=by omega
  clear hk
  rcases hk' with rfl|rfl|rfl|rfl|rfl|rfl|rfl|rfl|rfl
  ·go_wp2_with fail
   go_region_law ((refine step_wr_push rfl _ _ _ (by rfl) Tryz.underlying113 u8_info hr.drew (by rfl) (by rfl) (by rfl) rfl (by omega) hb' ?_;intro A c w1 h1 h2 h3 h4))
   all_goals
    go_wp2_with fail
    go_roundw
    case rel=>exact ⟨0+1,by omega,by go_num,_,⟨_,_,_,rfl⟩,WrT.to h1 (by rw [HB.out];simp [num8,u8,u8_wrap]),hw.trans (Wrote.pre ((Below.refl _ _).drew) h2)⟩
    case measure=>simp [intOf]
  ·go_wp2_with fail
   go_region_law ((refine step_wr_push rfl _ _ _ (by rfl) Tryz.underlying113 u8_info hr.drew (by rfl) (by rfl) (by rfl) rfl (by omega) hb' ?_;intro A c w1 h1 h2 h3 h4))
   all_goals
    go_wp2_with fail
    go_roundw
    case rel=>exact ⟨1+1,by omega,by go_num,_,⟨_,_,_,rfl⟩,WrT.to h1 (by rw [HB.out];simp [num8,u8,u8_wrap]),hw.trans (Wrote.pre ((Below.refl _ _).drew) h2)⟩
    case measure=>simp [intOf]
  ·go_wp2_with fail
   go_region_law ((refine step_wr_push rfl _ _ _ (by rfl) Tryz.underlying113 u8_info hr.drew (by rfl) (by rfl) (by rfl) rfl (by omega) hb' ?_;intro A c w1 h1 h2 h3 h4))
   all_goals
    go_wp2_with fail
    go_roundw
    case rel=>exact ⟨2+1,by omega,by go_num,_,⟨_,_,_,rfl⟩,WrT.to h1 (by rw [HB.out];simp [num8,u8,u8_wrap]),hw.trans (Wrote.pre ((Below.refl _ _).drew) h2)⟩
    case measure=>simp [intOf]
  ·go_wp2_with fail
   go_region_law ((refine step_wr_push rfl _ _ _ (by rfl) Tryz.underlying113 u8_info hr.drew (by rfl) (by rfl) (by rfl) rfl (by omega) hb' ?_;intro A c w1 h1 h2 h3 h4))
   all_goals
    go_wp2_with fail
    go_roundw
    case rel=>exact ⟨3+1,by omega,by go_num,_,⟨_,_,_,rfl⟩,WrT.to h1 (by rw [HB.out];simp [num8,u8,u8_wrap]),hw.trans (Wrote.pre ((Below.refl _ _).drew) h2)⟩
    case measure=>simp [intOf]
  ·go_wp2_with fail
   go_region_law ((refine step_wr_push rfl _ _ _ (by rfl) Tryz.underlying113 u8_info hr.drew (by rfl) (by rfl) (by rfl) rfl (by omega) hb' ?_;intro A c w1 h1 h2 h3 h4))
   all_goals
    go_wp2_with fail
    go_roundw
    case rel=>exact ⟨4+1,by omega,by go_num,_,⟨_,_,_,rfl⟩,WrT.to h1 (by rw [HB.out];simp [num8,u8,u8_wrap]),hw.trans (Wrote.pre ((Below.refl _ _).drew) h2)⟩
    case measure=>simp [intOf]
  ·go_wp2_with fail
   go_region_law ((refine step_wr_push rfl _ _ _ (by rfl) Tryz.underlying113 u8_info hr.drew (by rfl) (by rfl) (by rfl) rfl (by omega) hb' ?_;intro A c w1 h1 h2 h3 h4))
   all_goals
    go_wp2_with fail
    go_roundw
    case rel=>exact ⟨5+1,by omega,by go_num,_,⟨_,_,_,rfl⟩,WrT.to h1 (by rw [HB.out];simp [num8,u8,u8_wrap]),hw.trans (Wrote.pre ((Below.refl _ _).drew) h2)⟩
    case measure=>simp [intOf]
  ·go_wp2_with fail
   go_region_law ((refine step_wr_push rfl _ _ _ (by rfl) Tryz.underlying113 u8_info hr.drew (by rfl) (by rfl) (by rfl) rfl (by omega) hb' ?_;intro A c w1 h1 h2 h3 h4))
   all_goals
    go_wp2_with fail
    go_roundw
    case rel=>exact ⟨6+1,by omega,by go_num,_,⟨_,_,_,rfl⟩,WrT.to h1 (by rw [HB.out];simp [num8,u8,u8_wrap]),hw.trans (Wrote.pre ((Below.refl _ _).drew) h2)⟩
    case measure=>simp [intOf]
  ·go_wp2_with fail
   go_region_law ((refine step_wr_push rfl _ _ _ (by rfl) Tryz.underlying113 u8_info hr.drew (by rfl) (by rfl) (by rfl) rfl (by omega) hb' ?_;intro A c w1 h1 h2 h3 h4))
   all_goals
    go_wp2_with fail
    go_roundw
    case rel=>exact ⟨7+1,by omega,by go_num,_,⟨_,_,_,rfl⟩,WrT.to h1 (by rw [HB.out];simp [num8,u8,u8_wrap]),hw.trans (Wrote.pre ((Below.refl _ _).drew) h2)⟩
    case measure=>simp [intOf]
  ·go_wp2_with fail
   go_end0
   obtain ⟨A,m,c,rfl⟩:=HV.out
   exact Writes.mk hr hw (by rw [HB.out];rfl)
theorem wtext_any (g base:Nat) (v:Value) (bs:List Value) (s:ByteArray) (w:World) (h:WrT w g base v bs) (hl:bs.length≤1000000) (hb:base≤w.heap.size) (hs:s.size≤20) :
  Calls Tryz.prog 199 #[.pointer (some ⟨g,0,none⟩),.string s] w (Writes w g base v (bs ++ [u8 s.size] ++ strCells s)):=by
 go_enter Tryz.func199,Tryz.ntmps199
 go_wp2_with fail
 refine (small_any g base v bs s.size _ h (by omega) hb (by omega) (by omega)).mono ?_
 rintro e w1 ⟨rfl,A,n,c,h1,h2⟩
 obtain ⟨bs',HB⟩:∃ bs',Hid (bs'=bs ++ [u8 s.size]):=⟨_,rfl⟩
 have hlen:bs'.length≤1000001:=by rw [HB.out];simp;omega
 rw [←HB.out] at h1
 have hc:=h1.cell
 have hf:=h1.frozen
 have hl':=h1.lt
 go_wp2_with (at_builtin;refine wpList_wr_str rfl _ _ _ _ rfl Tryz.underlying113 Tryz.underlying9 u8_info h1 (by rfl) s (by rfl) (by omega) (by have:=h2.size;omega) ?_;intro A2 c2 w2 h3 h4 h5 h6)
 go_end0
 exact Writes.mk h3 (h2.trans h4) (by rw [HB.out])
end Go.Proofs.YtgdcofbnbiclmaaGreatDoor

