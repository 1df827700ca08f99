import Derived.Test.YtgdcofbnbiclmaaGreatDoorQBase
import Derived.Laws.CopyRow
import Derived.Laws.AppendOwnNone
import Derived.Lib.AppendZerosOnto
import Derived.Lib.AppendZeros
import Derived.ArgAppend
namespace Go.Proofs.YtgdcofbnbiclmaaGreatDoor
set_option linter.all false
set_option maxHeartbeats 32000000
open Go.RowKit

def Own (w:World) (base:Nat) (e:TypeId) (size:Nat) (v:Value) (rows:List (List Value)):Prop:=
 w.ownsRow base e size v rows.length rows.flatten∧∀ r∈rows,r.length=size

theorem flatten_length {size:Nat}:∀ {rows:List (List Value)},(∀ r∈rows,r.length=size)→rows.flatten.length=rows.length*size
 | [],_=>by simp
 | r :: rows,h=>by
  rw [List.flatten_cons,List.length_append,h r (by simp),flatten_length fun r hr=>h r (by simp [hr]),List.length_cons,Nat.add_mul];omega
theorem flatten_at {size:Nat}:∀ {rows:List (List Value)},(∀ r∈rows,r.length=size)→∀ {i j:Nat} {r:List Value} {u:Value},rows[i]?=some r→r[j]?=some u→rows.flatten[i*size+j]?=some u
 | [],_,i,_,_,_,hi,_=>by simp at hi
 | r :: rows,h,0,j,r',u,hi,hj=>by
  simp at hi;subst hi
  rw [Nat.zero_mul,Nat.zero_add,List.flatten_cons]
  have:j<r.length:=by
   rcases Nat.lt_or_ge j r.length with h'|h'
   ·exact h'
   ·rw [List.getElem?_eq_none h'] at hj;cases hj
  rw [List.getElem?_append_left this];exact hj
 | r :: rows,h,i+1,j,r',u,hi,hj=>by
  simp at hi
  have hr:=h r (by simp)
  rw [List.flatten_cons,List.getElem?_append_right (by rw [hr,Nat.add_mul];omega),hr,show (i+1)*size+j - size=i*size+j by rw [Nat.add_mul];omega]
  exact flatten_at (fun r hr=>h r (by simp [hr])) hi hj
theorem flatten_inv {size:Nat} (hs:0<size) {rows:List (List Value)} (h:∀ r∈rows,r.length=size) {k:Nat} {u:Value} (hk:rows.flatten[k]?=some u):∃ r,rows[k / size]?=some r∧r[k % size]?=some u:=by
 have hlt:k<rows.length*size:=by
  rw [←flatten_length h]
  rcases Nat.lt_or_ge k rows.flatten.length with h'|h'
  ·exact h'
  ·rw [List.getElem?_eq_none h'] at hk;cases hk
 have hi:k / size<rows.length:=(Nat.div_lt_iff_lt_mul hs).2 hlt
 have hr:=h rows[k / size] (List.getElem_mem hi)
 have hj:k % size<rows[k / size].length:=by rw [hr];exact Nat.mod_lt _ hs
 refine ⟨_,List.getElem?_eq_getElem hi,?_⟩
 have:=flatten_at h (List.getElem?_eq_getElem hi) (List.getElem?_eq_getElem hj)
 rw [show k / size*size+k % size=k by rw [Nat.mul_comm];exact Nat.div_add_mod k size] at this
 rw [List.getElem?_eq_getElem hj,←this,hk]

section
variable {w w':World} {base:Nat} {e:TypeId} {size:Nat} {v:Value} {rows:List (List Value)}
theorem Own.nil:Own w base e size (.slice none 0 0) []:=⟨World.ownsRow_nil _ _ _ _,by simp⟩
theorem Own.form (h:Own w base e size v rows):(v = .slice none 0 0∧rows=[])∨∃ g cap,v = .slice (some ⟨g,0,none⟩) rows.length cap∧base≤g∧rows.length≤cap∧cap≤maxLen ∧
  ∃ cur,w.heap[g]?=some (.cells cur e (0,0))∧cur.size=cap*size∧cur.toList.take (rows.length*size)=rows.flatten:=by
 rcases h.1.2 with ⟨h1,h2⟩|⟨g,cap,cur,h1,h2,h3,h4,h5,h6,h7⟩
 ·exact .inl ⟨h1,List.eq_nil_of_length_eq_zero h2⟩
 ·exact .inr ⟨g,cap,h1,h2,h4,h5,cur,h3,h6,h7⟩
theorem Own.keep (h:Own w base e size v rows) (hk:∀ k,base≤k→k<w.heap.size→w'.heap[k]?=w.heap[k]?):Own w' base e size v rows:=by
 refine ⟨⟨h.1.1,?_⟩,h.2⟩
 rcases h.1.2 with h1|⟨g,cap,cur,h1,h2,h3,h4⟩
 ·exact .inl h1
 ·refine .inr ⟨g,cap,cur,h1,h2,?_,h4⟩
  rw [hk g h2 ?_]
  ·exact h3
  ·rcases Nat.lt_or_ge g w.heap.size with hl|hl
   ·exact hl
   ·rw [Array.getElem?_eq_none hl] at h3;cases h3
theorem Own.below (h:Own w base e size v rows) (hb:Below w.heap.size w w'):Own w' base e size v rows:=h.keep fun k _ hk=>hb.block k hk
theorem Own.alloc (h:Own w base e size v rows) (o:Obj):Own (w.alloc o) base e size v rows:=h.keep fun k _ hk=>Below.heap_alloc w o k hk
theorem Own.drew (h:Own w base e size v rows):Own w.drew base e size v rows:=h
theorem Own.setCell (h:Own w base e size v rows) {p:Addr} (hp:p.block<base) (u:Value):Own (w.setCell p u) base e size v rows:=
 h.keep fun k hk _=>Below.heap_setCell w p u k (by omega)
end

structure Sl (w:World) (size:Nat) (A:Option Addr) (n c:Nat) (rows:List (List Value)):Prop where
 len:rows.length=n
 nc:n≤c
 cm:c≤maxLen
 nil:A=none→c=0
 seg:Seg w size A rows
 row:∀ r∈rows,r.length=size
section
variable {w w':World} {size n c:Nat} {A:Option Addr} {rows:List (List Value)}
theorem Sl.nil_ (w:World) (size:Nat):Sl w size none 0 0 []:=⟨rfl,by simp,by simp [maxLen],fun _=>rfl,Seg.nil,by simp⟩
theorem Sl.below (h:Sl w size A n c rows) (hb:Below w.heap.size w w'):Sl w' size A n c rows:=⟨h.len,h.nc,h.cm,h.nil,h.seg.below hb,h.row⟩
theorem Sl.alloc (h:Sl w size A n c rows) (o:Obj):Sl (w.alloc o) size A n c rows:=⟨h.len,h.nc,h.cm,h.nil,h.seg.alloc o,h.row⟩
theorem Sl.n0 (h:Sl w size A n c rows):A=none→n=0∧c=0:=fun e=>by have:=h.nil e;have:=h.nc;omega
theorem Own.sl {base:Nat} {e:TypeId} {v:Value} (h:Own w base e size v rows):∃ A c,v = .slice A rows.length c∧Sl w size A rows.length c rows:=by
 rcases h.form with ⟨rfl,rfl⟩|⟨g,cap,rfl,_,h1,h2,cur,h3,h4,h5⟩
 ·exact ⟨_,0,rfl,Sl.nil_ w size⟩
 ·refine ⟨_,cap,rfl,rfl,h1,h2,by simp,fun hn=>⟨g,0,rfl,?_,fun i r hr j u hu=>?_⟩,h.2⟩
  ·rcases Nat.lt_or_ge g w.heap.size with hl|hl
   ·exact hl
   ·rw [Array.getElem?_eq_none hl] at h3;cases h3
  ·have hf:=flatten_at h.2 hr hu
   rw [←h5,List.getElem?_take] at hf
   split at hf
   ·simp only [World.cell?,h3,Nat.zero_add]
    simpa using hf
   ·cases hf
theorem Own.sl' {base:Nat} {e:TypeId} (h:Own w base e size (.slice A n c) rows):Sl w size A n c rows:=by
 obtain ⟨A',c',hv,hs⟩:=h.sl
 injection hv with h1 h2 h3
 subst h1;subst h2;subst h3
 exact hs
theorem Own.empty (w:World) (base:Nat) (e:TypeId) (hb:base≤w.heap.size):Own (w.alloc (.cells #[] e)) base e size (.slice (some ⟨w.heap.size,0,.none⟩) 0 0) []:=
 ⟨⟨by simp,.inr ⟨w.heap.size,0,#[],rfl,hb,heap_alloc_new w _,Nat.le_refl _,by simp [maxLen],by simp,by simp⟩⟩,by simp⟩
theorem Own.mono {base base':Nat} {e:TypeId} {v:Value} (h:Own w base e size v rows) (hb:base'≤base):Own w base' e size v rows:=by
 refine ⟨⟨h.1.1,?_⟩,h.2⟩
 rcases h.1.2 with h1|⟨g,cap,cur,h1,h2,h3,h4⟩
 ·exact .inl h1
 ·exact .inr ⟨g,cap,cur,h1,by omega,h3,h4⟩
end

theorem wpList_push {P:Program} {w:World} {ops:Array Oper} {rest:List Oper} {o:Oper} {a:Act} {Q:Exit→Act→World→Prop} (hgd:o.guard=none) (s x:Operand) (t:TypeId)
  (ho:o.op = .call { callee:=.builtin .append,args:=#[s,x],argTypes:=#[t,t] })
  {base:Nat} {e:TypeId} {z:Value} {size bytes:Nat} (ht:P.underlying t=some (.slice e)) (hi:(P.info? e).map (fun i=>(i.zero,i.size,i.bytes))=some (some z,size,bytes)) (hzs:z.cells.size=size) (hsz:0<size)
  {v:Value} {rows:List (List Value)} (hs:a.eval s=v) (hown:Own w base e size v rows) {H:Nat} (hH:w.heap.size=H) {row:Array Value} (hx:a.eval x = .slice (some ⟨H,0,none⟩) 1 1) (hl:row.size=size) (h1:∀ u∈row.toList,u.oneCell'=true)
  (h63:rows.length+1≤maxLen) (hbytes:(rows.length+1)*bytes≤140737488355328) (hbase:base≤w.heap.size)
  (h:∀ v' w',Own w' base e size v' (rows ++ [row.toList])→Below base w w'→w.heap.size<w'.heap.size→wpList P ops Q rest (a.put o.dst v') w'):wpList P ops Q (o :: rest) a (w.alloc (.cells row e)):=by
 subst hH
 obtain ⟨i,hi1,hi2,hi3,hi4⟩:=info_parts hi
 refine wpList_append_own _ hgd s x t ho base e i z size bytes ht hi1 hi2 hi3 hi4 hzs hsz v rows.length rows.flatten hs (hown.alloc _).1 ⟨w.heap.size,0,none⟩ 1 1 row.toList hx (by simp [hl]) ?_ h1 h63 hbytes (by simp;omega) ?_
 ·intro j u hu
  rw [Addr.add_lit]
  simp only [Nat.zero_add]
  rw [World.cell?_alloc_new,←Array.getElem?_toList];exact hu
 ·intro v' w' h2 h3 _
  refine h v' w' ⟨by simpa using h2,?_⟩ ?_ ?_
  ·intro r hr
   rcases List.mem_append.1 hr with hr|hr
   ·exact hown.2 r hr
   ·simp at hr;subst hr;simpa using hl
  ·refine ((Below.refl base w).alloc hbase _).grown h3 (by simp;omega) fun k hk=>?_
   rcases hown.form with ⟨rfl,_⟩|⟨g,cap,rfl,hg,_⟩
   ·simp [Value.ownBlock] at hk
   ·simp [Value.ownBlock] at hk;omega
  ·have:=h3.size;simp at this;omega

theorem wpList_grow {P:Program} {w:World} {ops:Array Oper} {rest:List Oper} {o:Oper} {a:Act} {Q:Exit→Act→World→Prop} (hgd:o.guard=none) (s x:Operand) (t:TypeId)
  (ho:o.op = .call { callee:=.builtin .append,args:=#[s,x],argTypes:=#[t,t] })
  {e:TypeId} {z:Value} {size bytes:Nat} (ht:P.underlying t=some (.slice e)) (hi:(P.info? e).map (fun i=>(i.zero,i.size,i.bytes))=some (some z,size,bytes)) (hzs:z.cells.size=size) (hsz:0<size)
  {A:Option Addr} {n cap:Nat} {rows:List (List Value)} (hs:a.eval s = .slice A n cap) (hn:rows.length=n) (hr:∀ r∈rows,r.length=size) (hA:Seg w size A rows) (hA0:A=none→n=0∧cap=0)
  {B:Option Addr} {m c:Nat} {news:List (List Value)} (hx:a.eval x = .slice B m c) (hm:news.length=m) (hnr:∀ r∈news,r.length=size) (hB:Seg w size B news) (h1:∀ r∈news,∀ u∈r,u.oneCell'=true)
  (h0:0<m) (hfull:cap<n+m) (h63:n+m≤maxLen) (hbytes:(n+m)*bytes≤140737488355328)
  (h:∀ v' w',Own w' w.heap.size e size v' (rows ++ news)→Below w.heap.size w w'→wpList P ops Q rest (a.put o.dst v') w'):wpList P ops Q (o :: rest) a w:=by
 obtain ⟨i,hi1,hi2,hi3,hi4⟩:=info_parts hi
 obtain ⟨b,off,rfl,hb,hbc⟩:=hB (by omega)
 have cellsOf:∀ {b off:Nat} {rs:List (List Value)},(∀ r∈rs,r.length=size)→(∀ i r,rs[i]?=some r→∀ j u,r[j]?=some u→w.cell? ⟨b,off+(i*size+j),none⟩=some u) →
   ∀ j u,rs.flatten[j]?=some u→w.cell? ((⟨b,off,none⟩:Addr).add j)=some u:=by
  intro b off rs hr hc j u hu
  obtain ⟨r,h2,h3⟩:=flatten_inv hsz hr hu
  rw [Addr.add_lit,←hc _ r h2 _ u h3,Nat.mul_comm,Nat.div_add_mod]
 refine wpList_append_grows w hgd s x t ho e i z size bytes ht hi1 hi2 hi3 hi4 hzs hsz A n cap rows.flatten hs hA0 (by rw [flatten_length hr,hn]) ?_ ⟨b,off,none⟩ m c news.flatten hx (by rw [flatten_length hnr,hm]) (cellsOf hnr hbc) ?_ hfull h63 hbytes ?_
 ·intro ad had j u hu
  have hpos:0<rows.length:=by
   cases rows with
   | nil=>simp at hu
   | cons=>simp
  obtain ⟨b',off',hA',_,hc'⟩:=hA hpos
  rw [hA'] at had
  injection had with had
  subst had
  exact cellsOf hr hc' j u hu
 ·intro u hu
  obtain ⟨r,hr,hur⟩:=List.mem_flatten.1 hu
  exact h1 r hr u hur
 ·intro v' w' h2 h3
  refine h v' w' ⟨by simpa [hn,hm] using h2,?_⟩ ?_
  ·intro r hr'
   rcases List.mem_append.1 hr' with hr'|hr'
   ·exact hr r hr'
   ·exact hnr r hr'
  ·exact (Below.refl _ w).grown h3 (Nat.le_refl _) (fun k hk=>by cases hk)
def cutA (A:Option Addr) (c k size:Nat):Option Addr:=if c=k then A else A.map (·.add (k*size))
theorem bound_ok {P:Program} (x:Value) (k:Nat) (y:Nat) (code:BoundsCode) (w:World) (h:k≤y):(Instr.sliceBound (.int .i64 (k:Int)) y code).run P w = .ok k w:=by
 have h1:(0:Int)≤k∧(k:Int)≤y:=by omega
 simp [Instr.sliceBound,asIntOf,h1.1,h1.2]
section
variable {P:Program} {T E:TypeId} {size:Nat} (ht:P.underlying T=some (.slice E)) (hs:(P.info? E).map (·.size)=some size)
include ht hs
theorem run_cut (A:Option Addr) (n c k:Nat) (hk:k≤n) (w:World) :
  (Instr.slice T (.slice A n c) (some (.int .i64 (k:Int))) none none).run P w = .ok (.slice (cutA A c k size) (n - k) (c - k)) w:=by
 obtain ⟨i,hi,rfl⟩:=Option.map_eq_some_iff.1 hs
 have hb:=bound_ok (P:=P) (.slice A n c) k n .sliceB w hk
 simp [Instr.slice,run_underlying ht,Instr.sliceBounds,hb,sizeOf,typeInfo,hi,cutA]
theorem run_take (A:Option Addr) (n c j:Nat) (hj:j≤c) (w:World) :
  (Instr.slice T (.slice A n c) none (some (.int .i64 (j:Int))) none).run P w = .ok (.slice A j c) w:=by
 obtain ⟨i,hi,rfl⟩:=Option.map_eq_some_iff.1 hs
 have hb:=bound_ok (P:=P) (.slice A n c) j c .sliceAcap w hj
 have hA:(if c=0 then A else A.map (·.add 0))=A:=by split <;> cases A <;> simp [Addr.add]
 simp [Instr.slice,run_underlying ht,Instr.sliceBounds,hb,sizeOf,typeInfo,hi]
 cases A <;> simp [Addr.add]
theorem run_take3 (A:Option Addr) (n c j m:Nat) (hj:j≤m) (hm:m≤c) (w:World) :
  (Instr.slice T (.slice A n c) none (some (.int .i64 (j:Int))) (some (.int .i64 (m:Int)))).run P w = .ok (.slice A j m) w:=by
 obtain ⟨i,hi,rfl⟩:=Option.map_eq_some_iff.1 hs
 have hb:=bound_ok (P:=P) (.slice A n c) m c .slice3Acap w hm
 have hb2:=bound_ok (P:=P) (.slice A n c) j m .slice3B w hj
 simp [Instr.slice,run_underlying ht,Instr.sliceBounds,hb,hb2,sizeOf,typeInfo,hi]
 cases A <;> simp [Addr.add]
theorem run_cut3 (A:Option Addr) (n c k j m:Nat) (hk:k≤j) (hj:j≤m) (hm:m≤c) (w:World) :
  (Instr.slice T (.slice A n c) (some (.int .i64 (k:Int))) (some (.int .i64 (j:Int))) (some (.int .i64 (m:Int)))).run P w = .ok (.slice (cutA A m k size) (j - k) (m - k)) w:=by
 obtain ⟨i,hi,rfl⟩:=Option.map_eq_some_iff.1 hs
 have hb:=bound_ok (P:=P) (.slice A n c) m c .slice3Acap w hm
 have hb2:=bound_ok (P:=P) (.slice A n c) j m .slice3B w hj
 have hb3:=bound_ok (P:=P) (.slice A n c) k j .slice3C w hk
 simp [Instr.slice,run_underlying ht,Instr.sliceBounds,hb,hb2,hb3,sizeOf,typeInfo,hi,cutA]
theorem run_cut2 (A:Option Addr) (n c k j:Nat) (hk:k≤j) (hj:j≤c) (w:World) :
  (Instr.slice T (.slice A n c) (some (.int .i64 (k:Int))) (some (.int .i64 (j:Int))) none).run P w = .ok (.slice (cutA A c k size) (j - k) (c - k)) w:=by
 obtain ⟨i,hi,rfl⟩:=Option.map_eq_some_iff.1 hs
 have hb2:=bound_ok (P:=P) (.slice A n c) j c .sliceAcap w hj
 have hb3:=bound_ok (P:=P) (.slice A n c) k j .sliceB w hk
 simp [Instr.slice,run_underlying ht,Instr.sliceBounds,hb2,hb3,sizeOf,typeInfo,hi,cutA]
end
section
variable {w:World} {size n c:Nat} {A:Option Addr} {rows:List (List Value)}
theorem Seg.drop (h:Seg w size A rows) (k:Nat) (hk:k<rows.length):Seg w size (A.map (·.add (k*size))) (rows.drop k):=fun _=>by
 obtain ⟨b,off,rfl,hb,hc⟩:=h (by omega)
 refine ⟨b,off+k*size,by simp [Addr.add_lit],hb,fun i r hr j u hu=>?_⟩
 rw [List.getElem?_drop] at hr
 rw [←hc _ r hr j u hu,Nat.add_mul]
 congr 2;omega
theorem Sl.drop (h:Sl w size A n c rows) (k:Nat) (hk:k≤n) (m:Nat) (hm:m≤c) (hnm:n≤m):Sl w size (cutA A m k size) (n - k) (m - k) (rows.drop k):=by
 refine ⟨by rw [List.length_drop,h.len],by omega,by have:=h.cm;omega,?_,?_,fun r hr=>h.row r (List.mem_of_mem_drop hr)⟩
 ·intro e
  unfold cutA at e
  split at e
  ·omega
  ·have:A=none:=by cases A <;> simp_all
   have:=h.nil this;omega
 ·by_cases hkn:k<n
  ·unfold cutA
   rw [if_neg (by omega)]
   exact h.seg.drop k (by rw [h.len];exact hkn)
  ·rw [List.drop_eq_nil_of_le (by rw [h.len];omega)]
   exact Seg.nil
theorem Sl.take (h:Sl w size A n c rows) (j:Nat) (hj:j≤n) (m:Nat) (hjm:j≤m) (hm:m≤c):Sl w size A j m (rows.take j):=by
 refine ⟨by rw [List.length_take,h.len];omega,hjm,by have:=h.cm;omega,fun e=>by have:=h.nil e;omega,?_,fun r hr=>h.row r (List.mem_of_mem_take hr)⟩
 intro hn
 rw [List.length_take] at hn
 obtain ⟨b,off,rfl,hb,hc⟩:=h.seg (by omega)
 refine ⟨b,off,rfl,hb,fun i r hr j' u hu=>hc i r ?_ j' u hu⟩
 rw [List.getElem?_take] at hr
 split at hr
 ·exact hr
 ·cases hr
end
section
variable {w w':World} {g size n c base:Nat} {t e:TypeId} {cs:Array Value} {A:Option Addr} {rows:List (List Value)} {v:Value}
theorem Blk.bl (h:Blk w g t cs) (hb:Below w.heap.size w w'):Blk w' g t cs:=h.below' hb
theorem Blk.al (h:Blk w g t cs) (o:Obj):Blk (w.alloc o) g t cs:=h.alloc o
def From (a w:World):Prop:=Below a.heap.size a w
theorem From.refl (a:World):From a a:=Below.refl _ _
end
section
variable {w:World} {base g n cap size:Nat} {e:TypeId} {rows:List (List Value)}
theorem Own.whole {A:Option Addr} (h:Own w base e size (.slice A n cap) rows) (hn:A≠none):∃ g cur,A=some ⟨g,0,none⟩∧base≤g∧n=rows.length∧n≤cap∧cap≤maxLen∧w.heap[g]?=some (.cells cur e (0,0))∧cur.size=cap*size∧cur.toList.take (n*size)=rows.flatten:=by
 rcases h.form with ⟨hv,_⟩|⟨g,cap',hv,hg,h1,h2,cur,h3,h4,h5⟩
 ·injection hv with hv;exact absurd hv hn
 ·injection hv with a1 a2 a3
  subst a2;subst a3
  exact ⟨g,cur,a1,hg,rfl,h1,h2,h3,h4,h5⟩
theorem Own.put {cur cur':Array Value} (hg:base≤g) (hc:w.heap[g]?=some (.cells cur e (0,0))) (hcap:cap≤maxLen) (hsz:cur'.size=cap*size) {rows':List (List Value)} (hr:∀ r∈rows',r.length=size) (hn:rows'.length≤cap)
  (ht:cur'.toList.take (rows'.length*size)=rows'.flatten):Own (w.setRow g cur') base e size (.slice (some ⟨g,0,none⟩) rows'.length cap) rows':=
 ⟨⟨flatten_length hr,.inr ⟨g,cap,cur',rfl,hg,setRow_heap w g cur _ e _ hc,hn,hcap,hsz,ht⟩⟩,hr⟩
theorem flatten_take:∀ {rows:List (List Value)} {k:Nat},(∀ r∈rows,r.length=size)→(rows.take k).flatten=rows.flatten.take (k*size)
 | [],k,_=>by simp
 | r :: rows,0,_=>by simp
 | r :: rows,k+1,h=>by
  have hr:=h r (by simp)
  rw [List.take_succ_cons,List.flatten_cons,List.flatten_cons,flatten_take (fun r hr=>h r (by simp [hr])),show (k+1)*size=r.length+k*size by rw [hr,Nat.add_mul];omega,List.take_length_add_append]
end
theorem Own.block {w:World} {base n c:Nat} {e:TypeId} {size:Nat} {A:Option Addr} {rows:List (List Value)} (h:Own w base e size (.slice A n c) rows) (hn:0<rows.length):∃ g,A=some ⟨g,0,none⟩∧base≤g∧g<w.heap.size∧n=rows.length ∧
  (∀ o,w.frozen? ⟨g,o,none⟩=false)∧(∀ i r,rows[i]?=some r→∀ j u,r[j]?=some u→w.cell? ⟨g,i*size+j,none⟩=some u):=by
 have hsl:=h.sl'
 rcases h.form with ⟨hv,hr⟩|⟨g',cap,hv,hg,h1,h2,cur,h3,h4,h5⟩
 ·subst hr;simp at hn
 ·injection hv with a1 a2 a3
  refine ⟨g',a1,hg,?_,a2,?_,?_⟩
  ·rcases Nat.lt_or_ge g' w.heap.size with hl|hl
   ·exact hl
   ·rw [Array.getElem?_eq_none hl] at h3;cases h3
  ·intro o;simp [World.frozen?,h3]
  ·obtain ⟨b,off,e1,_,hc⟩:=hsl.seg hn
   rw [a1] at e1
   injection e1 with e1
   injection e1 with e1 e2
   subst e1;subst e2
   intro i r hr j u hu
   have:=hc i r hr j u hu
   rwa [Nat.zero_add] at this
theorem wpList_pushes {P:Program} {w:World} {ops:Array Oper} {rest:List Oper} {o:Oper} {a:Act} {Q:Exit→Act→World→Prop} (hgd:o.guard=none) (s x:Operand) (t:TypeId)
  (ho:o.op = .call { callee:=.builtin .append,args:=#[s,x],argTypes:=#[t,t] })
  {base:Nat} {e:TypeId} {z:Value} {size bytes:Nat} (ht:P.underlying t=some (.slice e)) (hi:(P.info? e).map (fun i=>(i.zero,i.size,i.bytes))=some (some z,size,bytes)) (hzs:z.cells.size=size) (hsz:0<size)
  {v:Value} {rows news:List (List Value)} (hs:a.eval s=v) (hown:Own w base e size v rows) {A:Option Addr} {m c:Nat} (hx:a.eval x = .slice A m c) (hsl:Sl w size A m c news) (h1:∀ r∈news,∀ u∈r,u.oneCell'=true)
  (h63:rows.length+m≤maxLen) (hbytes:(rows.length+m)*bytes≤140737488355328) (hbase:base≤w.heap.size)
  (h:∀ A' n' c' w',Own w' base e size (.slice A' n' c') (rows ++ news)→Below base w w'→wpList P ops Q rest (a.put o.dst (.slice A' n' c')) w'):wpList P ops Q (o :: rest) a w:=by
 obtain ⟨i,hi1,hi2,hi3,hi4⟩:=info_parts hi
 have hm:=hsl.len
 have frow:∀ k,v.ownBlock=some k→base≤k:=by
  intro k hk
  rcases hown.form with ⟨rfl,_⟩|⟨g,cap,rfl,hg,_⟩
  ·simp [Value.ownBlock] at hk
  ·simp [Value.ownBlock] at hk;omega
 cases A with
 | none=>
  obtain ⟨rfl,rfl⟩:=hsl.n0 rfl
  obtain rfl:=List.eq_nil_of_length_eq_zero hm
  obtain ⟨A',c',hv,_⟩:=hown.sl
  refine wpList_append_own_none hgd s x t ho base e i size ht hi1 v rows.length rows.flatten hs hown.1 hx ?_
  have:=h A' rows.length c' w (by rw [List.append_nil,←hv];exact hown) (Below.refl _ _)
  rw [←hv] at this
  exact this
 | some ad=>
  refine wpList_append_own _ hgd s x t ho base e i z size bytes ht hi1 hi2 hi3 hi4 hzs hsz v rows.length rows.flatten hs hown.1 ad m c news.flatten hx (by rw [flatten_length hsl.row,hm]) ?_ ?_ h63 hbytes hbase ?_
  ·intro j u hu
   by_cases hn:0<news.length
   ·obtain ⟨b,off,e1,hb,hc⟩:=hsl.seg hn
    injection e1 with e1
    subst e1
    obtain ⟨r,h2,h3⟩:=flatten_inv hsz hsl.row hu
    rw [Addr.add_lit,←hc _ r h2 _ u h3,Nat.mul_comm,Nat.div_add_mod]
   ·obtain rfl:=List.eq_nil_of_length_eq_zero (show news.length=0 by omega)
    simp at hu
  ·intro u hu
   obtain ⟨r,hr,hur⟩:=List.mem_flatten.1 hu
   exact h1 r hr u hur
  ·intro v' w' h2 h3 _
   have ho':Own w' base e size v' (rows ++ news):=⟨by simpa [hm] using h2,fun r hr=>(List.mem_append.1 hr).elim (hown.2 r) (hsl.row r)⟩
   obtain ⟨A',c',rfl,_⟩:=ho'.sl
   exact h A' _ c' w' ho' ((Below.refl base w).grown h3 hbase frow)
theorem Sl.of_blk {w:World} {g n size:Nat} {t:TypeId} {cs:Array Value} {rows:List (List Value)} (h:Blk w g t cs) (hf:cs.toList=rows.flatten) (hr:∀ r∈rows,r.length=size) (hn:rows.length=n) (hm:n≤maxLen) :
  Sl w size (some ⟨g,0,none⟩) n n rows:=by
 refine ⟨hn,Nat.le_refl _,hm,by simp,fun _=>⟨g,0,rfl,h.lt,fun i r hi j u hu=>?_⟩,hr⟩
 rw [h.cell,←Array.getElem?_toList,hf,Nat.zero_add]
 exact flatten_at hr hi hu
section
variable {P:Program} {w:World} {base g n cap size bytes:Nat} {e t:TypeId} {z:Value} {rows news:List (List Value)}
theorem zeroCells_flat (z:Array Value) (k:Nat) (hz:0<z.size):(Builtin.zeroCells z k).toList=(List.replicate k z.toList).flatten:=by
 have hr:∀ r∈List.replicate k z.toList,r.length=z.size:=fun r hr=>by rw [(List.mem_replicate.1 hr).2];simp
 have hl:(List.replicate k z.toList).flatten.length=k*z.size:=by rw [flatten_length hr,List.length_replicate]
 apply List.ext_getElem?
 intro i
 by_cases hi:i<k*z.size
 ·have h1:i / z.size<k:=(Nat.div_lt_iff_lt_mul hz).2 hi
  have h2:i % z.size<z.size:=Nat.mod_lt _ hz
  have:=flatten_at hr (i:=i / z.size) (j:=i % z.size) (r:=z.toList) (u:=z[i % z.size]) (by rw [List.getElem?_replicate,if_pos h1]) (by simp [h2])
  rw [show i / z.size*z.size+i % z.size=i by rw [Nat.mul_comm];exact Nat.div_add_mod i _] at this
  rw [this]
  simp [Builtin.zeroCells,hi,h2]
 ·rw [List.getElem?_eq_none (by simp [Builtin.zeroCells];omega),List.getElem?_eq_none (by rw [hl];omega)]
theorem grown_setRow (w:World) (g:Nat) (cs:Array Value):w.grownBy (w.setRow g cs) (some g):=
 ⟨rfl,rfl,rfl,by simp,fun k _ hk=>setRow_other w g k cs (fun e=>hk (by simp [e]))⟩
theorem grown_trans {w0 w1 w2:World} {r:Option Nat} (h:w0.grownBy w1 r) (k:w1.grownBy w2 r):w0.grownBy w2 r:=
 ⟨k.os.trans h.os,k.tape.trans h.tape,k.output.trans h.output,Nat.le_trans h.size k.size,fun b hb hr=>(k.block b (Nat.lt_of_lt_of_le hb h.size) hr).trans (h.block b hb hr)⟩
theorem grown_drew {w w1:World} {r:Option Nat} (h:w.drew.grownBy w1 r):w.grownBy w1 r:=⟨h.os,h.tape,h.output,h.size,h.block⟩
theorem grown_refl (w:World) (r:Option Nat):w.grownBy w r:=⟨rfl,rfl,rfl,Nat.le_refl _,fun _ _ _=>rfl⟩
theorem Own.parts (h:Own w base e size (.slice (some ⟨g,0,none⟩) n cap) rows):base≤g∧n=rows.length∧n≤cap∧cap≤maxLen∧∃ cur,w.heap[g]?=some (.cells cur e (0,0))∧cur.size=cap*size∧cur.toList.take (n*size)=rows.flatten:=by
 obtain ⟨g',cur,e1,h1,h2,h3,h4,h5,h6,h7⟩:=h.whole (by simp)
 have e1:g=g':=by simpa using e1
 subst e1
 exact ⟨h1,h2,h3,h4,cur,h5,h6,h7⟩
theorem src_cells {B:Option Addr} {m c:Nat} (hsz:0<size) (src:Sl w size B m c news) {ad:Addr} (hB:B=some ad):∀ j u,news.flatten[j]?=some u→w.cell? (ad.add j)=some u:=by
 intro j u hu
 by_cases hn:0<news.length
 ·obtain ⟨b,off,e1,hb,hc⟩:=src.seg hn
  rw [hB] at e1
  injection e1 with e1
  subst e1
  obtain ⟨r,h2,h3⟩:=flatten_inv hsz src.row hu
  rw [Addr.add_lit,←hc _ r h2 _ u h3,Nat.mul_comm,Nat.div_add_mod]
 ·obtain rfl:=List.eq_nil_of_length_eq_zero (show news.length=0 by omega)
  simp at hu
theorem flat_one (h1:∀ r∈news,∀ u∈r,u.oneCell'=true):∀ u∈news.flatten,u.oneCell'=true:=by
 intro u hu
 obtain ⟨r,hr,hur⟩:=List.mem_flatten.1 hu
 exact h1 r hr u hur
theorem Own.out_ (ht:P.underlying t=some (.slice e)) (hi:(P.info? e).map (fun i=>(i.zero,i.size,i.bytes))=some (some z,size,bytes)) (hsz:0<size)
  (h:Own w base e size (.slice (some ⟨g,0,none⟩) n cap) rows) (h1:∀ r∈rows,∀ u∈r,u.oneCell'=true) {i:Nat} (hin:i<n) :
  ∃ w',(∀ ty,(Builtin.append_ #[t,t] ty #[.slice (some ⟨g,0,none⟩) i cap,.slice (cutA (some ⟨g,0,none⟩) cap (i+1) size) (n - (i+1)) (cap - (i+1))]).run P w = .ok (.slice (some ⟨g,0,none⟩) (n - 1) cap) w') ∧
   Own w' base e size (.slice (some ⟨g,0,none⟩) (n - 1) cap) (rows.take i ++ rows.drop (i+1))∧w.grownBy w' (some g):=by
 obtain ⟨ti,hi1,hi2,hi3,hi4⟩:=info_parts hi
 obtain ⟨hb,hn',hnc,hcm,cur,hc,hcs,hct⟩:=h.parts
 have hsl:=h.sl'.drop (i+1) (by omega) cap (Nat.le_refl _) hnc
 have hD:∃ ad,cutA (some ⟨g,0,none⟩) cap (i+1) size=some ad:=by
  unfold cutA;split
  ·exact ⟨_,rfl⟩
  ·exact ⟨_,rfl⟩
 obtain ⟨ad,hD⟩:=hD
 have hlr:(rows.drop (i+1)).length=n - (i+1):=by simp;omega
 have hfl:(rows.drop (i+1)).flatten.length=(n - (i+1))*size:=by rw [flatten_length hsl.row,hlr]
 have hms:(i+(n - (i+1)))*size≤cap*size:=Nat.mul_le_mul_right _ (by omega)
 rw [Nat.add_mul] at hms
 have hcl:cur.toList.length=cap*size:=by simpa using hcs
 have hr:=fun ty=>run_append_room (P:=P) w t ty e ti ht hi1 g i cap cur hc ad (n - (i+1)) (cap - (i+1)) (rows.drop (i+1)).flatten (by rw [hfl,hi3]) (src_cells hsz hsl hD) (flat_one (fun r hr=>h1 r (List.mem_of_mem_drop hr))) (by omega) (by rw [hfl,hi3,hcs];omega)
 simp only [show i+(n - (i+1))=n - 1 by omega,hi3] at hr
 refine ⟨_,fun ty=>by rw [hD];exact hr ty,?_,grown_setRow _ _ _⟩
 have hnew:∀ r∈rows.take i ++ rows.drop (i+1),r.length=size:=by
  intro r hr
  rcases List.mem_append.1 hr with hr|hr
  ·exact h.2 r (List.mem_of_mem_take hr)
  ·exact h.2 r (List.mem_of_mem_drop hr)
 have hlen:(rows.take i ++ rows.drop (i+1)).length=n - 1:=by simp;omega
 have hin2:i*size≤n*size:=Nat.mul_le_mul_right _ (by omega)
 have e1:cur.toList.take (i*size)=(rows.take i).flatten:=by rw [flatten_take h.2,←hct,List.take_take,Nat.min_eq_left hin2]
 have:=Own.put (e:=e) (cur':=(cur.toList.take (i*size) ++ (rows.drop (i+1)).flatten ++ cur.toList.drop (i*size+(rows.drop (i+1)).flatten.length)).toArray) hb hc hcm (by simp only [List.size_toArray,List.length_append,List.length_take,List.length_drop,hfl];omega) hnew (by omega) (by
  have hl2:(rows.take i).flatten.length+(rows.drop (i+1)).flatten.length=(n - 1)*size:=by
   rw [←hlen,←flatten_length hnew,List.flatten_append,List.length_append]
  rw [hlen]
  simp only [List.flatten_append]
  rw [←hl2,e1,←List.length_append]
  exact List.take_left)
 rw [hlen] at this
 exact this
theorem Own.wipe (ht:P.underlying t=some (.slice e)) (hi:(P.info? e).map (fun i=>(i.zero,i.size,i.bytes))=some (some z,size,bytes)) (hzs:z.cells.size=size) (hsz:0<size) (hz1:∀ u∈z.cells.toList,u.oneCell'=true)
  (h:Own w base e size (.slice (some ⟨g,0,none⟩) n cap) rows) (hin:n<cap) :
  ∃ w',(∀ ty,(Builtin.clear_ #[t] ty #[.slice (cutA (some ⟨g,0,none⟩) cap n size) 1 (cap - n)]).run P w = .ok (.tuple #[]) w') ∧
   Own w' base e size (.slice (some ⟨g,0,none⟩) n cap) rows∧w.grownBy w' (some g):=by
 obtain ⟨ti,hi1,hi2,hi3,hi4⟩:=info_parts hi
 obtain ⟨hb,hn',hnc,hcm,cur,hc,hcs,hct⟩:=h.parts
 have hcl:cur.toList.length=cap*size:=by simpa using hcs
 have hD:cutA (some ⟨g,0,none⟩) cap n size=some ⟨g,n*size,none⟩:=by
  unfold cutA
  rw [if_neg (by omega)]
  simp [Addr.add_lit]
 have hms:(n+1)*size≤cap*size:=Nat.mul_le_mul_right _ (by omega)
 rw [Nat.add_mul,Nat.one_mul] at hms
 have hzl:(Builtin.zeroCells z.cells 1).toList=z.cells.toList:=by rw [zeroCells_flat z.cells 1 (by omega)];simp
 have hst:=run_storeCells_at P g (n*size) e z.cells.toList 0 cur w hc (by simp [hzs];omega) hz1
 refine ⟨_,fun ty=>?_,?_,grown_setRow w g (cur.toList.take (n*size+0) ++ z.cells.toList ++ cur.toList.drop (n*size+0+z.cells.toList.length)).toArray⟩
 ·simp [Builtin.clear_,run_underlying ht,hD,zeroValue,typeInfo,hi1,hi2,hzl,hst]
 ·have:=Own.put (e:=e) (cur':=(cur.toList.take (n*size+0) ++ z.cells.toList ++ cur.toList.drop (n*size+0+z.cells.toList.length)).toArray) hb hc hcm (by simp only [List.size_toArray,List.length_append,List.length_take,List.length_drop,Array.length_toList,hzs];omega) h.2 (by omega) (by
   rw [←hn',←hct,List.append_assoc,Nat.add_zero,List.take_append,List.take_take,Nat.min_self,List.length_take,Nat.min_eq_left (by omega),Nat.sub_self,List.take_zero,List.append_nil])
  rw [←hn'] at this
  exact this
end
section
variable {P:Program} {ops:Array Oper} {o:Oper} {a:Act} {Q:Exit→Act→World→Prop}
theorem step_append_run {w:World} {K:Act→World→Prop} {E:Prop}
  (hg:o.guard=none) (d x:Operand) (dT sT:TypeId) (hop:o.op=Op.call { callee:=Callee.builtin Builtin.append,args:=#[d,x],argTypes:=#[dT,sT] })
  (v u:Value) (hd:a.eval d=v) (hx:a.eval x=u) {v':Value} {w':World} (hr:(Builtin.append_ #[dT,sT] o.type #[v,u]).run P w = .ok v' w') (hK:K (a.put o.dst v') w') :
  if Region.wanted o (yielded ops a.tmps)=true then Oper.wp P o a w K Q else E:=by
 have hw:Region.wanted o (yielded ops a.tmps)=true:=by simp [Region.wanted,hg]
 rw [if_pos hw]
 unfold Oper.wp
 simp [execOp,hop,resolve,invoke,builtin,hd,hx,hr,Result.andThen]
 exact hK
end
structure At (w:World) (base:Nat) (e:TypeId) (A:Option Addr) (n c:Nat) (rows:List (List Value)):Prop where
 sl:Sl w 1 A n c rows
 blk:∀ a,A=some a→base≤a.block∧a.spot=none∧∃ cur,Blk w a.block e cur∧a.off+c≤cur.size
section
variable {w w':World} {base g off n c:Nat} {e t:TypeId} {A:Option Addr} {rows:List (List Value)}
theorem At.lt (h:At w base e A n c rows):∀ a,A=some a→a.block<w.heap.size:=fun a ha=>by
 obtain ⟨_,_,cur,h3,_⟩:=h.blk a ha;exact h3.lt
theorem Sl.kept {size:Nat} (h:Sl w size A n c rows) (hs:w.heap.size≤w'.heap.size) (hk:∀ a,A=some a→a.block<w.heap.size→w'.heap[a.block]?=w.heap[a.block]?):Sl w' size A n c rows:=by
 refine ⟨h.len,h.nc,h.cm,h.nil,fun hn=>?_,h.row⟩
 obtain ⟨b,o,e1,hb,hc⟩:=h.seg hn
 refine ⟨b,o,e1,Nat.lt_of_lt_of_le hb hs,fun i r hr j u hu=>?_⟩
 rw [World.cell?_of_block (a:=⟨b,o+(i*size+j),none⟩) (hk ⟨b,o,none⟩ e1 hb)]
 exact hc i r hr j u hu
end
end Go.Proofs.YtgdcofbnbiclmaaGreatDoor

