import Derived.WalkKit
import Derived.WalkSpells
import Derived.WalkLawsBesides
import Derived.Deep.Draws
import Derived.Test.YtgdcofbnbiclmaaGreatDoorProg
import Derived.Deep.QuietTactic
import Derived.BigQuiet
namespace Go.Proofs.YtgdcofbnbiclmaaGreatDoor
set_option linter.all false
set_option maxHeartbeats 32000000
open Go.RowKit

theorem hide {p:Prop} (h:p):Hid p:=h

theorem ret_int {k:IntKind} {a b:Int} (h:a=b):Ending.returned (.int k a) = .returned (.int k b):=by rw [h]
theorem ret_bool {a b:Bool} (h:a=b):Ending.returned (.bool a) = .returned (.bool b):=by rw [h]

def Seg (w:World) (size:Nat) (A:Option Addr) (rows:List (List Value)):Prop:=
 0<rows.length→∃ b off,A=some ⟨b,off,none⟩∧b<w.heap.size ∧
  ∀ i r,rows[i]?=some r→∀ j u,r[j]?=some u→w.cell? ⟨b,off+(i*size+j),none⟩=some u

section
variable {w w':World} {size:Nat} {A:Option Addr} {rows:List (List Value)}

theorem Seg.nil:Seg w size A []:=fun h=>absurd h (by simp)

theorem Seg.keep (h:Seg w size A rows) (hs:w.heap.size≤w'.heap.size) (hk:∀ p:Addr,p.block<w.heap.size→w'.cell? p=w.cell? p):Seg w' size A rows:=fun hn=>by
 obtain ⟨b,off,e,hb,hc⟩:=h hn
 exact ⟨b,off,e,Nat.lt_of_lt_of_le hb hs,fun i r hr j u hu=>(hk _ hb).trans (hc i r hr j u hu)⟩

theorem Seg.below (h:Seg w size A rows) (hb:Below w.heap.size w w'):Seg w' size A rows:=h.keep hb.size fun _ hp=>hb.cell hp
theorem Seg.alloc (h:Seg w size A rows) (o:Obj):Seg (w.alloc o) size A rows:=
 h.keep (by simp) fun p hp=>World.cell?_alloc_lt w o p hp

theorem Seg.at_ (h:Seg w size A rows) {i:Nat} (hi:i<rows.length):∃ b off,A=some ⟨b,off,none⟩∧b<w.heap.size ∧
  ∀ j u,(rows[i])[j]?=some u→w.cell? ⟨b,off+(i*size+j),none⟩=some u:=by
 obtain ⟨b,off,e,hb,hc⟩:=h (by omega)
 exact ⟨b,off,e,hb,fun j u hu=>hc i _ (List.getElem?_eq_getElem hi) j u hu⟩
end

theorem bcell {W w1:World} (hb:Below W.heap.size W w1):(∀ b o,b<W.heap.size→w1.cell? ⟨b,o,none⟩=W.cell? ⟨b,o,none⟩)∧(∀ b o,b<W.heap.size→w1.frozen? ⟨b,o,none⟩=W.frozen? ⟨b,o,none⟩):=
 ⟨fun b o h=>hb.cell (p:=⟨b,o,none⟩) h,fun b o h=>hb.frozen (p:=⟨b,o,none⟩) h⟩

theorem bstep {a b c:World} (h:Below a.heap.size a b) (k:Below b.heap.size b c):Below a.heap.size a c:=h.trans (k.mono h.size)
theorem balloc {a b:World} (h:Below a.heap.size a b) (o:Obj):Below a.heap.size a (b.alloc o):=h.alloc h.size o
theorem bset {a b:World} (h:Below a.heap.size a b) {p:Addr} (hp:a.heap.size≤p.block) (u:Value):Below a.heap.size a (b.setCell p u):=h.setCell hp u
theorem bdrewN {B:Nat} {a w:World} (h:Below B a w) (n:Nat):Below B a (w.drewN n):=⟨h.os,h.tape,h.output,h.size,h.block⟩
theorem below_by {a b:World} (h:Below a.heap.size a b:=by repeat (first|(with_reducible exact Below.refl _ _)|(with_reducible assumption)|(with_reducible refine Below.drew ?_)|(with_reducible refine bdrewN ?_ _)|(with_reducible refine balloc ?_ _)|((with_reducible refine bset ?_ ?_ _);rotate_left;(focus first|exact Nat.le_refl _|(simp;done)|(simp;omega)|omega))|(with_reducible refine bstep ?_ (by with_reducible assumption))|(with_reducible refine Below.trans ?_ (by with_reducible assumption)))):Below a.heap.size a b:=h
theorem run_enter {P:Program} {f:FuncId} {fn:Func} (hf:P.funcs[f]?=some fn) (hname:(fn.name == "runtime.NumGoroutine")=false) (hb:fn.body.isNone=false) (args:Array Value) (w:World) :
  (callFunc f args).run P w = .ok (.enter f args) w:=by
 have h1:fn.name ≠ "runtime.NumGoroutine" := by simpa using hname
 simp only [Option.isNone_eq_false_iff] at hb
 obtain ⟨c,hc⟩:=Option.isSome_iff_exists.1 hb
 simp [callFunc,hf,h1,hc]

def Blk (w:World) (g:Nat) (t:TypeId) (cs:Array Value):Prop:=w.heap[g]?=some (.cells cs t (0,0))
section
variable {w w':World} {g:Nat} {t:TypeId} {cs:Array Value}
theorem Blk.lt (h:Blk w g t cs):g<w.heap.size:=by
 rcases Nat.lt_or_ge g w.heap.size with hl|hl
 ·exact hl
 ·unfold Blk at h;rw [Array.getElem?_eq_none hl] at h;cases h
theorem Blk.cell (h:Blk w g t cs) (i:Nat):w.cell? ⟨g,i,none⟩=cs[i]?:=by unfold Blk at h;simp [World.cell?,h]
theorem Blk.frozen (h:Blk w g t cs) (i:Nat):w.frozen? ⟨g,i,none⟩=false:=by unfold Blk at h;simp [World.frozen?,h]
theorem Blk.new (w:World) (t:TypeId) (cs:Array Value):Blk (w.alloc (.cells cs t)) w.heap.size t cs:=heap_alloc_new w _
theorem Blk.new' (w:World) (t:TypeId) (cs:Array Value) {g:Nat} (hg:g=w.heap.size):Blk (w.alloc (.cells cs t)) g t cs:=by subst hg;exact Blk.new w t cs
theorem Blk.drew (h:Blk w g t cs):Blk w.drew g t cs:=h
theorem Blk.drewN (h:Blk w g t cs) (n:Nat):Blk (w.drewN n) g t cs:=h
theorem Blk.alloc (h:Blk w g t cs) (o:Obj):Blk (w.alloc o) g t cs:=(Below.heap_alloc w o g h.lt).trans h
theorem Blk.far (h:Blk w g t cs) {p:Addr} (hp:g≠p.block) (u:Value):Blk (w.setCell p u) g t cs:=(Below.heap_setCell w p u g hp).trans h
theorem Blk.set' {cs':Array Value} {i:Nat} {u:Value} (h:Blk w g t cs) (he:cs.setIfInBounds i u=cs'):Blk (w.setCell ⟨g,i,none⟩ u) g t cs':=by
 subst he
 unfold Blk at h ⊢
 simp [World.setCell,Array.getElem?_modify,h]
theorem Blk.below {B:Nat} (h:Blk w g t cs) (hb:Below B w w') (hg:g<B):Blk w' g t cs:=(hb.block g hg).trans h
theorem Blk.below' (h:Blk w g t cs) (hb:Below w.heap.size w w'):Blk w' g t cs:=h.below hb h.lt
theorem Blk.grown {row:Option Nat} (h:Blk w g t cs) (hb:w.grownBy w' row) (hg:some g≠row):Blk w' g t cs:=(hb.block g h.lt hg).trans h
end

def strRows (l:List ByteArray):List (List Value):=l.map fun s=>[.string s]
theorem Seg.str {w:World} {A:Option Addr} {l:List ByteArray} (h:Seg w 1 A (strRows l)) {i:Nat} (hi:i<l.length) :
  ∃ b off,A=some ⟨b,off,none⟩∧b<w.heap.size∧w.cell? ⟨b,off+i,none⟩=some (.string l[i]):=by
 obtain ⟨b,off,e,hb,hc⟩:=h.at_ (i:=i) (by simpa [strRows] using hi)
 exact ⟨b,off,e,hb,by simpa [strRows] using hc 0 (.string l[i]) (by simp [strRows])⟩

def idxFn (o:Option Nat):Int:=match o with|some i=>(i:Int)|none=>-1
section
variable {α:Type} {p:α→Bool} {l:List α} {k:Nat}
theorem idx_miss (h:Hid (∀ j,j<l.length→∀ s,l[j]?=some s→p s=false)):idxFn (l.findIdx? p) = -1:=by
 have:l.findIdx? p=none:=by
  rw [List.findIdx?_eq_none_iff]
  intro x hx
  obtain ⟨j,hj,rfl⟩:=List.getElem_of_mem hx
  exact h j hj _ (List.getElem?_eq_getElem hj)
 rw [this];rfl
theorem idx_hit (hk:k<l.length) (hp:p l[k]=true) (h:Hid (∀ j,j<k→∀ s,l[j]?=some s→p s=false)):idxFn (l.findIdx? p)=k:=by
 have:l.findIdx? p=some k:=by
  rw [List.findIdx?_eq_some_iff_getElem]
  refine ⟨hk,hp,fun j hj=>?_⟩
  have:=h j hj _ (List.getElem?_eq_getElem (by omega))
  simp [this]
 rw [this];rfl
theorem idx_next (hk:k<l.length) (hp:p l[k]=false) (h:Hid (∀ j,j<k→∀ s,l[j]?=some s→p s=false)):Hid (∀ j,j<k+1→∀ s,l[j]?=some s→p s=false):=by
 intro j hj s hs
 rcases Nat.lt_succ_iff_lt_or_eq.1 hj with h1|rfl
 ·exact h j h1 s hs
 ·rw [List.getElem?_eq_getElem hk] at hs;injection hs with hs;rw [←hs];exact hp
theorem idx_any:(0≤idxFn (l.findIdx? p))=(l.any p=true):=by
 cases h:l.findIdx? p with
 | none=>
  rw [List.findIdx?_eq_none_iff] at h
  simp [idxFn]
  intro x hx;simp [h x hx]
 | some i=>
  rw [List.findIdx?_eq_some_iff_getElem] at h
  obtain ⟨hi,hp,_⟩:=h
  simp [idxFn]
  exact ⟨_,List.getElem_mem hi,hp⟩
end

theorem IndexFunc_str (f:FuncId) (hf:∀ args w,(callFunc f args).run Tryz.prog w = .ok (.enter f args) w) (p:ByteArray→Bool) (hp:∀ s w,Calls Tryz.prog f #[.string s] w fun e w'=>e = .returned (.bool (p s))∧w=w')
  (A:Option Addr) (ln c:Nat) (l:List ByteArray) (w:World) (hln:l.length=ln) (hl:l.length≤9223372036854775807) (h:Seg w 1 A (strRows l)) :
  Calls Tryz.prog 154 #[.slice A ln c,.func (.func f) #[] #[]] w fun e w'=>e = .returned (.int .i64 (idxFn (l.findIdx? p)))∧w=w':=by
 subst hln
 have HP:=hide hp
 clear hp
 go_enter Tryz.func154,Tryz.ntmps154
 go_wp2
 go_loop [5,8] (fun _ i=>∃ k:Nat,k≤l.length∧i = .int .i64 k∧Hid (∀ j,j<k→∀ s,l[j]?=some s→p s=false)) (fun _ i=>l.length - (intOf i).toNat)
 case atStart=>exact ⟨0,by omega,rfl,fun j hj=>by omega⟩
 case round=>
  obtain ⟨k,hk,rfl,HQ⟩:=hrel
  by_cases hlt:k<l.length
  ·obtain ⟨b,off,rfl,hb,hc⟩:=h.str hlt
   go_wp2_with fail
   by_cases hps:p l[k]=true
   ·refine (HP.out _ _).mono ?_
    rintro e w' ⟨rfl,rfl⟩
    go_wp2_with fail
    go_ret
    exact ⟨by rw [idx_hit hlt hps HQ];rfl,rfl⟩
   ·have hps':p l[k]=false:=by simpa using hps
    refine (HP.out _ _).mono ?_
    rintro e w' ⟨rfl,rfl⟩
    go_wp2_with fail
    go_round
    case rel=>exact ⟨k+1,by omega,by go_num,idx_next hlt hps' HQ⟩
    case measure=>simp [intOf];omega
  ·obtain rfl:k=l.length:=by omega
   go_wp2_with fail
   go_ret
   exact ⟨by rw [idx_miss HQ];rfl,rfl⟩

theorem ContainsFunc_str (f:FuncId) (hf:∀ args w,(callFunc f args).run Tryz.prog w = .ok (.enter f args) w) (p:ByteArray→Bool) (hp:∀ s w,Calls Tryz.prog f #[.string s] w fun e w'=>e = .returned (.bool (p s))∧w=w')
  (A:Option Addr) (ln c:Nat) (l:List ByteArray) (w:World) (hln:l.length=ln) (hl:l.length≤9223372036854775807) (h:Seg w 1 A (strRows l)) :
  Calls Tryz.prog 113 #[.slice A ln c,.func (.func f) #[] #[]] w fun e w'=>e = .returned (.bool (l.any p))∧w=w':=by
 subst hln
 have HP:=hide hp
 clear hp
 go_enter Tryz.func113,Tryz.ntmps113
 go_wp2_with fail
 refine (IndexFunc_str f hf p HP.out A _ c l w rfl hl h).mono ?_
 rintro e w' ⟨rfl,rfl⟩
 go_wp2_with fail
 go_ret
 exact ⟨by simp only [ge_iff_le,idx_any,Bool.decide_eq_true];rfl,rfl⟩
end Go.Proofs.YtgdcofbnbiclmaaGreatDoor

