/- What comes in, opened: a list of statements. -/
import Derived.Test.YtdhikpkecmaplaaGreatDoorBookMNk
import Derived.Test.YtdhikpkecmaplaaGreatDoorOpenSMk
set_option linter.unusedSimpArgs false
set_option linter.unusedVariables false
namespace Go.Proofs.YtdhikpkecmaplaaGreatDoor
open Go.ChangeShapes Go.WideShapes Go.RowKit
set_option maxRecDepth 100000

theorem zmR (b off k:Nat):(⟨b,off,none⟩:Addr).add k=⟨b,off+k,none⟩:=by
 unfold Addr.add;split
 ·next h=>rw [h,Nat.add_zero]
 ·rfl
theorem zlZ {H:Type} {enc:TypeId × Value->H} {P:Program} {w:World} {base:Nat} {spare:Nat->Bool} {held:Bool} {fuel:Nat} {t e:TypeId} {cs:List Value} {x:DataW H × List MemPlace} {α:Type} (sz:Nat) (hsz:0 < sz)
  (ht:P.underlying t=some (.slice e)) (hc:P.cellsOf e=sz) (R:List α->List Value->Prop) (r0:R [] []) (rj:∀ a b c d,R a b->R c d->R (a++c) (b++d))
  (el:∀ n cs y,n < fuel->DataW.trod enc P w base spare held n e cs=some y->∃ a,R [a] cs) (h:DataW.trod enc P w base spare held fuel t cs=some x) :
  ∃ v l ds,cs=[v]/\Sl w sz l.length ds v/\(l.length=0∨∀ g,v.ownBlock=some g->g < w.heap.size)/\R l ds:=by
 rcases DataW.trod_slice ht h with ⟨rfl,-⟩ | ⟨a,len,cap,elems,rest,n,rfl,rfl,-,hb,hl,hm,hlen,hel,-,-⟩
 ·exact ⟨_,[],[],rfl,Sl.nil w sz,.inl rfl,r0⟩
 ·rw [hc] at hel
  have key:∀ k,k<=len->∃ l ds,l.length=k/\ds.length=k * sz/\R l ds/\∀ j,j < k * sz->w.cell? (a.add j)=ds[j]?:=by
   intro k
   induction k with
   | zero=>intro _;exact ⟨[],[],rfl,by simp,r0,fun j hj=>by omega⟩
   | succ k ih =>
    intro hk;obtain ⟨l,ds,hl1,hd1,hr,hcell⟩:=ih (by omega);have:=hel k (by omega);rw [yD (by omega)] at this;obtain ⟨cs',h1,h2⟩:=Option.bind_eq_some_iff.1 this;obtain ⟨_,hlen',hcell'⟩:=World.cells?_some h1;obtain ⟨z,hz⟩:=el n cs' _ (Nat.lt_succ_self n) h2;refine ⟨l++[z],ds++cs',by simp [hl1],by rw [yA,hd1,hlen',Nat.succ_mul],rj _ _ _ _ hr hz,fun j hj=>?_⟩;rw [Nat.succ_mul] at hj;by_cases hj1:j < k * sz
    ·rw [List.getElem?_append_left (by omega)];exact hcell j hj1
    ·have:=hcell' (j - k * sz) (by omega);rw [Go.Deep.add_add,show k * sz+(j - k * sz)=j by omega] at this;rw [this,List.getElem?_append_right (by omega),hd1]
  obtain ⟨l,ds,rfl,hd,hr,hcell⟩:=key len (zr _)
  have hlow:0 < l.length->a.spot=none/\a.block < w.heap.size:=by
   intro h0;have hpos:0 < l.length * sz:=Nat.mul_pos h0 hsz;have e0:=hcell 0 hpos;rw [yD (by omega)] at e0;have e1:a.add 0=a:=by cases a;simp [Addr.add]
   rw [e1] at e0;exact ⟨World.cell?_spot e0,World.block_lt_of_cell? _ _ e0⟩
  refine ⟨_,l,ds,rfl,⟨some a,cap,rfl,hl,hm,hd,fun h0=>?_⟩,?_,hr⟩
  ·obtain ⟨hs,-⟩:=hlow h0;obtain ⟨b,off,spot⟩:=a;cases hs;refine ⟨b,off,rfl,fun j hj=>?_⟩;rw [<- zmR];exact hcell j hj
  ·rcases Nat.eq_zero_or_pos l.length with h0 | h0
   ·exact .inl h0
   ·right;intro g hg;obtain ⟨hs,hlt⟩:=hlow h0;obtain ⟨b,off,spot⟩:=a;cases hs;cases hg;exact hlt
theorem ziQ {n:Int} (h:(Lit.int .i64 n).wf=true):okI n:=by
 simp [Lit.wf,IntKind.min,IntKind.max,IntKind.signed,IntKind.bits] at h;unfold okI;omega
theorem zhm (s:ByteArray):bstr s.data.toList=s:=by cases s;unfold bstr;simp
variable {H : Type} {enc : TypeId × Value -> H} {w : World} {base : Nat} {spare : Nat -> Bool} {held : Bool}
set_option maxRecDepth 100000
variable {H : Type} {enc : TypeId × Value -> H} {w : World} {base : Nat} {spare : Nat -> Bool} {held : Bool}
theorem pt_of {n:Nat} {v0 v1 v2:Value} {y0 y1 y2:DataW H × List MemPlace} (h0:DataW.trod enc Tryz.prog w base spare held n 3 [v0]=some y0) (h1:DataW.trod enc Tryz.prog w base spare held n 3 [v1]=some y1) (h2:DataW.trod enc Tryz.prog w base spare held n 9 [v2]=some y2) :
  ∃ p:Pt,[v0,v1,v2]=p.cells/\okI p.tick/\okI p.slot/\p.src.length<=9223372036854775807:=by
 obtain ⟨a,e0,_,ha⟩:=DataW.trod_int Tryz.underlying3 h0;obtain ⟨b,e1,_,hb⟩:=DataW.trod_int Tryz.underlying3 h1;obtain ⟨s,e2,_,hs⟩:=DataW.trod_string Tryz.underlying9 h2;cases e0;cases e1;cases e2;exact ⟨⟨a,b,s.data.toList⟩,by simp [Pt.cells,zhm],ziQ ha,ziQ hb,hs⟩
theorem open_pts {fuel:Nat} {cs:List Value} {x:DataW H × List MemPlace} (h:DataW.trod enc Tryz.prog w base spare held fuel 24 cs=some x) :
  ∃ v l,cs=[v]/\Pts w l v/\Low w.heap.size l.length v/\∀ p ∈ l,okI p.tick/\okI p.slot/\p.src.length<=9223372036854775807:=by
 obtain ⟨v,l,ds,rfl,h1,h2,h3,h4⟩:=zlZ (α:=Pt) 3 (by omega) Tryz.underlying24 (by kernel_rfl) (fun l ds=>ds=znD l/\∀ p ∈ l,okI p.tick/\okI p.slot/\p.src.length<=9223372036854775807) ⟨rfl,by simp⟩
  (fun a b c d g1 g2=>⟨by rw [g1.1,g2.1,zox],fun p hp=>(List.mem_append.1 hp).elim (g1.2 p) (g2.2 p)⟩) (fun n cs y hn hy=>by
  obtain ⟨xs,m,rfl,-,hl,hlen,hf⟩:=DataW.trod_struct Tryz.underlying32 hy;have hl2:cs.length=3:=hl.trans (by kernel_rfl)
  match xs,hlen with
  | [y0,y1,y2],_ =>
  match cs,hl2 with
  | [c0,c1,c2],_ =>
  have g0:=hf 0 _ rfl;have g1:=hf 1 _ rfl;have g2:=hf 2 _ rfl;have k1:Tryz.prog.cellsOf 3 = 1:=by kernel_rfl
  have k2:Tryz.prog.cellsOf 9 = 1:=by kernel_rfl
  simp [k1,k2] at g0 g1 g2;obtain ⟨p,e,hp⟩:=pt_of g0 g1 g2
  exact ⟨p,by rw [e];simp [znD],by simpa using hp⟩) h
 rw [h3] at h1;exact ⟨v,l,rfl,h1,h2,h4⟩
theorem open_strs {fuel:Nat} {cs:List Value} {x:DataW H × List MemPlace} (h:DataW.trod enc Tryz.prog w base spare held fuel 23 cs=some x) :
  ∃ v l,cs=[v]/\Strs w l v/\Low w.heap.size l.length v/\∀ s ∈ l,s.length<=9223372036854775807:=by
 obtain ⟨v,l,ds,rfl,h1,h2,h3,h4⟩:=zlZ (α:=List UInt8) 1 (by omega) Tryz.underlying23 (by kernel_rfl) (fun l ds=>ds=l.map (fun s=>Value.string (bstr s))/\∀ s ∈ l,s.length<=9223372036854775807) ⟨rfl,by simp⟩
  (fun a b c d g1 g2=>⟨by rw [g1.1,g2.1,List.map_append],fun p hp=>(List.mem_append.1 hp).elim (g1.2 p) (g2.2 p)⟩) (fun n cs y hn hy=>by
  obtain ⟨s,e2,_,hs⟩:=DataW.trod_string Tryz.underlying9 hy;cases e2
  exact ⟨s.data.toList,by simp [zhm],fun x hx=>by rw [List.mem_singleton.1 hx];exact hs⟩) h
 rw [h3] at h1;exact ⟨v,l,rfl,h1,h2,h4⟩
theorem open_ys {fuel:Nat} {cs:List Value} {x:DataW H × List MemPlace} (h:DataW.trod enc Tryz.prog w base spare held fuel 22 cs=some x) :
  ∃ v l,cs=[v]/\Syss w l v/\Low w.heap.size l.length v/\∀ y ∈ l,y.ok:=by
 obtain ⟨v,l,ds,rfl,h1,h2,h3,h4⟩:=zlZ (α:=Sys) 4 (by omega) Tryz.underlying22 (by kernel_rfl) (fun l ds=>ds=l.flatMap Sys.cells/\∀ y ∈ l,y.ok) ⟨rfl,by simp⟩
  (fun a b c d g1 g2=>⟨by rw [g1.1,g2.1,List.flatMap_append],fun p hp=>(List.mem_append.1 hp).elim (g1.2 p) (g2.2 p)⟩) (fun n cs y hn hy=>by
  obtain ⟨xs,m,rfl,-,hl,hlen,hf⟩:=DataW.trod_struct Tryz.underlying61 hy;have hl2:cs.length=4:=hl.trans (by kernel_rfl)
  match xs,hlen with
  | [y0,y1,y2,y3],_ =>
  match cs,hl2 with
  | [c0,c1,c2,c3],_ =>
  have g0:=hf 0 _ rfl;have g1:=hf 1 _ rfl;have g2:=hf 2 _ rfl;have g3:=hf 3 _ rfl;have k1:Tryz.prog.cellsOf 3 = 1:=by kernel_rfl
  have k2:Tryz.prog.cellsOf 9 = 1:=by kernel_rfl
  have k3:Tryz.prog.cellsOf 57 = 1:=by kernel_rfl
  simp [k1,k2,k3] at g0 g1 g2 g3;obtain ⟨s,e,hs⟩:=sys_of g0 g1 g2 g3
  exact ⟨s,by rw [e];simp,by simpa using hs⟩) h
 rw [h3] at h1;exact ⟨v,l,rfl,h1,h2,h4⟩
theorem open_book {r:Reach} {b0:Nat} {v:Value} {d:DataW H} {p:List MemPlace}
  (hv:Value.okWide Tryz.prog w r b0 26 v) (h:DataW.Trod enc Tryz.prog w base spare held 26 v d p):∃ ys b vs vc vp,v=bkV b vs vc vp/\BkOk ys b/\BkIn w.heap.size w ys b vs vc vp:=by
 obtain ⟨v0,v1,v2,v3,y0,y1,y2,y3,n,rfl,_,_,h0,h1,h2,h3⟩:=Joins.open_agg4 Tryz.underlying26 (by kernel_rfl) (by kernel_rfl) hv h;obtain ⟨t,e0,-,ht⟩:=DataW.trod_int Tryz.underlying3 h0;obtain ⟨vs,ys,e1,a1,b1,c1⟩:=open_ys h1;obtain ⟨vc,sc,e2,a2,b2,c2⟩:=open_strs h2;obtain ⟨vp,pe,e3,a3,b3,c3⟩:=open_pts h3;cases e0;cases e1;cases e2;cases e3;exact ⟨ys,⟨t,sc,pe⟩,_,_,_,rfl,⟨c1,ziQ ht,c2,c3⟩,⟨a1,a2,a3,b1,b2,b3⟩⟩
end Go.Proofs.YtdhikpkecmaplaaGreatDoor
