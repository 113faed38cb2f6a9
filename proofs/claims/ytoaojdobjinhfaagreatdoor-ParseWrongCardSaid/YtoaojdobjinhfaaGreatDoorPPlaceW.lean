/- The program's lexer: Place, walked, with the iterator that it ranges over. For sources of at most a million bytes. -/
import Derived.Test.YtoaojdobjinhfaaGreatDoorLexMW
import Derived.Test.YtoaojdobjinhfaaGreatDoorOnlyW
import Derived.Test.YtoaojdobjinhfaaGreatDoorPPlaceC
set_option linter.unusedSimpArgs false
set_option linter.unusedVariables false
set_option maxRecDepth 100000
set_option maxHeartbeats 2000000
namespace Go.Proofs.YtoaojdobjinhfaaGreatDoor
open Go.RowKit Go.Shelf
attribute [local go_sem] Oper.semAt_some

def plS (s : List UInt8) (i : Nat) : Int × Int := posS (s.take i) 1 1
def placeS2 (s : List UInt8) (a : Int) : Int × Int := if 0 ≤ a ∧ a ≤ s.length then plS s a.toNat else (0, 0)
theorem pl_next (s:ByteArray) {i:Nat} (h:i < s.size):plS s.data.toList (i+1)=if s[i].toNat=10 then ((plS s.data.toList i).1+1,1) else ((plS s.data.toList i).1,(plS s.data.toList i).2+1):=by
 unfold plS;rw [List.take_succ_eq_append_getElem (by rw [zaq];exact h),ziU,zdH s i h];simp only [posS]
theorem pl_le (s:ByteArray) {i:Nat} (h:i≤s.size):(0≤(plS s.data.toList i).1∧(plS s.data.toList i).1≤s.size+1)∧(0≤(plS s.data.toList i).2∧(plS s.data.toList i).2≤s.size+1):=by
 have:=zm4 (s.data.toList.take i) 1 1 (by omega) (by omega);have hl:(s.data.toList.take i).length≤i:=List.length_take_le _ _;unfold plS;omega
theorem OwnV.keeps {W W':World} {g:Nat} {e:TypeId} {vs:List Value} (h:OwnV W g e vs) (hk:KeepsCells W W'):OwnV W' g e vs:=hk.2 _ _ h rfl
theorem OwnV.stay {W W':World} {g:Nat} {e:TypeId} {vs:List Value} (h:OwnV W g e vs) {row:Option Nat} (hg:W.grownBy W' row) {B:Nat} (hr:∀ r,row=some r→B≤r) (hlt:g < B):OwnV W' g e vs:=stays_block h hg hr hlt
theorem grown_set (w:World) (b o:Nat) (v:Value):w.grownBy (w.setCell ⟨b,o,none⟩ v) (some b):=
 ⟨rfl,rfl,rfl,by have:=((Below.refl 0 w).setCell (p:=⟨b,o,none⟩) (Nat.zero_le _) v).size;exact this,fun k _ hne=>Below.heap_setCell w _ v k (fun e=>hne (by rw [e]))⟩
theorem range_pre {m n:Nat} (h:m≤n):List.range m <+: List.range n:=by
 have:=List.take_prefix m (List.range n);rw [List.take_range,Nat.min_eq_left h] at this;exact this
theorem places_in (n:Nat) (s:ByteArray) (w:World) :
  CallsIn Fence.wide n Tryz.prog 68 #[.string s] w fun e w'=>e=.returned (.func (.func 108) #[] #[.pointer (some ⟨w.heap.size,0,none⟩)])∧w'=w.alloc (.cells #[.string s] 9):=by
 refine callsIn_of_wp Tryz.func68 rfl trivial ?_ rfl;simp only [Tryz.ntmps68,List.size_toArray,List.length_cons,List.length_nil,Nat.reduceAdd,Nat.reduceSub,Array.replicate_succ,Array.replicate_zero,List.push_toArray,List.append_toArray,List.nil_append,List.cons_append];gi_wp2
 go_ret;exact ⟨rfl,rfl⟩
theorem places1_in (l Bn:Nat) (s:ByteArray) (hs:s.size≤1000000) (J Jx:List Nat→World→Prop) (W:World) (hJ:Stays W.heap.size J)
  (hY:∀ pre x W1,J pre W1→YieldAt Fence.wide 4 Tryz.prog l #[.int .i64 (x:Nat),.agg #[.int .i64 (plS s.data.toList x).1,.int .i64 (plS s.data.toList x).2]] W1 fun e W' =>
   (e=.returned (.bool true)∧J (pre++[x]) W'∧KeepsCells W1 W')∨(e=.returned (.bool false)∧Jx (pre++[x]) W'))
  (hBn:OwnV W Bn 9 [.string s]) (h0:J [] W) :
  CallsIn Fence.wide 5 Tryz.prog 108 #[.func (.yield l) #[] #[],.pointer (some ⟨Bn,0,none⟩)] W fun e W'=>(∃ v,e=.returned v) ∧
   ((∃ ys,ys=List.range (s.size+1)∧J ys W')∨(∃ pre,pre <+: List.range (s.size+1)∧Jx pre W')):=by
 obtain ⟨pb,hpb⟩:∃ pb,pb=W.heap.size:=⟨_,rfl⟩;have HBn:Hid (OwnV (W.alloc (.cells #[.int .i64 1,.int .i64 1] 81)) Bn 9 [.string s]):=zh (hBn.alloc _);have HPb:Hid (OwnV (W.alloc (.cells #[.int .i64 1,.int .i64 1] 81)) pb 81 [.int .i64 1,.int .i64 1]):=zh (by rw [hpb];exact OwnV.new W 81 [.int .i64 1,.int .i64 1]);have HJ:=zh hJ;have hne:Bn≠pb:=by have:=hBn.lt;omega
 have H0:Hid (J [] (W.alloc (.cells #[.int .i64 1,.int .i64 1] 81))):=zh (hJ _ _ _ none h0 (World.grownBy_alloc W _ none) (fun r e=>by cases e));have Hpb:=zh hpb;clear hBn h0 hJ;refine callsIn_of_wp Tryz.func108 rfl trivial ?_ rfl;simp only [Tryz.ntmps108,List.size_toArray,List.length_cons,List.length_nil,Nat.reduceAdd,Nat.reduceSub,Array.replicate_succ,Array.replicate_zero,List.push_toArray,List.append_toArray,List.nil_append,List.cons_append];gi_wp2
 rw [← hpb];clear hpb;gi_loopw [4,6,7,8,9,10,11,12,13,14,15,16,17,18,19,20,21,22,23,24,25,26,27,28,29,30,31,32,33,34] (fun t4 _ _ _ _ _ _ _ _ _ _ _ _ _ _ _ _ _ _ _ _ _ _ _ _ _ _ _ _ _ wr=>∃ i:Nat,i≤s.size∧t4=.int .i64 i∧Hid (J (List.range i) wr)∧Hid (OwnV wr Bn 9 [.string s])∧Hid (OwnV wr pb 81 [.int .i64 (plS s.data.toList i).1,.int .i64 (plS s.data.toList i).2])) (fun t4 _ _ _ _ _ _ _ _ _ _ _ _ _ _ _ _ _ _ _ _ _ _ _ _ _ _ _ _ _ _=>s.size - (intOf t4).toNat)
 case atStart=>exact ⟨0,by omega,rfl,zh H0.out,zh HBn.out,zh HPb.out⟩
 case round =>
  clear HBn HPb H0;obtain ⟨i,hi,rfl,HJi,HB,HP⟩:=hrel;have hc:=OwnV.cell HB.out (i:=0) rfl;have p0:=OwnV.cell HP.out (i:=0) rfl;have p1:=OwnV.cell HP.out (i:=1) rfl;obtain ⟨fn,tmps,assign,body,hy,hR⟩:=hY _ i wr HJi.out;have Hle:=zh (pl_le s hi);obtain ⟨hL,hC⟩:=Hle.out;have HR:=zh hR;have Hr:Hid (List.range i++[i]=List.range (i+1)):=zh (List.range_succ).symm;clear hR;by_cases hlt:i < s.size
  ·have Hnx0:=zh (pl_next s hlt);have Hnx0:=zh (pl_next s hlt)
   obtain ⟨t,ht,HT⟩:∃ t:Bool,((s[i].toNat:Int) == 10)=t∧Hid (plS s.data.toList (i+1)=if t=true then ((plS s.data.toList i).1+1,1) else ((plS s.data.toList i).1,(plS s.data.toList i).2+1)):=⟨_,rfl,zh (by
    rw [Hnx0.out];by_cases e:s[i].toNat=10
    ·have e2:((s[i].toNat:Int) == 10)=true:=by simp [e]
     rw [if_pos e,e2,if_pos rfl]
    ·have e2:((s[i].toNat:Int) == 10)=false:=by rw [beq_eq_false_iff_ne];omega
     rw [if_neg e,e2,if_neg (by decide)])⟩
   have hb0:s[i].toNat≤255:=by have:=s[i].toNat_lt;omega
   have hii:((i:Int) == (s.size:Int))=false:=by rw [beq_eq_false_iff_ne];omega
   have hile:i≤s.size:=hi
   generalize plS s.data.toList i=pi at *
   obtain ⟨L,C⟩:=pi;simp only at hL hC p0 p1 hy;have Hnx:=HT;clear HT;cases t
   all_goals
    gi_wp2
    refine HR.out.mono ?_;rintro e W3 (⟨rfl,hJ3,hk3⟩ | ⟨rfl,hJx3⟩)
    ·have HJ3:Hid (J (List.range (i+1)) W3):=zh (by rw [← Hr.out];exact hJ3);have HB3:=zh (HB.out.keeps hk3);have HP3:=zh (HP.out.keeps hk3);clear hJ3 hk3 hc p0 p1 hy;have hc:=OwnV.cell HB3.out (i:=0) rfl;have p0:=OwnV.cell HP3.out (i:=0) rfl;have p1:=OwnV.cell HP3.out (i:=1) rfl;have pf:∀ o,W3.frozen? ⟨pb,o,none⟩=false:=fun o=>OwnV.free HP3.out o
     gi_wp2
     go_roundw
     case rel =>
      first
       | exact ⟨i+1,by omega,by go_num,zh (HJ.out _ _ _ (some pb) HJ3.out (grown_set _ _ _ _) (fun r e=>by cases e;rw [Hpb.out];exact zr _)),zh (HB3.out.set_ne hne _),zh (by rw [Hnx.out];exact HP3.out.set 1 _)⟩
       | exact ⟨i+1,by omega,by go_num,zh (HJ.out _ _ _ (some pb) (HJ.out _ _ _ (some pb) (HJ.out _ _ _ (some pb) HJ3.out (grown_set _ _ _ _) (fun r e=>by cases e;rw [Hpb.out];exact zr _)) (grown_set _ _ _ _) (fun r e=>by cases e;rw [Hpb.out];exact zr _)) (grown_set _ _ _ _) (fun r e=>by cases e;rw [Hpb.out];exact zr _)),zh (((HB3.out.set_ne hne _).set_ne hne _).set_ne hne _),zh (by rw [Hnx.out];exact ((HP3.out.set 1 _).set 0 _).set 1 _)⟩
     case measure=>simp [intOf];omega
    ·gi_wp2
     refine bodyPost_ret (results_none rfl _ _ _) rfl ?_;refine ⟨⟨_,rfl⟩,.inr ⟨_,?_,hJx3⟩⟩;rw [Hr.out];exact range_pre (by omega)
  ·obtain rfl:i=s.size:=by omega
   have hile:s.size≤s.size:=hi;gi_wp2
   refine HR.out.mono ?_;rintro e W3 (⟨rfl,hJ3,hk3⟩ | ⟨rfl,hJx3⟩)
   ·have HB3:=zh (HB.out.keeps hk3);have HJ3:=zh hJ3;clear hk3 hc p0 p1 hy hJ3;have hc:=OwnV.cell HB3.out (i:=0) rfl;gi_wp2
    refine bodyPost_ret (results_none rfl _ _ _) rfl ?_;exact ⟨⟨_,rfl⟩,.inl ⟨_,Hr.out,HJ3.out⟩⟩
   ·gi_wp2
    refine bodyPost_ret (results_none rfl _ _ _) rfl ?_;refine ⟨⟨_,rfl⟩,.inr ⟨_,?_,hJx3⟩⟩;rw [Hr.out];exact List.prefix_rfl
theorem places_stops (Bn:Nat) (s:ByteArray) (hs:s.size≤1000000) (w:World) (hBn:OwnV w Bn 9 [.string s]) :
  SeqCells Tryz.prog 108 #[.pointer (some ⟨Bn,0,none⟩)] (fun x:Nat=>#[Value.int .i64 (x:Nat),Value.agg #[.int .i64 (plS s.data.toList x).1,.int .i64 (plS s.data.toList x).2]]) KeepsCells (fun ys=>ys=List.range (s.size+1)) (fun pre=>pre <+: List.range (s.size+1)) w:=
 fun l J Jx W hW hJ _ hY h0=>places1_in l Bn s hs J Jx W hJ hY (hBn.below hW (zr _)) h0
def PlI (n0 : Nat) (a : Int) (w : World) (pre : List Nat) (W : World) : Prop :=
  (∀ y ∈ pre, (y : Int) ≠ a) ∧ OwnV W n0 3 [.int .i64 a] ∧ OwnV W (n0 + 1) 3 [.int .i64 0] ∧ OwnV W (n0 + 1 + 1) 3 [.int .i64 0] ∧ Below n0 w W ∧ n0 + 3 ≤ W.heap.size
def PlX (s : List UInt8) (n0 : Nat) (a : Int) (w : World) (c : Code) (pre : List Nat) (W : World) : Prop :=
  c = .ret ∧ ∃ (p : List Nat) (x : Nat), pre = p ++ [x] ∧ (x : Int) = a ∧ OwnV W (n0 + 1) 3 [.int .i64 (plS s x).1] ∧ OwnV W (n0 + 1 + 1) 3 [.int .i64 (plS s x).2] ∧ Below n0 w W ∧ n0 + 3 ≤ W.heap.size
theorem below_stay {n0 B:Nat} {w W W':World} (h:Below n0 w W) {row:Option Nat} (hg:W.grownBy W' row) (hr:∀ r,row=some r→B≤r) (hB:n0≤B) (hs:n0≤W.heap.size):Below n0 w W':=
 h.grown hg hs fun r e=>Nat.le_trans hB (hr r e)
theorem plI_stays {n0:Nat} {a:Int} {w:World} {B:Nat} (hB:n0+3≤B):Stays B (PlI n0 a w):=by
 intro s W W' row ⟨h1,h2,h3,h4,h5,h6⟩ hg hr;exact ⟨h1,h2.stay hg hr (by omega),h3.stay hg hr (by omega),h4.stay hg hr (by omega),below_stay h5 hg hr (by omega) (by omega),Nat.le_trans h6 hg.size⟩
theorem plX_stays {s:List UInt8} {n0:Nat} {a:Int} {w:World} {B:Nat} (hB:n0+3≤B) (c:Code):Stays B (PlX s n0 a w c):=by
 intro y W W' row ⟨h1,p,x,h2,h3,h4,h5,h6,h7⟩ hg hr;exact ⟨h1,p,x,h2,h3,h4.stay hg hr (by omega),h5.stay hg hr (by omega),below_stay h6 hg hr (by omega) (by omega),Nat.le_trans h7 hg.size⟩
theorem place_leave {n:Nat} {tmps:Array Value} {W:World} {D g1 g2:Nat} {y z:Value} {R:Ending→World→Prop} (h2:tmps[4]?.getD undef=.pointer (some ⟨g1,0,none⟩)) (h3:tmps[5]?.getD undef=.pointer (some ⟨g2,0,none⟩)) (HT:OwnV W g1 3 [y]) (HE:OwnV W g2 3 [z])
  (hD:W.heap[D]? = some (.deferred (some []))) (hR:R (.returned (.tuple #[y,z])) (W.putObj D (.deferred none))):LeavesInM Fence.wide n Tryz.prog Tryz.f37 tmps R [{ target:=.collected D,args:=#[] }] .returning W:=by
 have hr:∀ r,some D=some r→∃ o:Obj,W.heap[r]? = some o∧o.isCells=false:=fun r e=>by cases e;exact ⟨_,hD,rfl⟩
 refine ⟨by simp,.inl ⟨_,_,rfl,run_takeDeferred hD,?_⟩⟩;refine ⟨.tuple #[y,z],?_,hR⟩;have t0:=OwnV.cell (HT.ofNon (grownBy_putObj' W D (.deferred none)) hr) (i:=0) rfl;have e0:=OwnV.cell (HE.ofNon (grownBy_putObj' W D (.deferred none)) hr) (i:=0) rfl;simp [results,Tryz.results37,go_sem,h2,h3,t0,e0]
theorem place_any (s:ByteArray) (a:Int) (w:World) (hs:s.size≤1000000) :
  Calls Tryz.prog 37 #[.string s,.int .i64 a] w fun e w'=>e=.returned (.tuple #[.int .i64 (placeS2 s.data.toList a).1,.int .i64 (placeS2 s.data.toList a).2])∧Below w.heap.size w w':=by
 refine callsIn_wide.1 (callsIn_of_wp_marks (n:=6) Tryz.func37 rfl trivial ?_ rfl);refine wpIn_wide.2 ?_;simp only [Tryz.ntmps37,List.size_toArray,List.length_cons,List.length_nil,Nat.reduceAdd,Nat.reduceSub,Array.replicate_succ,Array.replicate_zero,List.push_toArray,List.append_toArray,List.nil_append,List.cons_append];go_wp2_with fail
 go_at_call 68;refine (callsIn_wide.1 (places_in 6 _ _)).mono ?_;rintro e1 w5 ⟨rfl,rfl⟩;go_wp2_with fail
 obtain ⟨n0,hn0⟩:∃ n0,n0=w.heap.size:=⟨_,rfl⟩;obtain ⟨w6,hw6⟩:∃ w6,w6=((((w.alloc (.cells #[.int .i64 a] 3)).alloc (.cells #[.int .i64 0] 3)).alloc (.cells #[.int .i64 0] 3)).alloc (.cells #[.string s] 9)):=⟨_,rfl⟩;rw [← hw6];have HA6:OwnV w6 w.heap.size 3 [.int .i64 a]:=by rw [hw6];exact (((OwnV.new w 3 [.int .i64 a]).alloc _).alloc _).alloc _
 have HL6:OwnV w6 (w.heap.size+1) 3 [.int .i64 0]:=by rw [hw6];exact (((OwnV.newAt (w:=w.alloc _) (by simp) 3 [.int .i64 0]).alloc _).alloc _)
 have HC6:OwnV w6 (w.heap.size+1+1) 3 [.int .i64 0]:=by rw [hw6];exact ((OwnV.newAt (w:=(w.alloc _).alloc _) (by simp) 3 [.int .i64 0]).alloc _)
 have HB6:OwnV w6 (w.heap.size+1+1+1) 9 [.string s]:=by rw [hw6];exact OwnV.newAt (w:=((w.alloc _).alloc _).alloc _) (by simp) 9 [.string s]
 have HW6:Below w.heap.size w w6:=by rw [hw6];exact ((((Below.refl _ w).alloc (zr _) _).alloc (by simp) _).alloc (by simp;omega) _).alloc (by simp;omega) _
 have hsz6:w6.heap.size=w.heap.size+4:=by rw [hw6];simp
 rw [← hn0] at HA6 HL6 HC6 HB6 HW6 hsz6 ⊢;have Hn0:=zh hn0;clear hw6 hn0
 refine range_cells (gf:=108) (lb:=#[.pointer (some ⟨n0+1+1+1,0,none⟩)]) rfl (enters_of Tryz.func108 (by kernel_rfl) rfl) (fun _=>rfl) (places_stops (n0+1+1+1) s hs w6 HB6) KeepsCells.trans KeepsCells.put
  (PlI n0 a w) (PlX s.data.toList n0 a w) (plI_stays (by omega)) (plX_stays (by omega)) ⟨fun y hy=>(by cases hy),HA6,HL6,HC6,HW6,by omega⟩
  (fun x a' W=>∃ tb,OwnV W tb 81 [.int .i64 (plS s.data.toList x).1,.int .i64 (plS s.data.toList x).2]∧n0+3≤tb∧a'={ tmps:=#[Value.string s,Value.int IntKind.i64 a,undef,Value.pointer (some ⟨n0,0,none⟩),Value.pointer (some ⟨n0+1,0,none⟩),Value.pointer (some ⟨n0+1+1,0,none⟩),Value.int IntKind.i64 (x:Int),Value.pointer (some ⟨tb,0,none⟩),Value.string s,Value.func (Fn.func 108) #[] #[Value.pointer (some ⟨n0+1+1+1,0,none⟩)],Value.int IntKind.i64 (x:Int),Value.agg #[.int .i64 (plS s.data.toList x).1,.int .i64 (plS s.data.toList x).2],undef,undef,undef,undef,undef,undef,undef],defers:=[] })
  (fun x a' s W W' row ⟨tb,h1,h2,h3⟩ hg hr=>⟨tb,h1.ofNon hg (fun r e=>(hr r e).2),h2,h3⟩) ?assign ?body ?done ?stop
 case assign =>
  intro l pre x W K hi hK;have hsW:=hi.2.2.2.2.2;gi_wp2
  exact hK _ _ ((KeepsOthers.alloc _ _).from _) (KeepsCells.alloc _ _) (plI_stays (B:=n0+3) (zr _) _ _ _ none hi (World.grownBy_alloc W _ none) (fun r e=>by cases e)) ⟨W.heap.size,OwnV.new W 81 [.int .i64 (plS s.data.toList x).1,.int .i64 (plS s.data.toList x).2],hsW,rfl⟩
 case body =>
  rintro l pre x a' W ⟨h1,h2,h3,h4,h5,h6⟩ ⟨tb,hT,htb,rfl⟩;have a0:=OwnV.cell h2 (i:=0) rfl;have l0:=OwnV.cell h3 (i:=0) rfl;have lf:=OwnV.free h3 0;have c0:=OwnV.cell h4 (i:=0) rfl;have cf:=OwnV.free h4 0;have p0:=OwnV.cell hT (i:=0) rfl;have p1:=OwnV.cell hT (i:=1) rfl;have H1:=zh h1;have H2:=zh h2;have H3:=zh h3;have H4:=zh h4;have H5:=zh h5;have HT:=zh hT;clear h1 h2 h3 h4 h5 hT;by_cases hx:(x:Int)=a
  ·have hxa:((x:Int) == a)=true:=by simp [hx]
   have Hx:=zh hx;clear hx;gi_wp2
   gi_region_with (fail)
   all_goals
    gi_wp2
    have hs1:(W.setCell ⟨n0+1,0,none⟩ (.int .i64 (plS s.data.toList x).1)).heap.size=W.heap.size:=by simp
    first
     | exact ⟨zge (S:=fun g=>g=n0+1∨g=n0+1+1) ((((Only.refl _ W).setIn (.inl rfl) _).setIn (.inr rfl) _).drew) (by rintro k (rfl | rfl);exact ⟨_,_,H3.out⟩;exact ⟨_,_,H4.out⟩) _,rfl,pre,x,rfl,Hx.out,(((H3.out.set 0 _).set_ne (by omega) _).drew),(((H4.out.set_ne (by omega) _).set 0 _).drew),(((H5.out.setCell (p:=⟨n0+1,0,none⟩) (Nat.le_add_right n0 1) _).setCell (p:=⟨n0+1+1,0,none⟩) (Nat.le_add_right n0 2) _).drew),by simpa using h6⟩
     | exact ⟨zge (S:=fun g=>g=n0+1∨g=n0+1+1) ((((Only.refl _ W).setIn (.inr rfl) _).setIn (.inl rfl) _).drew) (by rintro k (rfl | rfl);exact ⟨_,_,H3.out⟩;exact ⟨_,_,H4.out⟩) _,rfl,pre,x,rfl,Hx.out,(((H3.out.set_ne (by omega) _).set 0 _).drew),(((H4.out.set 0 _).set_ne (by omega) _).drew),(((H5.out.setCell (p:=⟨n0+1+1,0,none⟩) (Nat.le_add_right n0 2) _).setCell (p:=⟨n0+1,0,none⟩) (Nat.le_add_right n0 1) _).drew),by simpa using h6⟩
  ·have hxa:((x:Int) == a)=false:=by simp [hx]
   have Hx:=zh hx;clear hx;gi_wp2
   refine ⟨(KeepsOthers.refl _).from _,⟨zr _,fun _ _ h _=>h⟩,?_,H2.out,H3.out,H4.out,H5.out,h6⟩;intro y hy;rcases List.mem_append.1 hy with hy | hy
   ·exact H1.out y hy
   ·rw [List.mem_singleton.1 hy];exact Hx.out
 case done =>
  rintro D ys W hD rfl ⟨h1,h2,h3,h4,h5,h6⟩ hDef;have a0:=OwnV.cell h2 (i:=0) rfl;have l0:=OwnV.cell h3 (i:=0) rfl;have lf:=OwnV.free h3 0;have c0:=OwnV.cell h4 (i:=0) rfl;have cf:=OwnV.free h4 0;have H1:=zh h1;have H3:=zh h3;have H4:=zh h4;have H5:=zh h5;have HD:=zh hDef;clear h1 h2 h3 h4 h5 hDef;have hD1:D≠n0+1:=by omega
  have hD2:D≠n0+1+1:=by omega
  go_wp2_with fail
  refine place_leave rfl rfl ((H3.out.set 0 _).set_ne (by omega) _) ((H4.out.set_ne (by omega) _).set 0 _) ?_ ⟨?_,?_⟩
  ·rw [Below.heap_setCell _ ⟨n0+1+1,0,none⟩ _ _ hD2,Below.heap_setCell _ ⟨n0+1,0,none⟩ _ _ hD1];exact HD.out
  ·have:placeS2 s.data.toList a=(0,0):=by
    unfold placeS2;rw [if_neg];rintro ⟨h1,h2⟩;rw [zaq] at h2;exact H1.out a.toNat (List.mem_range.2 (by omega)) (by omega)
   rw [this]
  ·rw [← Hn0.out];exact below_stay (B:=n0+3) ((H5.out.setCell (p:=⟨n0+1,0,none⟩) (Nat.le_add_right n0 1) _).setCell (p:=⟨n0+1+1,0,none⟩) (Nat.le_add_right n0 2) _) (grownBy_putObj' _ D _) (fun r e=>by cases e;omega) (by omega) (by simp;omega)
 case stop =>
  rintro D c pre W hD hpf ⟨rfl,p,x,rfl,hx,h3,h4,h5,h6⟩ hDef;have H3:=zh h3;have H4:=zh h4;have H5:=zh h5;have HD:=zh hDef;have Hx:=zh hx;have Hp:=zh hpf;clear h3 h4 h5 hDef hx hpf;go_wp2_with fail
  refine place_leave rfl rfl H3.out H4.out HD.out ⟨?_,?_⟩
  ·have hm:x ∈ List.range (s.size+1):=Hp.out.subset (by simp);have hxs:=List.mem_range.1 hm
   have:placeS2 s.data.toList a=plS s.data.toList x:=by
    unfold placeS2;rw [if_pos ⟨by have:=Hx.out;omega,by rw [zaq];have:=Hx.out;omega⟩];congr 1
    have:=Hx.out;omega
   rw [this]
  ·rw [← Hn0.out];exact below_stay (B:=n0+3) H5.out (grownBy_putObj' _ D _) (fun r e=>by cases e;omega) (by omega) (by omega)
end Go.Proofs.YtoaojdobjinhfaaGreatDoor
