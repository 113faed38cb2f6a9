/- The program's lexer: next, walked: the end, words, numbers. No condition but the bounds of a source. -/
import Derived.Test.YtdhikpkecmaplaaGreatDoorGlobMk
import Derived.Test.YtdhikpkecmaplaaGreatDoorPSkipMk
set_option linter.unusedSimpArgs false
set_option linter.unusedVariables false
set_option maxRecDepth 100000
set_option maxHeartbeats 4000000
namespace Go.Proofs.YtdhikpkecmaplaaGreatDoor
open Go.RowKit

theorem zcQ (l:List UInt8):(bstr l).size=l.length:=by rw [<- zaq];unfold bstr;simp
theorem zgg {src:ByteArray} {j:Nat} (hj:j < src.size) (hsz:src.size<=16384) (hd:zaG src[j]=true) (w:World) (hG:Glob w) :
  Calls Tryz.prog 163 #[.string (bstr ((src.data.toList.drop j).takeWhile zaf))] w fun e w'=>e=numC (zaS ((src.data.toList.drop j).takeWhile zaf))/\Below w.heap.size w w':=by
 have hrun:(src.data.toList.drop j).takeWhile zaf=src[j] :: ((src.data.toList.drop (j+1)).takeWhile zaf):=by
  rw [za2 src hj,zfF (zcZ hd)]
 have hle:((src.data.toList.drop j).takeWhile zaf).length<=src.size:=by
  have:=(List.takeWhile_prefix (l:=src.data.toList.drop j) zaf).length_le;rw [List.length_drop,zaq] at this;omega
 rw [hrun] at hle ⊢;have hs:=zcQ (src[j] :: ((src.data.toList.drop (j+1)).takeWhile zaf));have h0:0 < (bstr (src[j] :: ((src.data.toList.drop (j+1)).takeWhile zaf))).size:=by rw [hs];simp
 have:=zjU (bstr (src[j] :: ((src.data.toList.drop (j+1)).takeWhile zaf))) w hG (by rw [hs];omega) h0 hd;have hl:(bstr (src[j] :: ((src.data.toList.drop (j+1)).takeWhile zaf))).data.toList=src[j] :: ((src.data.toList.drop (j+1)).takeWhile zaf):=by unfold bstr;simp
 rw [hl] at this;exact this
def zev (b : Nat) (src : ByteArray) (j : Nat) (L C : Int) (w : World) (e : Ending) (w' : World) : HeadR -> Prop
  | .eof => e = .returned (.tuple #[.agg (Tok.cells ⟨4, [], 0, L, C⟩).toArray, .int .i64 0]) /\ Scan w' b L C src j /\ Only (fun g => g = b) w w'
  | .err code => (∃ (k n : Int) (t : ByteArray), e = .returned (.tuple #[.agg #[.int .u8 k, .string t, .int .i64 n, .int .i64 L, .int .i64 C], .int .i64 code])) /\ Only (fun g => g = b) w w'
  | .tok k t n => e = .returned (.tuple #[.agg (Tok.cells ⟨k, t, n, L, C⟩).toArray, .int .i64 0]) /\ Scan w' b L (C + t.length) src (j + t.length) /\ Only (fun g => g = b) w w'
theorem Scan.alloc {w:World} {b:Nat} {line col:Int} {src:ByteArray} {at':Nat} (h:Scan w b line col src at') (o:Obj):Scan (w.alloc o) b line col src at':=OwnV.alloc h o
theorem Scan.set_ne {w:World} {b:Nat} {line col:Int} {src:ByteArray} {at':Nat} (h:Scan w b line col src at') {g o:Nat} (hne:b≠g) (v:Value):Scan (w.setCell ⟨g,o,none⟩ v) b line col src at':=OwnV.set_ne h hne v
theorem zdb {tmps:Array Value} {w:World} {g1 g2:Nat} {a b c d e z:Value} (h2:tmps[2]?.getD undef=.pointer (some ⟨g1,0,none⟩)) (h3:tmps[3]?.getD undef=.pointer (some ⟨g2,0,none⟩)) (HT:OwnV w g1 180 [a,b,c,d,e]) (HE:OwnV w g2 35 [z]) :
  (results Tryz.f127 tmps).run Tryz.prog w=.ok (.tuple #[.agg #[a,b,c,d,e],z]) w:=by
 have t0:w.cell? ⟨g1,0,none⟩=some a:=OwnV.cell HT rfl;have t1:w.cell? ⟨g1,1,none⟩=some b:=OwnV.cell HT rfl;have t2:w.cell? ⟨g1,2,none⟩=some c:=OwnV.cell HT rfl;have t3:w.cell? ⟨g1,3,none⟩=some d:=OwnV.cell HT rfl;have t4:w.cell? ⟨g1,4,none⟩=some e:=OwnV.cell HT rfl;have e0:w.cell? ⟨g2,0,none⟩=some z:=OwnV.cell HE rfl;simp [results,Tryz.results127,go_sem,h2,h3,t0,t1,t2,t3,t4,e0]
theorem zg5:∀ (xs:List UInt8) (l c:Int),(∀ x ∈ xs,x.toNat≠10)->posS xs l c=(l,c+xs.length):=by
 intro xs
 induction xs with
 | nil=>intro l c _;simp [posS]
 | cons b r ih =>
  intro l c h;rw [posS,yN (h b (by simp)),ih _ _ (fun x hx=>h x (by simp [hx]))];simp only [yB,Prod.mk.injEq,true_and];omega
theorem zm7 {x:UInt8} (h:zaf x=true):x.toNat≠10:=by
 intro e;unfold zaf zaH zaV zaG za9 at h;rw [e] at h;revert h;decide
theorem zdZ (b:Nat) (src:ByteArray) (j:Nat) (L C:Int) (w:World) (hS:Scan w b L C src j) (hj:j<=src.size) (hsz:src.size<=16384) (h1:0<=L/\L<=j+1) (h2:0<=C/\C<=j+1) :
  Calls Tryz.prog 162 #[.pointer (some ⟨b,0,none⟩),.func (.func 159) #[] #[]] w fun e w'=>e=.returned (.string (bstr ((src.data.toList.drop j).takeWhile zaf)))/\Scan w' b L (C+((src.data.toList.drop j).takeWhile zaf).length) src (j+((src.data.toList.drop j).takeWhile zaf).length)/\Only (fun g=>g=b) w w':=by
 refine (zlp b src j L C w hS hj hsz h1 h2).mono ?_;unfold zbF;rw [zeu,zfE,zg5 _ _ _ (fun x hx=>zm7 (List.all_eq_true.1 (zgH _) x hx))];exact fun e w' h=>h
theorem zmp {src:ByteArray} {i j:Nat} (hi:i<=src.size) (hj:j<=src.size) (h:src.data.toList.drop i=src.data.toList.drop j):i=j:=by
 have:=congrArg List.length h;rw [List.length_drop,List.length_drop,zaq] at this;omega
theorem zcR (b:Nat) (src:ByteArray) (at' j:Nat) (line col L C:Int) (w:World) (hS:Scan w b line col src at') (hat:at'<=src.size) (hsz:src.size<=16384) (hl:0<=line/\line<=at'+1) (hc:0<=col/\col<=at'+1) (hj:j<=src.size)
  (hsk:zam (src.data.toList.drop at') false line col=(src.data.toList.drop j,L,C)) :
  Calls Tryz.prog 158 #[.pointer (some ⟨b,0,none⟩)] w fun e w'=>e=.returned (.tuple #[])/\Scan w' b L C src j/\(0<=L/\L<=j+1)/\(0<=C/\C<=j+1)/\Only (fun g=>g=b) w w':=by
 refine (zj4 b src at' line col w hS hat hsz hl hc).mono ?_;rintro e w' ⟨h1,⟨j',h2,h3,h4,h5,h6,h7⟩,h8⟩;rw [hsk] at h4 h5 h6 h7;simp only [Prod.mk.injEq] at h4;have:=zmp hj h3 h4.1;subst this;exact ⟨h1,h5,h6,h7,h8⟩
structure NxF (b tb : Nat) (src : ByteArray) (L C : Int) (w W : World) (j : Nat) (D kd : Int) (tx : ByteArray) (n : Int) : Prop where
  s : Scan W b L D src j
  x : OwnV W w.heap.size 216 [.pointer (some ⟨b, 0, none⟩)]
  t : OwnV W (w.heap.size + 1) 180 [.int .u8 0, .string ByteArray.empty, .int .i64 0, .int .i64 0, .int .i64 0]
  e : OwnV W (w.heap.size + 1 + 1) 35 [.int .i64 0]
  k : OwnV W tb 180 [.int .u8 kd, .string tx, .int .i64 n, .int .i64 L, .int .i64 C]
  o : Only (fun g => g = b) w W
  h : b < w.heap.size /\ w.heap.size + 3 <= tb
section
variable {b tb : Nat} {src : ByteArray} {L C : Int} {w W V : World} {j i : Nat} {D E k n : Int} {t : ByteArray}
theorem NxF.cells (F:NxF b tb src L C w W j D k t n):(W.cell? ⟨b,0,none⟩=some (.int .i64 L)/\W.cell? ⟨b,1,none⟩=some (.int .i64 D)/\W.cell? ⟨b,2,none⟩=some (.string src)/\W.cell? ⟨b,3,none⟩=some (.int .i64 j)/\(∀ o,W.frozen? ⟨b,o,none⟩=false)) /\
  W.cell? ⟨w.heap.size,0,none⟩=some (.pointer (some ⟨b,0,none⟩))/\W.cell? ⟨tb,0,none⟩=some (.int .u8 k)/\W.cell? ⟨tb,1,none⟩=some (.string t)/\W.cell? ⟨tb,2,none⟩=some (.int .i64 n)/\W.cell? ⟨tb,3,none⟩=some (.int .i64 L)/\W.cell? ⟨tb,4,none⟩=some (.int .i64 C)/\(∀ o,W.frozen? ⟨tb,o,none⟩=false) /\
  W.cell? ⟨w.heap.size+1,0,none⟩=some (.int .u8 0)/\W.cell? ⟨w.heap.size+1,1,none⟩=some (.string ByteArray.empty)/\W.cell? ⟨w.heap.size+1,2,none⟩=some (.int .i64 0)/\W.cell? ⟨w.heap.size+1,3,none⟩=some (.int .i64 0)/\W.cell? ⟨w.heap.size+1,4,none⟩=some (.int .i64 0)/\(∀ o,W.frozen? ⟨w.heap.size+1,o,none⟩=false) /\
  W.cell? ⟨w.heap.size+1+1,0,none⟩=some (.int .i64 0)/\W.frozen? ⟨w.heap.size+1+1,0,none⟩=false:=
 ⟨F.s.cells,F.x.cell rfl,F.k.cell rfl,F.k.cell rfl,F.k.cell rfl,F.k.cell rfl,F.k.cell rfl,fun o=>F.k.free o,F.t.cell rfl,F.t.cell rfl,F.t.cell rfl,F.t.cell rfl,F.t.cell rfl,fun o=>F.t.free o,F.e.cell rfl,F.e.free 0⟩
theorem NxF.far (F:NxF b tb src L C w W j D k t n):b≠w.heap.size+1/\b≠w.heap.size+1+1/\b≠tb/\tb≠w.heap.size+1/\tb≠w.heap.size+1+1/\w.heap.size+1≠tb/\w.heap.size+1+1≠tb/\tb < W.heap.size:=by
 have:=F.h;have:=F.k.lt;omega
theorem NxF.only (F:NxF b tb src L C w W j D k t n) (h:Only (fun g=>g=b) W V) (hs:Scan V b L E src i):NxF b tb src L C w V i E k t n:=by
 have:=F.h;exact ⟨hs,h.own F.x (by omega),h.own F.t (by omega),h.own F.e (by omega),h.own F.k (by omega),F.o.trans h,this⟩
theorem NxF.below (F:NxF b tb src L C w W j D k t n) (h:Below W.heap.size W V):NxF b tb src L C w V j D k t n:=
 F.only (Only.of_below h) ((Only.of_below (S:=fun _=>False) h).own F.s (fun h=>h))
theorem NxF.drewN (F:NxF b tb src L C w W j D k t n) (q:Nat):NxF b tb src L C w (W.drewN q) j D k t n:=⟨F.s,F.x,F.t,F.e,F.k,F.o.drewN q,F.h⟩
theorem NxF.put {o:Nat} {v:Value} {k' n':Int} {t':ByteArray} (F:NxF b tb src L C w W j D k t n) (h:[Value.int .u8 k,.string t,.int .i64 n,.int .i64 L,.int .i64 C].set o v=[.int .u8 k',.string t',.int .i64 n',.int .i64 L,.int .i64 C]):NxF b tb src L C w (W.setCell ⟨tb,o,none⟩ v) j D k' t' n':=by
 have:=F.h;have hk:=F.k.set o v;rw [h] at hk;exact ⟨F.s.set_ne (by omega) _,F.x.set_ne (by omega) _,F.t.set_ne (by omega) _,F.e.set_ne (by omega) _,hk,F.o.setNew (by omega) _,this⟩
theorem NxF.ret (F:NxF b tb src L C w W j D k t n) (z:Int):∃ V,V=(((((W.setCell ⟨w.heap.size+1,0,none⟩ (.int .u8 k)).setCell ⟨w.heap.size+1,1,none⟩ (.string t)).setCell ⟨w.heap.size+1,2,none⟩ (.int .i64 n)).setCell ⟨w.heap.size+1,3,none⟩ (.int .i64 L)).setCell ⟨w.heap.size+1,4,none⟩ (.int .i64 C)).setCell ⟨w.heap.size+1+1,0,none⟩ (.int .i64 z) /\
  OwnV V (w.heap.size+1) 180 [.int .u8 k,.string t,.int .i64 n,.int .i64 L,.int .i64 C]/\OwnV V (w.heap.size+1+1) 35 [.int .i64 z]/\Scan V b L D src j/\Only (fun g=>g=b) w V/\W.heap.size<=V.heap.size/\∀ g,w.heap.size+1+1 < g->V.heap[g]? = W.heap[g]?:=by
 have:=F.h
 refine ⟨_,rfl,(((((F.t.set 0 _).set 1 _).set 2 _).set 3 _).set 4 _).set_ne (by omega) _,(((((F.e.set_ne (by omega) _).set_ne (by omega) _).set_ne (by omega) _).set_ne (by omega) _).set_ne (by omega) _).set 0 _,
  (((((F.s.set_ne (by omega) _).set_ne (by omega) _).set_ne (by omega) _).set_ne (by omega) _).set_ne (by omega) _).set_ne (by omega) _,(((((F.o.setNew (by omega) _).setNew (by omega) _).setNew (by omega) _).setNew (by omega) _).setNew (by omega) _).setNew (by omega) _,by simp,fun g hg=>?_⟩
 have h1:g≠w.heap.size+1:=by omega
 have h2:g≠w.heap.size+1+1:=by omega
 rw [Below.heap_setCell _ ⟨w.heap.size+1+1,0,none⟩ _ _ h2,Below.heap_setCell _ ⟨w.heap.size+1,4,none⟩ _ _ h1,Below.heap_setCell _ ⟨w.heap.size+1,3,none⟩ _ _ h1,Below.heap_setCell _ ⟨w.heap.size+1,2,none⟩ _ _ h1,Below.heap_setCell _ ⟨w.heap.size+1,1,none⟩ _ _ h1,Below.heap_setCell _ ⟨w.heap.size+1,0,none⟩ _ _ h1]
end
theorem next_boxes {b:Nat} {w w1:World} (hb:b < w.heap.size) (hO1:Only (fun g=>g=b) (((w.alloc (.cells #[.pointer (some ⟨b,0,none⟩)] 216)).alloc (.cells #[.int .u8 0,.string ByteArray.empty,.int .i64 0,.int .i64 0,.int .i64 0] 180)).alloc (.cells #[.int .i64 0] 35)) w1) :
  Hid (OwnV w1 w.heap.size 216 [.pointer (some ⟨b,0,none⟩)])/\Hid (OwnV w1 (w.heap.size+1) 180 [.int .u8 0,.string ByteArray.empty,.int .i64 0,.int .i64 0,.int .i64 0])/\Hid (OwnV w1 (w.heap.size+1+1) 35 [.int .i64 0])/\Hid (Only (fun g=>g=b) w w1)/\w.heap.size+3<=w1.heap.size:=by
 refine ⟨zh (hO1.own (((OwnV.new w 216 [.pointer (some ⟨b,0,none⟩)]).alloc _).alloc _) (by omega)),
  zh (hO1.own (by have:=(OwnV.new (w.alloc (.cells #[.pointer (some ⟨b,0,none⟩)] 216)) 180 [.int .u8 0,.string ByteArray.empty,.int .i64 0,.int .i64 0,.int .i64 0]).alloc (.cells #[.int .i64 0] 35);rw [World.size_alloc] at this;exact this) (by omega)),
  zh (hO1.own (by have:=OwnV.new ((w.alloc (.cells #[.pointer (some ⟨b,0,none⟩)] 216)).alloc (.cells #[.int .u8 0,.string ByteArray.empty,.int .i64 0,.int .i64 0,.int .i64 0] 180)) 35 [.int .i64 0];rw [World.size_alloc,World.size_alloc] at this;exact this) (by omega)),
  zh (((((Only.refl _ w).alloc _).alloc _).alloc _).trans hO1),?_⟩
 have:=hO1.size;simp at this;omega
def numH (l : List UInt8) : HeadR := match zaS l with
  | none => .err 112
  | some n => .tok 2 l n
theorem head_part {src:ByteArray} {j:Nat} (hj:j < src.size):zcG (src.data.toList.drop j) =
  if zaH src[j]=true then if 24 < ((src.data.toList.drop j).takeWhile zaf).length then .err 111 else .tok 1 ((src.data.toList.drop j).takeWhile zaf) 0
  else if zaG src[j]=true then numH ((src.data.toList.drop j).takeWhile zaf)
  else if zag (src.data.toList.drop j)=0 then .err 110 else .tok 3 ((src.data.toList.drop j).take (zag (src.data.toList.drop j))) 0:=by
 rw [za2 src hj,zcG];rfl
theorem next_part (b:Nat) (src:ByteArray) (at' j:Nat) (line col L C:Int) (w:World) (hS:Scan w b line col src at') (hat:at'<=src.size) (hsz:src.size<=16384) (hl:0<=line/\line<=at'+1) (hc:0<=col/\col<=at'+1) (hj:j<=src.size) (hG:Glob w) (h11:glB<=b) (hns:∀ h:j < src.size,zaH src[j]=true∨zaG src[j]=true)
  (hsk:zam (src.data.toList.drop at') false line col=(src.data.toList.drop j,L,C)) :
  Calls Tryz.prog 127 #[.pointer (some ⟨b,0,none⟩)] w fun e w'=>zev b src j L C w e w' (zcG (src.data.toList.drop j)):=by
 have hb:b < w.heap.size:=OwnV.lt hS;have HS:=zh hS;have HB:Hid (∀ W,Scan W b line col src at'->Calls Tryz.prog 158 #[.pointer (some ⟨b,0,none⟩)] W fun e w'=>e=.returned (.tuple #[])/\Scan w' b L C src j/\(0<=L/\L<=j+1)/\(0<=C/\C<=j+1)/\Only (fun g=>g=b) W w'):=zh (fun W h=>zcR b src at' j line col L C W h hat hsz hl hc (by omega) hsk);obtain ⟨final,HFin⟩:∃ r,Hid (zcG (src.data.toList.drop j)=r):=⟨_,zh rfl⟩;rw [HFin.out];clear hS hl hc hsk;have Hns:=zh hns;have HG:=zh hG;have Hsz:=zh hsz;have Hj:=zh hj;clear hns hG hj;go_enter Tryz.func127,Tryz.ntmps127
 go_wp2_with fail
 go_at_call 158;refine (HB.out _ (((HS.out.alloc _).alloc _).alloc _)).mono ?_;rintro e1 w1 ⟨rfl,hS1,⟨hL0,hL1⟩,⟨hC0,hC1⟩,hO1⟩;obtain ⟨HbX,HbT,HbE,HO1,hsz1⟩:=next_boxes hb hO1;have HS1:=zh hS1;clear hS1 hO1;obtain ⟨c0,c1,c2,c3,cf⟩:=HS1.out.cells;have x0:=HbX.out.cell (i:=0) rfl;have hj3:(0:Int)<=(j:Int):=by omega
 go_wp2_with fail
 have hbw:b < w1.heap.size:=by omega
 have hx0:w.heap.size < w1.heap.size:=by omega
 go_region_held3 (fun w'=>w'.cell? ⟨b,0,none⟩=some (.int .i64 L)/\w'.cell? ⟨b,1,none⟩=some (.int .i64 C)/\w'.cell? ⟨w.heap.size,0,none⟩=some (.pointer (some ⟨b,0,none⟩))) (go_keep) (fail)
 rename_i hHeld
 clear hHeld;go_wp2_with fail
 refine zac (DrewOf _) (by kernel_rfl) (by kernel_rfl) (DrewOf.start _) ?_
 repeat
  try simp only [Act.put,zs1,zs3,zs2]
  apply stepsSeq.cons
  ·rintro w' ⟨nq,rfl⟩;simp only [Act.put,zs1,zs3,zs2];go_wp2_with (fail)
   first | exact ⟨rfl,nq,rfl⟩ | exact ⟨rfl,nq,(World.drewN_drewN _ _ _).symm⟩ | exact ⟨rfl,nq,by simp⟩
 try simp only [Act.put,zs1,zs3,zs2]
 refine stepsSeq.nil ?_;rintro w' ⟨nq,rfl⟩;clear c0 c1 c2 c3 cf x0 hbw hx0;obtain ⟨tb,htb⟩:∃ tb,tb=w1.heap.size:=⟨_,rfl⟩;rw [<- htb];obtain ⟨w3,hw3⟩:∃ w3,w3=((w1.alloc (.cells #[.int .u8 4,.string { data:=#[] },.int .i64 0,.int .i64 L,.int .i64 C] 180)).drew).drewN nq:=⟨_,rfl⟩;rw [<- hw3]
 have F3:NxF b tb src L C w w3 j C 4 ByteArray.empty 0:=by
  rw [hw3,htb];exact ⟨HS1.out.alloc _,HbX.out.alloc _,HbT.out.alloc _,HbE.out.alloc _,OwnV.new w1 _ [.int .u8 4,.string ByteArray.empty,.int .i64 0,.int .i64 L,.int .i64 C],((HO1.out.alloc _).drew).drewN _,hb,hsz1⟩
 have hsz3:w.heap.size+3<=tb:=F3.h.2;obtain ⟨-,-,-,hkt1,hkt2,hkt1',hkt2',hsz4⟩:=F3.far;clear hw3 htb HS1 HbX HbT HbE HO1 hsz1;obtain ⟨⟨c0,c1,c2,c3,cf⟩,x0,k0,k1,k2,k3,k4,kf,t0,t1,t2,t3,t4,tf,e0,ef⟩:=F3.cells;by_cases he:j=src.size
 ·have hj':((j:Int) == (src.size:Int))=true:=by rw [beq_iff_eq];omega
  have Hf:Hid (final=.eof):=zh (by rw [<- HFin.out,zdf src (by omega)];rfl);clear he HFin;go_wp2_with fail
  obtain ⟨V,hV,r1,r2,r3,r4,-,-⟩:=F3.ret 0;rw [hV] at r1 r2 r3 r4;exact yE (zdb rfl rfl r1 r2) rfl (by rw [Hf.out];exact ⟨rfl,r3,r4⟩)
 have hj:j < src.size:=by have:=Hj.out;omega
 have hj':((j:Int) == (src.size:Int))=false:=by rw [beq_eq_false_iff_ne];omega
 have hjI:(j:Int) < (src.size:Int):=by omega
 have hc0:src[j].toNat<=255:=by have:=src[j].toNat_lt;omega
 obtain ⟨ql,hlt⟩:∃ q,zaV (src[j].toNat:Int)=q:=⟨_,rfl⟩;obtain ⟨qd,hdt⟩:∃ q,za9 (src[j].toNat:Int)=q:=⟨_,rfl⟩;have hd:qd=false->ql=true:=fun h=>(Hns.out hj).resolve_right (by show ¬ za9 (src[j].toNat:Int)=true;rw [hdt,h];decide) |> hlt.symm.trans
 have HH:Hid (final=_):=zh (HFin.out.symm.trans (head_part hj));rw [show zaH src[j]=ql from hlt,show zaG src[j]=qd from hdt] at HH;have HNum:Hid (qd=true->∀ W,Glob W->Calls Tryz.prog 163 #[.string (bstr ((src.data.toList.drop j).takeWhile zaf))] W fun e w'=>e=numC (zaS ((src.data.toList.drop j).takeWhile zaf))/\Below W.heap.size W w'):=zh (fun h W hW=>zgg hj hsz (hdt.trans h) W hW);have HPt:Hid (∀ W,Scan W b L C src j->(0<=L/\L<=j+1)->(0<=C/\C<=j+1)->Calls Tryz.prog 162 #[.pointer (some ⟨b,0,none⟩),.func (.func 159) #[] #[]] W fun e w'=>e=.returned (.string (bstr ((src.data.toList.drop j).takeWhile zaf)))/\Scan w' b L (C+((src.data.toList.drop j).takeWhile zaf).length) src (j+((src.data.toList.drop j).takeWhile zaf).length)/\Only (fun g=>g=b) W w'):=zh (fun W h h1 h2=>zdZ b src j L C W h (by omega) hsz h1 h2);obtain ⟨rs,Hrs⟩:∃ rs,Hid (bstr ((src.data.toList.drop j).takeWhile zaf)=rs):=⟨_,zh rfl⟩;have Hrl:Hid (rs.size=((src.data.toList.drop j).takeWhile zaf).length):=zh (by rw [<- Hrs.out];exact zcQ _);rw [Hrs.out] at HPt HNum
 generalize (src.data.toList.drop j).takeWhile zaf=run at *
 clear HFin Hns Hj he;go_wp2_with fail
 go_wp2_with fail
 refine zac (DrewOf _) (by kernel_rfl) (by kernel_rfl) (DrewOf.start _) ?_
 repeat
  try simp only [Act.put,zs1,zs3,zs2]
  apply stepsSeq.cons
  ·rintro w' ⟨nq,rfl⟩;simp only [Act.put,zs1,zs3,zs2];go_wp2_with (fail)
   first | exact ⟨rfl,nq,rfl⟩ | exact ⟨rfl,nq,(World.drewN_drewN _ _ _).symm⟩ | exact ⟨rfl,nq,by simp⟩
 try simp only [Act.put,zs1,zs3,zs2]
 refine stepsSeq.nil ?_;rintro w' ⟨nq,rfl⟩;go_wp2_with fail
 go_at_call 160;refine (zbR _ _).mono ?_;rintro e1 wl ⟨rfl,rfl⟩;rw [hlt]
 cases ql with
 | true =>
  rw [yP rfl] at HH;go_wp2_with fail
  go_at_call 162;refine (HPt.out _ (F3.s.drewN _) ⟨hL0,hL1⟩ ⟨hC0,hC1⟩).mono ?_;rintro e1 w4 ⟨rfl,hS4,hO4⟩;have F4:=(F3.drewN nq).only hO4 hS4;clear hS4 hO4;clear c0 c1 c2 c3 cf x0 k0 k1 k2 k3 k4 kf t0 t1 t2 t3 t4 tf e0 ef;obtain ⟨⟨c0,c1,c2,c3,cf⟩,x0,k0,k1,k2,k3,k4,kf,t0,t1,t2,t3,t4,tf,e0,ef⟩:=F4.cells;obtain ⟨-,-,-,-,-,-,-,hsz4⟩:=F4.far;by_cases hlen:24 < run.length
  all_goals
   first | have h24:(rs.size:Int) > 24:=by have:=Hrl.out;omega | have h24:¬ (rs.size:Int) > 24:=by have:=Hrl.out;omega
   have Hlen:=zh hlen;clear hlen;go_wp2_with fail
  ·obtain ⟨V,hV,r1,r2,r3,r4,-,-⟩:=((F4.put (o:=0) rfl).put (o:=1) rfl).ret 111;rw [hV] at r1 r2 r4;exact yE (zdb rfl rfl r1 r2) rfl (by rw [HH.out,yP Hlen.out];exact ⟨⟨_,_,_,rfl⟩,r4⟩)
  ·obtain ⟨V,hV,r1,r2,r3,r4,-,-⟩:=((F4.put (o:=0) rfl).put (o:=1) rfl).ret 0;rw [hV] at r1 r2 r3 r4
   exact yE (zdb rfl rfl r1 r2) rfl (by rw [HH.out,yN Hlen.out];exact ⟨by rw [<- Hrs.out];rfl,r3,r4⟩)
 | false =>
  have hdq:qd=true:=by cases qd;exact absurd (hd rfl) (by decide);rfl
  subst hdq;rw [yN (by decide),yP rfl] at HH;go_wp2_with fail
  go_at_call 161;refine (zc0 _ _).mono ?_;rintro e1 wl ⟨rfl,rfl⟩;rw [hdt];go_wp2_with fail
  go_at_call 162;refine (HPt.out _ (F3.s.drewN _) ⟨hL0,hL1⟩ ⟨hC0,hC1⟩).mono ?_;rintro e1 w4 ⟨rfl,hS4,hO4⟩;have F4:=(F3.drewN nq).only hO4 hS4;clear hS4 hO4;clear c0 c1 c2 c3 cf x0 k0 k1 k2 k3 k4 kf t0 t1 t2 t3 t4 tf e0 ef;obtain ⟨⟨c0,c1,c2,c3,cf⟩,x0,k0,k1,k2,k3,k4,kf,t0,t1,t2,t3,t4,tf,e0,ef⟩:=F4.cells;obtain ⟨-,-,-,-,-,-,-,hsz4⟩:=F4.far;go_wp2_with fail
  go_at_call 163;have F5:=(F4.put (o:=0) (v:=.int .u8 2) rfl).put (o:=1) (v:=.string rs) rfl;obtain ⟨qv,Hqv⟩:∃ q,Hid (zaS run=q):=⟨_,zh rfl⟩;unfold numH at HH;rw [Hqv.out] at HNum HH;unfold numC at HNum;cases qv
  all_goals
   refine (HNum.out (by first | rfl | trivial) _ (HG.out.only F5.o (fun k hk=>by have:k=b:=hk;omega))).mono ?_;rintro e1 w5 ⟨rfl,hb5⟩;have F6:=F5.below hb5;clear F5 hb5;clear c0 c1 c2 c3 cf x0 k0 k1 k2 k3 k4 kf t0 t1 t2 t3 t4 tf e0 ef;obtain ⟨⟨c0,c1,c2,c3,cf⟩,x0,k0,k1,k2,k3,k4,kf,t0,t1,t2,t3,t4,tf,e0,ef⟩:=F6.cells;go_wp2_with fail
  ·obtain ⟨V,hV,r1,r2,r3,r4,-,-⟩:=(F6.put (o:=2) rfl).ret 112;rw [hV] at r1 r2 r4;exact yE (zdb rfl rfl r1 r2) rfl (by rw [HH.out];exact ⟨⟨_,_,_,rfl⟩,r4⟩)
  ·obtain ⟨V,hV,r1,r2,r3,r4,-,-⟩:=(F6.put (o:=2) rfl).ret 0;rw [hV] at r1 r2 r3 r4;exact yE (zdb rfl rfl r1 r2) rfl (by rw [HH.out];exact ⟨by rw [<- Hrs.out];rfl,r3,r4⟩)
open Go.RowKit Go.Shelf
attribute [local go_sem] Oper.semAt_some

def SignI (b tb : Nat) (src : ByteArray) (j : Nat) (L C : Int) (w : World) (B : Nat) (pre : List (Fin 23)) (W : World) : Prop :=
  (∀ y ∈ pre, hitB y.val (src.data.toList.drop j) = false) /\ NxF b tb src L C w W j C 4 ByteArray.empty 0 /\ B <= W.heap.size
def SignX (b : Nat) (src : ByteArray) (j : Nat) (L C : Int) (w : World) (c : Code) (pre : List (Fin 23)) (W : World) : Prop :=
  c = .ret /\ ∃ p x, pre = p ++ [x] /\ (∀ y ∈ p, hitB y.val (src.data.toList.drop j) = false) /\ hitB x.val (src.data.toList.drop j) = true /\ Scan W b L (C + (sg x.val).length) src (j + (sg x.val).length) /\
  OwnV W (w.heap.size + 1) 180 [.int .u8 3, .string (bstr (sg x.val)), .int .i64 0, .int .i64 L, .int .i64 C] /\ OwnV W (w.heap.size + 1 + 1) 35 [.int .i64 0] /\ Only (fun g => g = b) w W
theorem zj1 {b tb:Nat} {src:ByteArray} {j:Nat} {L C:Int} {w:World} {B:Nat} (hB:w.heap.size<=B):OwnFrom B (SignI b tb src j L C w B):=by
 intro s W W' row ⟨h1,h,h8⟩ hg hr;have hr':∀ r,row=some r->∃ o:Obj,W.heap[r]? = some o/\o.isCells=false:=fun r e=>(hr r e).2
 exact ⟨h1,⟨OwnV.ofNon h.s hg hr',OwnV.ofNon h.x hg hr',OwnV.ofNon h.t hg hr',OwnV.ofNon h.e hg hr',OwnV.ofNon h.k hg hr',h.o.grown hg (fun r e=>yT hB (hr r e).1),h.h⟩,yT h8 hg.size⟩
theorem zj2 {b:Nat} {src:ByteArray} {j:Nat} {L C:Int} {w:World} {B:Nat} (hB:w.heap.size<=B) (c:Code):OwnFrom B (SignX b src j L C w c):=by
 intro s W W' row ⟨h1,p,x,h2,h3,h4,h5,h6,h7,h8⟩ hg hr;have hr':∀ r,row=some r->∃ o:Obj,W.heap[r]? = some o/\o.isCells=false:=fun r e=>(hr r e).2
 exact ⟨h1,p,x,h2,h3,h4,OwnV.ofNon h5 hg hr',OwnV.ofNon h6 hg hr',OwnV.ofNon h7 hg hr',h8.grown hg (fun r e=>yT hB (hr r e).1)⟩
theorem pre_no {rem:List UInt8} {p:List (Fin 23)} {x:Fin 23} (hp:p++[x] <+: List.finRange 23) (h:∀ y ∈ p,hitB y.val rem=false):∀ i,i < x.val->hitB i rem=false:=by
 have hlen:=hp.length_le;simp only [yA,yB,yL,List.length_finRange] at hlen
 have hget:∀ i (hi:i < (p++[x]).length),(p++[x])[i]=⟨i,by simp at hi;omega⟩:=fun i hi=>by
  have h1:=hp.getElem hi;rw [List.getElem_finRange] at h1;rw [h1];rfl
 have hx:p.length=x.val:=by
  have:=hget p.length (by simp);simp at this;rw [this]
 intro i hi;have h2:=hget i (by simp;omega);rw [List.getElem_append_left (by omega)] at h2;have h3:=h _ (List.getElem_mem (l:=p) (n:=i) (by omega));rw [h2] at h3;exact h3
theorem zgh {n:Nat} {tmps:Array Value} {W:World} {D g1 g2:Nat} {a b c d e z:Value} {R:Ending->World->Prop} (h2:tmps[2]?.getD undef=.pointer (some ⟨g1,0,none⟩)) (h3:tmps[3]?.getD undef=.pointer (some ⟨g2,0,none⟩)) (HT:OwnV W g1 180 [a,b,c,d,e]) (HE:OwnV W g2 35 [z])
  (hD:W.heap[D]? = some (.deferred (some []))) (hR:R (.returned (.tuple #[.agg #[a,b,c,d,e],z])) (W.putObj D (.deferred none))):LeavesInM Fence.wide n Tryz.prog Tryz.f127 tmps R [{ target:=.collected D,args:=#[] }] .returning W:=by
 have hr:∀ r,some D=some r->∃ o:Obj,W.heap[r]? = some o/\o.isCells=false:=fun r e=>by cases e;exact ⟨_,hD,rfl⟩
 refine ⟨by simp,.inl ⟨_,_,rfl,run_takeDeferred hD,?_⟩⟩;exact ⟨_,zdb h2 h3 (HT.ofNon (grownBy_putObj' W D _) hr) (HE.ofNon (grownBy_putObj' W D _) hr),hR⟩
theorem sg_nl:∀ k:Fin 23,∀ y ∈ sg k.val,y.toNat≠10:=by decide +kernel
theorem zlk:∀ k:Fin 23,(sg k.val).length<=2/\1<=(sg k.val).length:=by decide +kernel
theorem zll (b lb:Nat) (src:ByteArray) (j:Nat) (L C:Int) (x:Fin 23) (hj:j<=src.size) (hsz:src.size<=16384) (h1:0<=L/\L<=j+1) (h2:0<=C/\C<=j+1) (hne:lb≠b) (hhit:hitB x.val (src.data.toList.drop j)=true) (m:Nat) (hm:m=(sg x.val).length) (w:World) (hS:Scan w b L C src j) (hL:OwnV w lb 3 [.int .i64 m]) :
  Calls Tryz.prog 162 #[.pointer (some ⟨b,0,none⟩),.func (.func 166) #[] #[.pointer (some ⟨lb,0,none⟩)]] w fun e w'=>(∃ v,e=.returned v)/\Scan w' b L (C+(sg x.val).length) src (j+(sg x.val).length)/\Only (fun g=>g=b∨g=lb) w w':=by
 have hp:=zft hhit;have hl:=zlk x;refine (zlq b src j L C w lb m (by omega) hne hL hS hj hsz h1 h2).mono ?_;unfold zbF;rw [zjZ m _ 0 (Nat.zero_le _) (by omega),Nat.sub_zero,hm,hp.1,zg5 _ _ _ (sg_nl x)];exact fun e w' h=>⟨⟨_,h.1⟩,h.2.1,h.2.2⟩
theorem zeY {c:UInt8} {r:List UInt8} (h1:zaH c=false) (h2:zaG c=false):zcG (c :: r)=if zag (c :: r)=0 then .err 110 else .tok 3 ((c :: r).take (zag (c :: r))) 0:=by
 rw [zcG,yN (by rw [h1];decide),yN (by rw [h2];decide)]
theorem all_no {rem:List UInt8} (h:∀ y ∈ List.finRange 23,hitB y.val rem=false):∀ i,i < 23->hitB i rem=false:=fun i hi=>h ⟨i,hi⟩ (List.mem_finRange _)
theorem zlm (b:Nat) (src:ByteArray) (at' j:Nat) (line col L C:Int) (w:World) (hS:Scan w b line col src at') (hat:at'<=src.size) (hsz:src.size<=16384) (hl:0<=line/\line<=at'+1) (hc:0<=col/\col<=at'+1) (hj:j < src.size) (hG:Glob w) (h11:glB<=b) (hlet:zaH src[j]=false) (hdig:zaG src[j]=false)
  (hsk:zam (src.data.toList.drop at') false line col=(src.data.toList.drop j,L,C)) :
  Calls Tryz.prog 127 #[.pointer (some ⟨b,0,none⟩)] w fun e w'=>zev b src j L C w e w' (zcG (src.data.toList.drop j)):=by
 have hb:b < w.heap.size:=OwnV.lt hS;have HS:=zh hS;have HB:Hid (∀ W,Scan W b line col src at'->Calls Tryz.prog 158 #[.pointer (some ⟨b,0,none⟩)] W fun e w'=>e=.returned (.tuple #[])/\Scan w' b L C src j/\(0<=L/\L<=j+1)/\(0<=C/\C<=j+1)/\Only (fun g=>g=b) W w'):=zh (fun W h=>zcR b src at' j line col L C W h hat hsz hl hc (by omega) hsk);obtain ⟨final,HFin⟩:∃ r,Hid (zcG (src.data.toList.drop j)=r):=⟨_,zh rfl⟩;rw [HFin.out];clear hS hl hc hsk;have hj':((j:Int) == (src.size:Int))=false:=by rw [beq_eq_false_iff_ne];omega
 have hjI:(j:Int) < (src.size:Int):=by omega
 have hc0:src[j].toNat<=255:=by have:=src[j].toNat_lt;omega
 have hlt:zaV (src[j].toNat:Int)=false:=hlet;have hdt:za9 (src[j].toNat:Int)=false:=hdig;have HG:=zh hG;have HD:Hid (∃ r,src.data.toList.drop j=src[j] :: r):=zh ⟨_,za2 src hj⟩;have Hlet:=zh hlet;have Hdig:=zh hdig;clear hlet hdig hG;refine callsIn_wide.1 (callsIn_of_wp_marks (n:=6) Tryz.func127 rfl trivial ?_ rfl);refine wpIn_wide.2 ?_;simp only [Tryz.ntmps127,List.size_toArray,yB,yL,Nat.reduceAdd,Nat.reduceSub,Array.replicate_succ,Array.replicate_zero,List.push_toArray,List.append_toArray,List.nil_append,List.cons_append];go_wp2_with fail
 go_at_call 158;refine (HB.out _ (((HS.out.alloc _).alloc _).alloc _)).mono ?_;rintro e1 w1 ⟨rfl,hS1,⟨hL0,hL1⟩,⟨hC0,hC1⟩,hO1⟩;obtain ⟨HbX,HbT,HbE,HO1,hsz1⟩:=next_boxes hb hO1;have HS1:=zh hS1;clear hS1 hO1;obtain ⟨c0,c1,c2,c3,cf⟩:=HS1.out.cells;have x0:=HbX.out.cell (i:=0) rfl;have hj3:(0:Int)<=(j:Int):=by omega
 go_wp2_with fail
 have hbw:b < w1.heap.size:=by omega
 have hx0:w.heap.size < w1.heap.size:=by omega
 go_region_held3 (fun w'=>w'.cell? ⟨b,0,none⟩=some (.int .i64 L)/\w'.cell? ⟨b,1,none⟩=some (.int .i64 C)/\w'.cell? ⟨w.heap.size,0,none⟩=some (.pointer (some ⟨b,0,none⟩))) (go_keep) (fail)
 rename_i hHeld
 clear hHeld;go_wp2_with fail
 refine zac (DrewOf _) (by kernel_rfl) (by kernel_rfl) (DrewOf.start _) ?_
 repeat
  try simp only [Act.put,zs1,zs3,zs2]
  apply stepsSeq.cons
  ·rintro w' ⟨nq,rfl⟩;simp only [Act.put,zs1,zs3,zs2];go_wp2_with (fail)
   first | exact ⟨rfl,nq,rfl⟩ | exact ⟨rfl,nq,(World.drewN_drewN _ _ _).symm⟩ | exact ⟨rfl,nq,by simp⟩
 try simp only [Act.put,zs1,zs3,zs2]
 refine stepsSeq.nil ?_;rintro w' ⟨nq,rfl⟩;clear c0 c1 c2 c3 cf x0 hbw hx0;obtain ⟨tb,htb⟩:∃ tb,tb=w1.heap.size:=⟨_,rfl⟩;rw [<- htb];obtain ⟨w3,hw3⟩:∃ w3,w3=((w1.alloc (.cells #[.int .u8 4,.string { data:=#[] },.int .i64 0,.int .i64 L,.int .i64 C] 180)).drew).drewN nq:=⟨_,rfl⟩;rw [<- hw3]
 have F3:NxF b tb src L C w w3 j C 4 ByteArray.empty 0:=by
  rw [hw3,htb];exact ⟨HS1.out.alloc _,HbX.out.alloc _,HbT.out.alloc _,HbE.out.alloc _,OwnV.new w1 _ [.int .u8 4,.string ByteArray.empty,.int .i64 0,.int .i64 L,.int .i64 C],((HO1.out.alloc _).drew).drewN _,hb,hsz1⟩
 have hsz3:w.heap.size+3<=tb:=F3.h.2;obtain ⟨-,-,-,hkt1,hkt2,hkt1',hkt2',hsz4⟩:=F3.far;clear hw3 htb HS1 HbX HbT HbE HO1 hsz1;obtain ⟨⟨c0,c1,c2,c3,cf⟩,x0,k0,k1,k2,k3,k4,kf,t0,t1,t2,t3,t4,tf,e0,ef⟩:=F3.cells;go_wp2_with fail
 go_wp2_with fail
 refine zac (DrewOf _) (by kernel_rfl) (by kernel_rfl) (DrewOf.start _) ?_
 repeat
  try simp only [Act.put,zs1,zs3,zs2]
  apply stepsSeq.cons
  ·rintro w' ⟨nq,rfl⟩;simp only [Act.put,zs1,zs3,zs2];go_wp2_with (fail)
   first | exact ⟨rfl,nq,rfl⟩ | exact ⟨rfl,nq,(World.drewN_drewN _ _ _).symm⟩ | exact ⟨rfl,nq,by simp⟩
 try simp only [Act.put,zs1,zs3,zs2]
 refine stepsSeq.nil ?_;rintro w' ⟨nq,rfl⟩;go_wp2_with fail
 go_at_call 160;refine (zbR _ _).mono ?_;rintro e1 wl ⟨rfl,rfl⟩;go_wp2_with fail
 go_at_call 161;refine (zc0 _ _).mono ?_;rintro e1 wl ⟨rfl,rfl⟩;go_wp2_with fail
 go_at_call 164;refine (callsIn_wide.1 (zh4 6 _ _)).mono ?_;rintro e1 w5 ⟨rfl,rfl⟩;go_wp2_with fail
 clear c0 c1 c2 c3 cf x0 k0 k1 k2 k3 k4 kf t0 t1 t2 t3 t4 tf e0 ef;obtain ⟨bx,hbx⟩:∃ bx,bx=w3.heap.size:=⟨_,rfl⟩;rw [<- hbx];obtain ⟨w6,hw6⟩:∃ w6,w6=(w3.drewN nq).alloc (.cells #[.string { data:=#[61,61,32,33,61,32,60,61,32,62,61,32,38,38,32,124,124,32,43,32,45,32,42,32,47,32,37,32,60,32,62,32,33,32,61,32,40,32,41,32,91,32,93,32,123,32,125,32,44,32,59] }] 9):=⟨_,rfl⟩;rw [<- hw6];have F6:NxF b tb src L C w w6 j C 4 ByteArray.empty 0:=by rw [hw6];exact (F3.drewN nq).below ((yR _ _).alloc (zr _) _)
 have HG6:Glob w6:=HG.out.only F6.o (fun k hk=>by have:k=b:=hk;omega);have HB6:w6.cell? ⟨bx,0,none⟩=some (.string sigS):=by rw [hw6,hbx];exact OwnV.cell (OwnV.new (w3.drewN nq) 9 [.string sigS]) rfl
 have hbx6:bx < w6.heap.size:=by rw [hw6,hbx];simp
 have hw36:w.heap.size<=w6.heap.size:=F6.o.size;clear hw6 hbx F3
 refine wpIn_wide.1 (wpIn_rangeFunc_ownG (F:=Fence.wide) (n:=6) rfl (by omega) (gf:=204) (lb:=#[.pointer (some ⟨bx,0,none⟩)]) rfl trivial (enters_of Tryz.func204 (by kernel_rfl) rfl)
  (zh5 5 (by omega) bx w6 HG6 HB6 hbx6) belowK_t (belowK_b (zr _)) (yR _ _) (fun _=>rfl)
  (SignI b tb src j L C w w6.heap.size) (SignX b src j L C w) (zj1 hw36) (zj2 hw36) ⟨fun y hy=>(by cases hy),F6,zr _⟩
  (fun x=>{ tmps:=#[Value.pointer (some ⟨b,0,none⟩),Value.pointer (some ⟨w.heap.size,0,none⟩),Value.pointer (some ⟨w.heap.size+1,0,none⟩),Value.pointer (some ⟨w.heap.size+1+1,0,none⟩),Value.pointer (some ⟨tb,0,none⟩),Value.func (Fn.func 159) #[] #[],Value.int IntKind.u8 (src[j].toNat:Int),undef,Value.string (bstr (sg x.val)),undef,Value.pointer (some ⟨b,0,none⟩),Value.tuple #[],Value.pointer (some ⟨b,0,none⟩),Value.pointer (some ⟨b,0,none⟩),Value.pointer (some ⟨b,0,none⟩),Value.pointer (some ⟨b,0,none⟩),Value.int IntKind.i64 L,Value.pointer (some ⟨b,0,none⟩),Value.pointer (some ⟨b,0,none⟩),Value.pointer (some ⟨b,0,none⟩),Value.pointer (some ⟨b,1,none⟩),Value.int IntKind.i64 C,Value.agg #[Value.int IntKind.u8 4,Value.string { data:=#[] },Value.int IntKind.i64 0,Value.int IntKind.i64 L,Value.int IntKind.i64 C],Value.pointer (some ⟨b,0,none⟩),Value.pointer (some ⟨b,0,none⟩),Value.pointer (some ⟨b,3,none⟩),Value.int IntKind.i64 (j:Int),Value.pointer (some ⟨b,0,none⟩),Value.pointer (some ⟨b,0,none⟩),Value.pointer (some ⟨b,2,none⟩),Value.string src,Value.int IntKind.i64 (src.size:Int),Value.bool false,undef,Value.pointer (some ⟨b,0,none⟩),Value.pointer (some ⟨b,0,none⟩),Value.pointer (some ⟨b,2,none⟩),Value.string src,Value.pointer (some ⟨b,0,none⟩),Value.pointer (some ⟨b,0,none⟩),Value.pointer (some ⟨b,3,none⟩),Value.int IntKind.i64 (j:Int),Value.int IntKind.u8 (src[j].toNat:Int),Value.func (Fn.func 204) #[] #[Value.pointer (some ⟨bx,0,none⟩)],Value.string (bstr (sg x.val)),undef,undef,undef,undef,undef,undef,undef,undef,undef,undef,undef,undef,undef,undef,undef,undef,undef,undef,undef,undef,undef,Value.bool false,Value.int IntKind.u8 (src[j].toNat:Int),Value.bool false,undef,undef,undef,undef,undef,undef,undef,undef,undef,undef,Value.bool false,Value.int IntKind.u8 (src[j].toNat:Int),Value.bool false,undef,undef,undef,undef,undef,undef,undef,undef,undef,undef,undef,undef,undef,undef,undef,undef,undef],defers:=[] }) ?assign ?body ?done ?stop)
 case assign =>
  intro l x W K hK;gi_wp2
  exact hK
 case body =>
  rintro l pre x W ⟨hpre,F,hBW⟩ hlen;obtain ⟨q,hq⟩:∃ q:Bool,hitB x.val (src.data.toList.drop j)=q:=⟨_,rfl⟩
  have HP:Hid (∀ W,Calls Tryz.prog 165 #[.string (src.extract j src.size),.string (bstr (sg x.val))] W fun e w'=>e=.returned (.bool q)/\W=w'):=zh (fun W=>(Tryz.strings_HasPrefix _ _ W).mono (by
   rintro e w' ⟨rfl,rfl⟩;refine ⟨?_,rfl⟩;rw [<- hq];unfold hitB Lib.hasPrefix
   rw [zbX,show (bstr (sg x.val)).data.toList=sg x.val from by unfold bstr;simp,List.take_of_length_le (by rw [List.length_drop,zaq];omega)]))
  obtain ⟨⟨c0,c1,c2,c3,cf⟩,x0,k0,k1,k2,k3,k4,kf,t0,t1,t2,t3,t4,tf,e0,ef⟩:=F.cells;have Hhit:Hid (hitB x.val (src.data.toList.drop j)=q):=zh hq;have Hpre:=zh hpre;have hjle:j<=src.size:=by omega
  have hjle':(j:Int)<=(src.size:Int):=by omega
  obtain ⟨hnb1,hnb2,hnb3,hkt1,hkt2,hkt1',hkt2',htbW⟩:=F.far;have hbW:b < W.heap.size:=OwnV.lt F.s;have hx0W:w.heap.size < W.heap.size:=F.x.lt;have hx1W:w.heap.size+1 < W.heap.size:=F.t.lt;have hx2W:w.heap.size+1+1 < W.heap.size:=F.e.lt;clear hq hpre;cases q
  ·gi_wp2
   refine zdY (DrewOf _) (by kernel_rfl) (by kernel_rfl) (by kernel_rfl) (DrewOf.start _) ?_
   repeat
    try simp only [Act.put,zs1,zs3,zs2]
    apply stepsSeq.cons
    ·rintro w' ⟨nq,rfl⟩;simp only [Act.put,zs1,zs3,zs2];go_wp2_with (go_at_call 165;refine (HP.out _).mono ?_;rintro e1 w2 ⟨rfl,rfl⟩)
     first | exact ⟨rfl,nq,rfl⟩ | exact ⟨rfl,nq,(World.drewN_drewN _ _ _).symm⟩ | exact ⟨rfl,nq,by simp⟩
   try simp only [Act.put,zs1,zs3,zs2]
   refine stepsSeq.nil ?_;rintro w' ⟨nq,rfl⟩;gi_wp2
   refine ⟨zge (S:=fun _=>False) ((Only.refl _ W).drewN _) (fun k h=>h.elim) _,⟨rfl,rfl,rfl,zr _,fun _ _=>rfl⟩,?_,F.drewN _,hBW⟩;intro y hy;rcases List.mem_append.1 hy with hy | hy
   ·exact Hpre.out y hy
   ·rw [List.mem_singleton.1 hy];exact Hhit.out
  ·obtain ⟨rs,Hrs⟩:∃ rs,Hid (bstr (sg x.val)=rs):=⟨_,zh rfl⟩;have hrl:rs.size=(sg x.val).length:=by rw [<- Hrs.out];exact zcQ _
   have hrl2:rs.size<=2:=by have:=(zlk x).1;omega
   have HSk:Hid (∀ W',Scan W' b L C src j->OwnV W' W.heap.size 3 [.int .i64 rs.size]->Calls Tryz.prog 162 #[.pointer (some ⟨b,0,none⟩),.func (.func 166) #[] #[.pointer (some ⟨W.heap.size,0,none⟩)]] W' fun e w'=>(∃ v,e=.returned v)/\Scan w' b L (C+(sg x.val).length) src (j+(sg x.val).length)/\Only (fun g=>g=b∨g=W.heap.size) W' w'):=
    zh (fun W' h1 h2=>zll b W.heap.size src j L C x hjle hsz ⟨hL0,hL1⟩ ⟨hC0,hC1⟩ (by omega) Hhit.out rs.size hrl W' h1 h2)
   have Hrl:=zh hrl;clear hrl;rw [Hrs.out] at HP ⊢;gi_wp2
   refine zdY (DrewOf _) (by kernel_rfl) (by kernel_rfl) (by kernel_rfl) (DrewOf.start _) ?_
   repeat
    try simp only [Act.put,zs1,zs3,zs2]
    apply stepsSeq.cons
    ·rintro w' ⟨nq,rfl⟩;simp only [Act.put,zs1,zs3,zs2];go_wp2_with (go_at_call 165;refine (HP.out _).mono ?_;rintro e1 w2 ⟨rfl,rfl⟩)
     first | exact ⟨rfl,nq,rfl⟩ | exact ⟨rfl,nq,(World.drewN_drewN _ _ _).symm⟩ | exact ⟨rfl,nq,by simp⟩
   try simp only [Act.put,zs1,zs3,zs2]
   refine stepsSeq.nil ?_;rintro w' ⟨nq,rfl⟩;gi_wp2
   have G:=((F.drewN nq).put (o:=0) (v:=.int .u8 3) rfl).put (o:=1) (v:=.string rs) rfl;refine ⟨trivial,(CallsIn.inRound l (callsIn_wide.2 (HSk.out _ (G.s.alloc _) (OwnV.newAt (by simp) _ [.int .i64 rs.size])))).mono ?_⟩;rintro e1 w7 ⟨⟨v,rfl⟩,hS7,hO7⟩;have HQ7:Hid (Only (fun g=>g=b∨g=tb∨g=w.heap.size+1∨g=w.heap.size+1+1) W w7):=zh (Only.transNew (((((Only.refl _ W).drewN _).setIn (.inr (.inl rfl)) _).setIn (.inr (.inl rfl)) _).alloc _) hO7 (by rintro i (h | h);exact .inl (.inl h);exact .inr (by omega)));have F7:=G.only (((Only.refl (fun g=>g=b) _).alloc _).transNew hO7 (by rintro i (h | h);exact .inl h;exact .inr (by simp;omega))) hS7;clear hS7 hO7 G;clear c0 c1 c2 c3 cf x0 k0 k1 k2 k3 k4 kf t0 t1 t2 t3 t4 tf e0 ef;obtain ⟨⟨c0,c1,c2,c3,cf⟩,x0,k0,k1,k2,k3,k4,kf,t0,t1,t2,t3,t4,tf,e0,ef⟩:=F7.cells;gi_wp2
   obtain ⟨V,hV,r1,r2,r3,r4,r5,-⟩:=F7.ret 0;rw [hV] at r1 r2 r3 r4;refine ⟨zge (S:=fun g=>g=b∨g=tb∨g=w.heap.size+1∨g=w.heap.size+1+1) ((((((HQ7.out.setIn (.inr (.inr (.inl rfl))) _).setIn (.inr (.inr (.inl rfl))) _).setIn (.inr (.inr (.inl rfl))) _).setIn (.inr (.inr (.inl rfl))) _).setIn (.inr (.inr (.inl rfl))) _).setIn (.inr (.inr (.inr rfl))) _) ?_ _,rfl,pre,x,rfl,Hpre.out,Hhit.out,r3,?_,r2,r4⟩
   ·rintro k (rfl | rfl | rfl | rfl)
    ·exact ⟨_,_,F.s⟩
    ·exact ⟨_,_,F.k⟩
    ·exact ⟨_,_,F.t⟩
    ·exact ⟨_,_,F.e⟩
   ·rw [Hrs.out];exact r1
 case done =>
  rintro D ys W hD rfl ⟨hpre,F,hBW⟩ hDef;obtain ⟨⟨c0,c1,c2,c3,cf⟩,x0,k0,k1,k2,k3,k4,kf,t0,t1,t2,t3,t4,tf,e0,ef⟩:=F.cells;have Hpre:=zh hpre;have HDef:=zh hDef;clear hpre hDef;have hx2W:w.heap.size+1+1 < w6.heap.size:=F6.e.lt;obtain ⟨hnb1,hnb2,hnb3,hkt1,hkt2,hkt1',hkt2',htbW⟩:=F.far;go_wp2_with fail
  obtain ⟨V,hV,r1,r2,r3,r4,-,r6⟩:=F.ret 110;rw [hV] at r1 r2 r4 r6;refine zgh rfl rfl r1 r2 ?_ ?_
  ·rw [r6 D (by omega)];exact HDef.out
  ·obtain ⟨r,hr⟩:=HD.out;have hs:=zmc (all_no Hpre.out);rw [<- HFin.out];rw [hr] at hs ⊢;rw [zeY Hlet.out Hdig.out,yP hs];exact ⟨⟨_,_,_,rfl⟩,r4.grown (grownBy_putObj' _ D _) (fun r e=>by cases e;omega)⟩
 case stop =>
  rintro D c pre W hD hpf ⟨rfl,p,x,rfl,hno,hyes,hS,hT,hE,hO⟩ hDef;refine wpIn_wide.2 ?_;have HS:=zh hS;have HT:=zh hT;have HE:=zh hE;have HO:=zh hO;have HDef:=zh hDef;have Hf:=zh (zk9 x.isLt hyes (pre_no hpf hno));clear hS hT hE hO hDef hno hyes hpf;go_wp2_with fail
  refine zgh rfl rfl HT.out HE.out HDef.out ?_;obtain ⟨r,hr⟩:=HD.out;have hs:=Hf.out;rw [<- HFin.out];rw [hr] at hs ⊢;rw [zeY Hlet.out Hdig.out,yN hs.2.1,hs.2.2.1];have hr2:∀ r,some D=some r->∃ o:Obj,W.heap[r]? = some o/\o.isCells=false:=fun r e=>by cases e;exact ⟨_,HDef.out,rfl⟩
  exact ⟨rfl,HS.out.ofNon (grownBy_putObj' W D _) hr2,HO.out.grown (grownBy_putObj' W D _) (fun r e=>by cases e;omega)⟩
end Go.Proofs.YtdhikpkecmaplaaGreatDoor
