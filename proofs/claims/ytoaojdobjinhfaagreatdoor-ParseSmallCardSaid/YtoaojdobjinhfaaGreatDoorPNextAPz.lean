/- The program's lexer: next, walked: the end, words, numbers. No condition but the bounds of a source. -/
import Derived.Test.YtoaojdobjinhfaaGreatDoorGlobPz
import Derived.Test.YtoaojdobjinhfaaGreatDoorPSkipPz
set_option linter.unusedSimpArgs false
set_option linter.unusedVariables false
set_option maxRecDepth 100000
set_option maxHeartbeats 4000000
namespace Go.Proofs.YtoaojdobjinhfaaGreatDoor
open Go.RowKit

theorem zcQ(l:List UInt8):(bstr l).size=l.length:=by rw[<-zaq];unfold bstr;simp
theorem zgg{src:ByteArray}{j:Nat}(v:j<src.size)(m:src.size<=16384)(g:zaG src[j]=true)(w:World)(q:Glob w) :
  Calls Tryz.prog 104 #[.string (bstr ((src.data.toList.drop j).takeWhile zaf))] w fun e w'=>e=numC (zaS ((src.data.toList.drop j).takeWhile zaf))/\Below w.heap.size w w':=by
 have d:(src.data.toList.drop j).takeWhile zaf=src[j]::((src.data.toList.drop (j+1)).takeWhile zaf):=by
  rw[za2 src v,zfF (zcZ g)]
 have f:((src.data.toList.drop j).takeWhile zaf).length<=src.size:=by
  have:=(List.takeWhile_prefix (l:=src.data.toList.drop j) zaf).length_le;rw[List.length_drop,zaq] at this;omega
 rw[d] at f ⊢;have i:=zcQ (src[j]::((src.data.toList.drop (j+1)).takeWhile zaf));have u:0<(bstr (src[j]::((src.data.toList.drop (j+1)).takeWhile zaf))).size:=by rw[i];simp
 have:=zjU (bstr (src[j]::((src.data.toList.drop (j+1)).takeWhile zaf))) w q (by rw[i];omega) u g;have y:(bstr (src[j]::((src.data.toList.drop (j+1)).takeWhile zaf))).data.toList=src[j]::((src.data.toList.drop (j+1)).takeWhile zaf):=by unfold bstr;simp
 rw[y] at this;exact this
def zev (b : Nat) (src : ByteArray) (j : Nat) (L C : Int) (w : World) (e : Ending) (w' : World) : HeadR -> Prop
  | .eof => e = .returned (.tuple #[.agg (Tok.cells ⟨4, [], 0, L, C⟩).toArray, .int .i64 0]) /\ Scan w' b L C src j /\ Only (fun g => g = b) w w'
  | .err code => (∃ (k n : Int) (t : ByteArray), e = .returned (.tuple #[.agg #[.int .u8 k, .string t, .int .i64 n, .int .i64 L, .int .i64 C], .int .i64 code])) /\ Only (fun g => g = b) w w'
  | .tok k t n => e = .returned (.tuple #[.agg (Tok.cells ⟨k, t, n, L, C⟩).toArray, .int .i64 0]) /\ Scan w' b L (C + t.length) src (j + t.length) /\ Only (fun g => g = b) w w'
theorem Scan.alloc{w:World}{b:Nat}{line col:Int}{src:ByteArray}{at':Nat}(h:Scan w b line col src at')(o:Obj):Scan (w.alloc o) b line col src at':=OwnV.alloc h o
theorem Scan.set_ne{w:World}{b:Nat}{line col:Int}{src:ByteArray}{at':Nat}(h:Scan w b line col src at'){g o:Nat}(d:b≠g)(v:Value):Scan (w.setCell ⟨g,o,none⟩ v) b line col src at':=OwnV.set_ne h d v
theorem zdb{tmps:Array Value}{w:World}{g1 g2:Nat}{a b c d e z:Value}(i:tmps[2]?.getD undef=.pointer (some ⟨g1,0,none⟩))(j:tmps[3]?.getD undef=.pointer (some ⟨g2,0,none⟩))(g:OwnV w g1 51 [a,b,c,d,e])(l:OwnV w g2 35 [z]) :
  (results Tryz.f67 tmps).run Tryz.prog w=.ok (.tuple #[.agg #[a,b,c,d,e],z]) w:=by
 have t0:w.cell? ⟨g1,0,none⟩=some a:=OwnV.cell g rfl;have t1:w.cell? ⟨g1,1,none⟩=some b:=OwnV.cell g rfl;have t2:w.cell? ⟨g1,2,none⟩=some c:=OwnV.cell g rfl;have t3:w.cell? ⟨g1,3,none⟩=some d:=OwnV.cell g rfl;have t4:w.cell? ⟨g1,4,none⟩=some e:=OwnV.cell g rfl;have e0:w.cell? ⟨g2,0,none⟩=some z:=OwnV.cell l rfl;simp[results,Tryz.results67,go_sem,i,j,t0,t1,t2,t3,t4,e0]
theorem zg5:∀(xs:List UInt8) (l c:Int),(∀x∈xs,x.toNat≠10)->posS xs l c=(l,c+xs.length):=by
 intro xs
 induction xs with
 | nil=>intro l c _;simp[posS]
 | cons b r ih =>
  intro l c h;rw[posS,yN (h b (by simp)),ih _ _ (fun x hx=>h x (by simp[hx]))];simp only[yB,Prod.mk.injEq,true_and];omega
theorem zm7{x:UInt8}(h:zaf x=true):x.toNat≠10:=by
 intro e;unfold zaf zaH zaV zaG za9 at h;rw[e] at h;revert h;decide
theorem zdZ(b:Nat)(src:ByteArray)(j:Nat)(L C:Int)(w:World)(hS:Scan w b L C src j)(i:j<=src.size)(d:src.size<=16384)(l:0<=L/\L<=j+1)(f:0<=C/\C<=j+1) :
  Calls Tryz.prog 103 #[.pointer (some ⟨b,0,none⟩),.func (.func 102) #[] #[]] w fun e w'=>e=.returned (.string (bstr ((src.data.toList.drop j).takeWhile zaf)))/\Scan w' b L (C+((src.data.toList.drop j).takeWhile zaf).length) src (j+((src.data.toList.drop j).takeWhile zaf).length)/\Only (fun g=>g=b) w w':=by
 refine(zlp b src j L C w hS i d l f).mono ?_;unfold zbF;rw[zeu,zfE,zg5 _ _ _ (fun x hx=>zm7 (List.all_eq_true.1 (zgH _) x hx))];exact fun e w' h=>h
theorem zmp{src:ByteArray}{i j:Nat}(hi:i<=src.size)(d:j<=src.size)(h:src.data.toList.drop i=src.data.toList.drop j):i=j:=by
 have:=congrArg List.length h;rw[List.length_drop,List.length_drop,zaq] at this;omega
theorem zcR(b:Nat)(src:ByteArray)(at' j:Nat)(line col L C:Int)(w:World)(hS:Scan w b line col src at')(f:at'<=src.size)(d:src.size<=16384)(D:0<=line/\line<=at'+1)(A:0<=col/\col<=at'+1)(B:j<=src.size)
  (l:zam (src.data.toList.drop at') false line col=(src.data.toList.drop j,L,C)) :
  Calls Tryz.prog 101 #[.pointer (some ⟨b,0,none⟩)] w fun e w'=>e=.returned (.tuple #[])/\Scan w' b L C src j/\(0<=L/\L<=j+1)/\(0<=C/\C<=j+1)/\Only (fun g=>g=b) w w':=by
 refine(zj4 b src at' line col w hS f d D A).mono ?_;rintro e w'⟨v,⟨F,E,y,i,u,m,q⟩,z⟩;rw[l] at i u m q;simp only[Prod.mk.injEq] at i;have:=zmp B y i.1;subst this;exact⟨v,u,m,q,z⟩
structure NxF (b tb : Nat) (src : ByteArray) (L C : Int) (w W : World) (j : Nat) (D kd : Int) (tx : ByteArray) (n : Int) : Prop where
  s : Scan W b L D src j
  x : OwnV W w.heap.size 79 [.pointer (some ⟨b, 0, none⟩)]
  t : OwnV W (w.heap.size + 1) 51 [.int .u8 0, .string ByteArray.empty, .int .i64 0, .int .i64 0, .int .i64 0]
  e : OwnV W (w.heap.size + 1 + 1) 35 [.int .i64 0]
  k : OwnV W tb 51 [.int .u8 kd, .string tx, .int .i64 n, .int .i64 L, .int .i64 C]
  o : Only (fun g => g = b) w W
  h : b < w.heap.size /\ w.heap.size + 3 <= tb
section
variable {b tb : Nat} {src : ByteArray} {L C : Int} {w W V : World} {j i : Nat} {D E k n : Int} {t : ByteArray}
theorem NxF.cells(F:NxF b tb src L C w W j D k t n):(W.cell? ⟨b,0,none⟩=some (.int .i64 L)/\W.cell? ⟨b,1,none⟩=some (.int .i64 D)/\W.cell? ⟨b,2,none⟩=some (.string src)/\W.cell? ⟨b,3,none⟩=some (.int .i64 j)/\(∀o,W.frozen? ⟨b,o,none⟩=false)) /\
  W.cell? ⟨w.heap.size,0,none⟩=some (.pointer (some ⟨b,0,none⟩))/\W.cell? ⟨tb,0,none⟩=some (.int .u8 k)/\W.cell? ⟨tb,1,none⟩=some (.string t)/\W.cell? ⟨tb,2,none⟩=some (.int .i64 n)/\W.cell? ⟨tb,3,none⟩=some (.int .i64 L)/\W.cell? ⟨tb,4,none⟩=some (.int .i64 C)/\(∀o,W.frozen? ⟨tb,o,none⟩=false) /\
  W.cell? ⟨w.heap.size+1,0,none⟩=some (.int .u8 0)/\W.cell? ⟨w.heap.size+1,1,none⟩=some (.string ByteArray.empty)/\W.cell? ⟨w.heap.size+1,2,none⟩=some (.int .i64 0)/\W.cell? ⟨w.heap.size+1,3,none⟩=some (.int .i64 0)/\W.cell? ⟨w.heap.size+1,4,none⟩=some (.int .i64 0)/\(∀o,W.frozen? ⟨w.heap.size+1,o,none⟩=false) /\
  W.cell? ⟨w.heap.size+1+1,0,none⟩=some (.int .i64 0)/\W.frozen? ⟨w.heap.size+1+1,0,none⟩=false:=
 ⟨F.s.cells,F.x.cell rfl,F.k.cell rfl,F.k.cell rfl,F.k.cell rfl,F.k.cell rfl,F.k.cell rfl,fun o=>F.k.free o,F.t.cell rfl,F.t.cell rfl,F.t.cell rfl,F.t.cell rfl,F.t.cell rfl,fun o=>F.t.free o,F.e.cell rfl,F.e.free 0⟩
theorem NxF.far(F:NxF b tb src L C w W j D k t n):b≠w.heap.size+1/\b≠w.heap.size+1+1/\b≠tb/\tb≠w.heap.size+1/\tb≠w.heap.size+1+1/\w.heap.size+1≠tb/\w.heap.size+1+1≠tb/\tb<W.heap.size:=by
 have:=F.h;have:=F.k.lt;omega
theorem NxF.only(F:NxF b tb src L C w W j D k t n)(h:Only (fun g=>g=b) W V)(d:Scan V b L E src i):NxF b tb src L C w V i E k t n:=by
 have:=F.h;exact⟨d,h.own F.x (by omega),h.own F.t (by omega),h.own F.e (by omega),h.own F.k (by omega),F.o.trans h,this⟩
theorem NxF.below(F:NxF b tb src L C w W j D k t n)(h:Below W.heap.size W V):NxF b tb src L C w V j D k t n:=
 F.only (Only.of_below h) ((Only.of_below (S:=fun _=>False) h).own F.s (fun h=>h))
theorem NxF.drewN(F:NxF b tb src L C w W j D k t n)(q:Nat):NxF b tb src L C w (W.drewN q) j D k t n:=⟨F.s,F.x,F.t,F.e,F.k,F.o.drewN q,F.h⟩
theorem NxF.put{o:Nat}{v:Value}{i f:Int}{g:ByteArray}(F:NxF b tb src L C w W j D k t n)(h:[Value.int .u8 k,.string t,.int .i64 n,.int .i64 L,.int .i64 C].set o v=[.int .u8 i,.string g,.int .i64 f,.int .i64 L,.int .i64 C]):NxF b tb src L C w (W.setCell ⟨tb,o,none⟩ v) j D i g f:=by
 have:=F.h;have d:=F.k.set o v;rw[h] at d;exact⟨F.s.set_ne (by omega) _,F.x.set_ne (by omega) _,F.t.set_ne (by omega) _,F.e.set_ne (by omega) _,d,F.o.setNew (by omega) _,this⟩
theorem NxF.ret(F:NxF b tb src L C w W j D k t n)(z:Int):∃V,V=(((((W.setCell ⟨w.heap.size+1,0,none⟩ (.int .u8 k)).setCell ⟨w.heap.size+1,1,none⟩ (.string t)).setCell ⟨w.heap.size+1,2,none⟩ (.int .i64 n)).setCell ⟨w.heap.size+1,3,none⟩ (.int .i64 L)).setCell ⟨w.heap.size+1,4,none⟩ (.int .i64 C)).setCell ⟨w.heap.size+1+1,0,none⟩ (.int .i64 z) /\
  OwnV V (w.heap.size+1) 51 [.int .u8 k,.string t,.int .i64 n,.int .i64 L,.int .i64 C]/\OwnV V (w.heap.size+1+1) 35 [.int .i64 z]/\Scan V b L D src j/\Only (fun g=>g=b) w V/\W.heap.size<=V.heap.size/\∀g,w.heap.size+1+1<g->V.heap[g]? = W.heap[g]?:=by
 have:=F.h
 refine⟨_,rfl,(((((F.t.set 0 _).set 1 _).set 2 _).set 3 _).set 4 _).set_ne (by omega) _,(((((F.e.set_ne (by omega) _).set_ne (by omega) _).set_ne (by omega) _).set_ne (by omega) _).set_ne (by omega) _).set 0 _,
  (((((F.s.set_ne (by omega) _).set_ne (by omega) _).set_ne (by omega) _).set_ne (by omega) _).set_ne (by omega) _).set_ne (by omega) _,(((((F.o.setNew (by omega) _).setNew (by omega) _).setNew (by omega) _).setNew (by omega) _).setNew (by omega) _).setNew (by omega) _,by simp,fun g hg=>?_⟩
 have d:g≠w.heap.size+1:=by omega
 have f:g≠w.heap.size+1+1:=by omega
 rw[Below.heap_setCell _ ⟨w.heap.size+1+1,0,none⟩ _ _ f,Below.heap_setCell _ ⟨w.heap.size+1,4,none⟩ _ _ d,Below.heap_setCell _ ⟨w.heap.size+1,3,none⟩ _ _ d,Below.heap_setCell _ ⟨w.heap.size+1,2,none⟩ _ _ d,Below.heap_setCell _ ⟨w.heap.size+1,1,none⟩ _ _ d,Below.heap_setCell _ ⟨w.heap.size+1,0,none⟩ _ _ d]
end
theorem next_boxes{b:Nat}{w f:World}(i:b<w.heap.size)(d:Only (fun g=>g=b) (((w.alloc (.cells #[.pointer (some ⟨b,0,none⟩)] 79)).alloc (.cells #[.int .u8 0,.string ByteArray.empty,.int .i64 0,.int .i64 0,.int .i64 0] 51)).alloc (.cells #[.int .i64 0] 35)) f) :
  Hid (OwnV f w.heap.size 79 [.pointer (some ⟨b,0,none⟩)])/\Hid (OwnV f (w.heap.size+1) 51 [.int .u8 0,.string ByteArray.empty,.int .i64 0,.int .i64 0,.int .i64 0])/\Hid (OwnV f (w.heap.size+1+1) 35 [.int .i64 0])/\Hid (Only (fun g=>g=b) w f)/\w.heap.size+3<=f.heap.size:=by
 refine⟨zh (d.own (((OwnV.new w 79 [.pointer (some ⟨b,0,none⟩)]).alloc _).alloc _) (by omega)),
  zh (d.own (by have:=(OwnV.new (w.alloc (.cells #[.pointer (some ⟨b,0,none⟩)] 79)) 51 [.int .u8 0,.string ByteArray.empty,.int .i64 0,.int .i64 0,.int .i64 0]).alloc (.cells #[.int .i64 0] 35);rw[World.size_alloc] at this;exact this) (by omega)),
  zh (d.own (by have:=OwnV.new ((w.alloc (.cells #[.pointer (some ⟨b,0,none⟩)] 79)).alloc (.cells #[.int .u8 0,.string ByteArray.empty,.int .i64 0,.int .i64 0,.int .i64 0] 51)) 35 [.int .i64 0];rw[World.size_alloc,World.size_alloc] at this;exact this) (by omega)),
  zh (((((Only.refl _ w).alloc _).alloc _).alloc _).trans d),?_⟩
 have:=d.size;simp at this;omega
def numH (l : List UInt8) : HeadR := match zaS l with
  | none => .err 112
  | some n => .tok 2 l n
theorem head_part{src:ByteArray}{j:Nat}(d:j<src.size):zcG (src.data.toList.drop j) =
  if zaH src[j]=true then if 24<((src.data.toList.drop j).takeWhile zaf).length then .err 111 else .tok 1 ((src.data.toList.drop j).takeWhile zaf) 0
  else if zaG src[j]=true then numH ((src.data.toList.drop j).takeWhile zaf)
  else if zag (src.data.toList.drop j)=0 then .err 110 else .tok 3 ((src.data.toList.drop j).take (zag (src.data.toList.drop j))) 0:=by
 rw[za2 src d,zcG];rfl
theorem next_part(b:Nat)(src:ByteArray)(at' j:Nat)(line col L C:Int)(w:World)(hS:Scan w b line col src at')(aw:at'<=src.size)(I:src.size<=16384)(hl:0<=line/\line<=at'+1)(hc:0<=col/\col<=at'+1)(hj:j<=src.size)(hG:Glob w)(aL:glB<=b)(ag:∀h:j<src.size,zaH src[j]=true∨zaG src[j]=true)
  (am:zam (src.data.toList.drop at') false line col=(src.data.toList.drop j,L,C)) :
  Calls Tryz.prog 67 #[.pointer (some ⟨b,0,none⟩)] w fun e w'=>zev b src j L C w e w' (zcG (src.data.toList.drop j)):=by
 have hb:b<w.heap.size:=OwnV.lt hS;have HS:=zh hS;have HB:Hid (∀W,Scan W b line col src at'->Calls Tryz.prog 101 #[.pointer (some ⟨b,0,none⟩)] W fun e w'=>e=.returned (.tuple #[])/\Scan w' b L C src j/\(0<=L/\L<=j+1)/\(0<=C/\C<=j+1)/\Only (fun g=>g=b) W w'):=zh (fun W h=>zcR b src at' j line col L C W h aw I hl hc (by omega) am);obtain⟨z,d⟩:∃r,Hid (zcG (src.data.toList.drop j)=r):=⟨_,zh rfl⟩;rw[d.out];clear hS hl hc am;have ao:=zh ag;have HG:=zh hG;have aJ:=zh I;have Hj:=zh hj;clear ag hG hj;go_enter Tryz.func67,Tryz.ntmps67
 go_wp2_with fail
 go_at_call 101;refine(HB.out _ (((HS.out.alloc _).alloc _).alloc _)).mono ?_;rintro e1 w1⟨rfl,ak,⟨ah,aq⟩,⟨ae,ap⟩,an⟩;obtain⟨ac,ai,aj,au,M⟩:=next_boxes hb an;have Z:=zh ak;clear ak an;obtain⟨U,N,O,T,R⟩:=Z.out.cells;have Q:=ac.out.cell (i:=0) rfl;have aK:(0:Int)<=(j:Int):=by omega
 go_wp2_with fail
 have ay:b<w1.heap.size:=by omega
 have aA:w.heap.size<w1.heap.size:=by omega
 go_region_held3 (fun w'=>w'.cell? ⟨b,0,none⟩=some (.int .i64 L)/\w'.cell? ⟨b,1,none⟩=some (.int .i64 C)/\w'.cell? ⟨w.heap.size,0,none⟩=some (.pointer (some ⟨b,0,none⟩))) (go_keep) (fail)
 rename_i hHeld
 clear hHeld;go_wp2_with fail
 refine zac (DrewOf _) (by kernel_rfl) (by kernel_rfl) (DrewOf.start _) ?_
 repeat
  try simp only[Act.put,zs1,zs3,zs2]
  apply stepsSeq.cons
  ·rintro w'⟨y,rfl⟩;simp only[Act.put,zs1,zs3,zs2];go_wp2_with (fail)
   first|exact⟨rfl,y,rfl⟩|exact⟨rfl,y,(World.drewN_drewN _ _ _).symm⟩|exact⟨rfl,y,by simp⟩
 try simp only[Act.put,zs1,zs3,zs2]
 refine stepsSeq.nil ?_;rintro w'⟨y,rfl⟩;clear U N O T R Q ay aA;obtain⟨tb,Y⟩:∃tb,tb=w1.heap.size:=⟨_,rfl⟩;rw[<-Y];obtain⟨w3,aa⟩:∃w3,w3=((w1.alloc (.cells #[.int .u8 4,.string { data:=#[] },.int .i64 0,.int .i64 L,.int .i64 C] 51)).drew).drewN y:=⟨_,rfl⟩;rw[<-aa]
 have P:NxF b tb src L C w w3 j C 4 ByteArray.empty 0:=by
  rw[aa,Y];exact⟨Z.out.alloc _,ac.out.alloc _,ai.out.alloc _,aj.out.alloc _,OwnV.new w1 _ [.int .u8 4,.string ByteArray.empty,.int .i64 0,.int .i64 L,.int .i64 C],((au.out.alloc _).drew).drewN _,hb,M⟩
 have aG:w.heap.size+3<=tb:=P.h.2;obtain⟨-,-,-,aF,aH,aC,az,J⟩:=P.far;clear aa Y Z ac ai aj au M;obtain⟨⟨U,N,O,T,R⟩,Q,k0,k1,k2,k3,k4,kf,t0,t1,t2,t3,t4,tf,e0,ef⟩:=P.cells;by_cases he:j=src.size
 ·have aE:((j:Int)==(src.size:Int))=true:=by rw[beq_iff_eq];omega
  have Hf:Hid (z=.eof):=zh (by rw[<-d.out,zdf src (by omega)];rfl);clear he d;go_wp2_with fail
  obtain⟨V,F,u,m,D,f,-,-⟩:=P.ret 0;rw[F] at u m D f;exact yE (zdb rfl rfl u m) rfl (by rw[Hf.out];exact⟨rfl,D,f⟩)
 have hj:j<src.size:=by have:=Hj.out;omega
 have aE:((j:Int)==(src.size:Int))=false:=by rw[beq_eq_false_iff_ne];omega
 have aM:(j:Int)<(src.size:Int):=by omega
 have aI:src[j].toNat<=255:=by have:=src[j].toNat_lt;omega
 obtain⟨ql,ad⟩:∃q,zaV (src[j].toNat:Int)=q:=⟨_,rfl⟩;obtain⟨qd,E⟩:∃q,za9 (src[j].toNat:Int)=q:=⟨_,rfl⟩;have hd:qd=false->ql=true:=fun h=>(ao.out hj).resolve_right (by show ¬za9 (src[j].toNat:Int)=true;rw[E,h];decide) |> ad.symm.trans
 have G:Hid (z=_):=zh (d.out.symm.trans (head_part hj));rw[show zaH src[j]=ql from ad,show zaG src[j]=qd from E] at G;have l:Hid (qd=true->∀W,Glob W->Calls Tryz.prog 104 #[.string (bstr ((src.data.toList.drop j).takeWhile zaf))] W fun e w'=>e=numC (zaS ((src.data.toList.drop j).takeWhile zaf))/\Below W.heap.size W w'):=zh (fun h W hW=>zgg hj I (E.trans h) W hW);have ab:Hid (∀W,Scan W b L C src j->(0<=L/\L<=j+1)->(0<=C/\C<=j+1)->Calls Tryz.prog 103 #[.pointer (some ⟨b,0,none⟩),.func (.func 102) #[] #[]] W fun e w'=>e=.returned (.string (bstr ((src.data.toList.drop j).takeWhile zaf)))/\Scan w' b L (C+((src.data.toList.drop j).takeWhile zaf).length) src (j+((src.data.toList.drop j).takeWhile zaf).length)/\Only (fun g=>g=b) W w'):=zh (fun W h h1 h2=>zdZ b src j L C W h (by omega) I h1 h2);obtain⟨rs,H⟩:∃rs,Hid (bstr ((src.data.toList.drop j).takeWhile zaf)=rs):=⟨_,zh rfl⟩;have af:Hid (rs.size=((src.data.toList.drop j).takeWhile zaf).length):=zh (by rw[<-H.out];exact zcQ _);rw[H.out] at ab l
 generalize (src.data.toList.drop j).takeWhile zaf=run at *
 clear d ao Hj he;go_wp2_with fail
 go_wp2_with fail
 refine zac (DrewOf _) (by kernel_rfl) (by kernel_rfl) (DrewOf.start _) ?_
 repeat
  try simp only[Act.put,zs1,zs3,zs2]
  apply stepsSeq.cons
  ·rintro w'⟨y,rfl⟩;simp only[Act.put,zs1,zs3,zs2];go_wp2_with (fail)
   first|exact⟨rfl,y,rfl⟩|exact⟨rfl,y,(World.drewN_drewN _ _ _).symm⟩|exact⟨rfl,y,by simp⟩
 try simp only[Act.put,zs1,zs3,zs2]
 refine stepsSeq.nil ?_;rintro w'⟨y,rfl⟩;go_wp2_with fail
 go_at_call 78;refine(zbR _ _).mono ?_;rintro e1 wl⟨rfl,rfl⟩;rw[ad]
 cases ql with
 | true =>
  rw[yP rfl] at G;go_wp2_with fail
  go_at_call 103;refine(ab.out _ (P.s.drewN _) ⟨ah,aq⟩ ⟨ae,ap⟩).mono ?_;rintro e1 w4⟨rfl,B,A⟩;have X:=(P.drewN y).only A B;clear B A;clear U N O T R Q k0 k1 k2 k3 k4 kf t0 t1 t2 t3 t4 tf e0 ef;obtain⟨⟨U,N,O,T,R⟩,Q,k0,k1,k2,k3,k4,kf,t0,t1,t2,t3,t4,tf,e0,ef⟩:=X.cells;obtain⟨-,-,-,-,-,-,-,J⟩:=X.far;by_cases S:24<run.length
  all_goals
   first|have ax:(rs.size:Int)>24:=by have:=af.out;omega|have ax:¬(rs.size:Int)>24:=by have:=af.out;omega
   have K:=zh S;clear S;go_wp2_with fail
  ·obtain⟨V,F,u,m,D,f,-,-⟩:=((X.put (o:=0) rfl).put (o:=1) rfl).ret 111;rw[F] at u m f;exact yE (zdb rfl rfl u m) rfl (by rw[G.out,yP K.out];exact⟨⟨_,_,_,rfl⟩,f⟩)
  ·obtain⟨V,F,u,m,D,f,-,-⟩:=((X.put (o:=0) rfl).put (o:=1) rfl).ret 0;rw[F] at u m D f
   exact yE (zdb rfl rfl u m) rfl (by rw[G.out,yN K.out];exact⟨by rw[<-H.out];rfl,D,f⟩)
 | false =>
  have av:qd=true:=by cases qd;exact absurd (hd rfl) (by decide);rfl
  subst av;rw[yN (by decide),yP rfl] at G;go_wp2_with fail
  go_at_call 79;refine(zc0 _ _).mono ?_;rintro e1 wl⟨rfl,rfl⟩;rw[E];go_wp2_with fail
  go_at_call 103;refine(ab.out _ (P.s.drewN _) ⟨ah,aq⟩ ⟨ae,ap⟩).mono ?_;rintro e1 w4⟨rfl,B,A⟩;have X:=(P.drewN y).only A B;clear B A;clear U N O T R Q k0 k1 k2 k3 k4 kf t0 t1 t2 t3 t4 tf e0 ef;obtain⟨⟨U,N,O,T,R⟩,Q,k0,k1,k2,k3,k4,kf,t0,t1,t2,t3,t4,tf,e0,ef⟩:=X.cells;obtain⟨-,-,-,-,-,-,-,J⟩:=X.far;go_wp2_with fail
  go_at_call 104;have F5:=(X.put (o:=0) (v:=.int .u8 2) rfl).put (o:=1) (v:=.string rs) rfl;obtain⟨qv,aD⟩:∃q,Hid (zaS run=q):=⟨_,zh rfl⟩;unfold numH at G;rw[aD.out] at l G;unfold numC at l;cases qv
  all_goals
   refine(l.out (by first|rfl|trivial) _ (HG.out.only F5.o (fun k hk=>by have:k=b:=hk;omega))).mono ?_;rintro e1 w5⟨rfl,ar⟩;have F6:=F5.below ar;clear F5 ar;clear U N O T R Q k0 k1 k2 k3 k4 kf t0 t1 t2 t3 t4 tf e0 ef;obtain⟨⟨U,N,O,T,R⟩,Q,k0,k1,k2,k3,k4,kf,t0,t1,t2,t3,t4,tf,e0,ef⟩:=F6.cells;go_wp2_with fail
  ·obtain⟨V,F,u,m,D,f,-,-⟩:=(F6.put (o:=2) rfl).ret 112;rw[F] at u m f;exact yE (zdb rfl rfl u m) rfl (by rw[G.out];exact⟨⟨_,_,_,rfl⟩,f⟩)
  ·obtain⟨V,F,u,m,D,f,-,-⟩:=(F6.put (o:=2) rfl).ret 0;rw[F] at u m D f;exact yE (zdb rfl rfl u m) rfl (by rw[G.out];exact⟨by rw[<-H.out];rfl,D,f⟩)
open Go.RowKit Go.Shelf
attribute [local go_sem] Oper.semAt_some

def SignI (b tb : Nat) (src : ByteArray) (j : Nat) (L C : Int) (w : World) (B : Nat) (pre : List (Fin 23)) (W : World) : Prop :=
  (∀ y ∈ pre, hitB y.val (src.data.toList.drop j) = false) /\ NxF b tb src L C w W j C 4 ByteArray.empty 0 /\ B <= W.heap.size
def SignX (b : Nat) (src : ByteArray) (j : Nat) (L C : Int) (w : World) (c : Code) (pre : List (Fin 23)) (W : World) : Prop :=
  c = .ret /\ ∃ p x, pre = p ++ [x] /\ (∀ y ∈ p, hitB y.val (src.data.toList.drop j) = false) /\ hitB x.val (src.data.toList.drop j) = true /\ Scan W b L (C + (sg x.val).length) src (j + (sg x.val).length) /\
  OwnV W (w.heap.size + 1) 51 [.int .u8 3, .string (bstr (sg x.val)), .int .i64 0, .int .i64 L, .int .i64 C] /\ OwnV W (w.heap.size + 1 + 1) 35 [.int .i64 0] /\ Only (fun g => g = b) w W
theorem zj1{b tb:Nat}{src:ByteArray}{j:Nat}{L C:Int}{w:World}{B:Nat}(m:w.heap.size<=B):OwnFrom B (SignI b tb src j L C w B):=by
 intro s W q row ⟨i,h,l⟩ f g;have d:∀r,row=some r->∃o:Obj,W.heap[r]? = some o/\o.isCells=false:=fun r e=>(g r e).2
 exact⟨i,⟨OwnV.ofNon h.s f d,OwnV.ofNon h.x f d,OwnV.ofNon h.t f d,OwnV.ofNon h.e f d,OwnV.ofNon h.k f d,h.o.grown f (fun r e=>yT m (g r e).1),h.h⟩,yT l f.size⟩
theorem zj2{b:Nat}{src:ByteArray}{j:Nat}{L C:Int}{w:World}{B:Nat}(v:w.heap.size<=B)(c:Code):OwnFrom B (SignX b src j L C w c):=by
 intro s W D row ⟨m,p,x,i,q,z,A,l,y,u⟩ f g;have d:∀r,row=some r->∃o:Obj,W.heap[r]? = some o/\o.isCells=false:=fun r e=>(g r e).2
 exact⟨m,p,x,i,q,z,OwnV.ofNon A f d,OwnV.ofNon l f d,OwnV.ofNon y f d,u.grown f (fun r e=>yT v (g r e).1)⟩
theorem pre_no{f:List UInt8}{p:List (Fin 23)}{x:Fin 23}(hp:p++[x] <+: List.finRange 23)(h:∀y∈p,hitB y.val f=false):∀i,i<x.val->hitB i f=false:=by
 have g:=hp.length_le;simp only[yA,yB,yL,List.length_finRange] at g
 have d:∀i (hi:i<(p++[x]).length),(p++[x])[i]=⟨i,by simp at hi;omega⟩:=fun i hi=>by
  have q:=hp.getElem hi;rw[List.getElem_finRange] at q;rw[q];rfl
 have u:p.length=x.val:=by
  have:=d p.length (by simp);simp at this;rw[this]
 intro i hi;have j:=d i (by simp;omega);rw[List.getElem_append_left (by omega)] at j;have m:=h _ (List.getElem_mem (l:=p) (n:=i) (by omega));rw[j] at m;exact m
theorem zgh{n:Nat}{tmps:Array Value}{W:World}{D g1 g2:Nat}{a b c d e z:Value}{R:Ending->World->Prop}(j:tmps[2]?.getD undef=.pointer (some ⟨g1,0,none⟩))(l:tmps[3]?.getD undef=.pointer (some ⟨g2,0,none⟩))(q:OwnV W g1 51 [a,b,c,d,e])(m:OwnV W g2 35 [z])
  (g:W.heap[D]? = some (.deferred (some []))) (u:R (.returned (.tuple #[.agg #[a,b,c,d,e],z])) (W.putObj D (.deferred none))):LeavesInM Fence.wide n Tryz.prog Tryz.f67 tmps R [{ target:=.collected D,args:=#[] }] .returning W:=by
 have i:∀r,some D=some r->∃o:Obj,W.heap[r]? = some o/\o.isCells=false:=fun r e=>by cases e;exact⟨_,g,rfl⟩
 refine⟨by simp,.inl ⟨_,_,rfl,run_takeDeferred g,?_⟩⟩;exact⟨_,zdb j l (q.ofNon (grownBy_putObj' W D _) i) (m.ofNon (grownBy_putObj' W D _) i),u⟩
theorem sg_nl:∀k:Fin 23,∀y∈sg k.val,y.toNat≠10:=by decide +kernel
theorem zlk:∀k:Fin 23,(sg k.val).length<=2/\1<=(sg k.val).length:=by decide +kernel
theorem zll(b lb:Nat)(src:ByteArray)(j:Nat)(L C:Int)(x:Fin 23)(z:j<=src.size)(f:src.size<=16384)(q:0<=L/\L<=j+1)(l:0<=C/\C<=j+1)(i:lb≠b)(d:hitB x.val (src.data.toList.drop j)=true)(m:Nat)(y:m=(sg x.val).length)(w:World)(hS:Scan w b L C src j)(u:OwnV w lb 3 [.int .i64 m]) :
  Calls Tryz.prog 103 #[.pointer (some ⟨b,0,none⟩),.func (.func 107) #[] #[.pointer (some ⟨lb,0,none⟩)]] w fun e w'=>(∃v,e=.returned v)/\Scan w' b L (C+(sg x.val).length) src (j+(sg x.val).length)/\Only (fun g=>g=b∨g=lb) w w':=by
 have hp:=zft d;have A:=zlk x;refine(zlq b src j L C w lb m (by omega) i u hS z f q l).mono ?_;unfold zbF;rw[zjZ m _ 0 (Nat.zero_le _) (by omega),Nat.sub_zero,y,hp.1,zg5 _ _ _ (sg_nl x)];exact fun e w' h=>⟨⟨_,h.1⟩,h.2.1,h.2.2⟩
theorem zeY{c:UInt8}{r:List UInt8}(f:zaH c=false)(d:zaG c=false):zcG (c::r)=if zag (c::r)=0 then .err 110 else .tok 3 ((c::r).take (zag (c::r))) 0:=by
 rw[zcG,yN (by rw[f];decide),yN (by rw[d];decide)]
theorem all_no{d:List UInt8}(h:∀y∈List.finRange 23,hitB y.val d=false):∀i,i<23->hitB i d=false:=fun i hi=>h ⟨i,hi⟩ (List.mem_finRange _)
theorem zlm(b:Nat)(src:ByteArray)(at' j:Nat)(line col L C:Int)(w:World)(hS:Scan w b line col src at')(aE:at'<=src.size)(az:src.size<=16384)(hl:0<=line/\line<=at'+1)(hc:0<=col/\col<=at'+1)(hj:j<src.size)(hG:Glob w)(a2:glB<=b)(A:zaH src[j]=false)(I:zaG src[j]=false)
  (ar:zam (src.data.toList.drop at') false line col=(src.data.toList.drop j,L,C)) :
  Calls Tryz.prog 67 #[.pointer (some ⟨b,0,none⟩)] w fun e w'=>zev b src j L C w e w' (zcG (src.data.toList.drop j)):=by
 have hb:b<w.heap.size:=OwnV.lt hS;have HS:=zh hS;have HB:Hid (∀W,Scan W b line col src at'->Calls Tryz.prog 101 #[.pointer (some ⟨b,0,none⟩)] W fun e w'=>e=.returned (.tuple #[])/\Scan w' b L C src j/\(0<=L/\L<=j+1)/\(0<=C/\C<=j+1)/\Only (fun g=>g=b) W w'):=zh (fun W h=>zcR b src at' j line col L C W h aE az hl hc (by omega) ar);obtain⟨aH,M⟩:∃r,Hid (zcG (src.data.toList.drop j)=r):=⟨_,zh rfl⟩;rw[M.out];clear hS hl hc ar;have a4:((j:Int)==(src.size:Int))=false:=by rw[beq_eq_false_iff_ne];omega
 have a5:(j:Int)<(src.size:Int):=by omega
 have aY:src[j].toNat<=255:=by have:=src[j].toNat_lt;omega
 have a3:zaV (src[j].toNat:Int)=false:=A;have aZ:za9 (src[j].toNat:Int)=false:=I;have HG:=zh hG;have HD:Hid (∃r,src.data.toList.drop j=src[j]::r):=zh ⟨_,za2 src hj⟩;have Y:=zh A;have X:=zh I;clear A I hG;refine callsIn_wide.1 (callsIn_of_wp_marks (n:=6) Tryz.func67 rfl trivial ?_ rfl);refine wpIn_wide.2 ?_;simp only[Tryz.ntmps67,List.size_toArray,yB,yL,Nat.reduceAdd,Nat.reduceSub,Array.replicate_succ,Array.replicate_zero,List.push_toArray,List.append_toArray,List.nil_append,List.cons_append];go_wp2_with fail
 go_at_call 101;refine(HB.out _ (((HS.out.alloc _).alloc _).alloc _)).mono ?_;rintro e1 w1⟨rfl,an,⟨aG,aQ⟩,⟨aD,aP⟩,ay⟩;obtain⟨ae,ak,am,aC,Q⟩:=next_boxes hb ay;have ab:=zh an;clear an ay;obtain⟨c0,c1,c2,c3,cf⟩:=ab.out.cells;have x0:=ae.out.cell (i:=0) rfl;have a1:(0:Int)<=(j:Int):=by omega
 go_wp2_with fail
 have aL:b<w1.heap.size:=by omega
 have aO:w.heap.size<w1.heap.size:=by omega
 go_region_held3 (fun w'=>w'.cell? ⟨b,0,none⟩=some (.int .i64 L)/\w'.cell? ⟨b,1,none⟩=some (.int .i64 C)/\w'.cell? ⟨w.heap.size,0,none⟩=some (.pointer (some ⟨b,0,none⟩))) (go_keep) (fail)
 rename_i hHeld
 clear hHeld;go_wp2_with fail
 refine zac (DrewOf _) (by kernel_rfl) (by kernel_rfl) (DrewOf.start _) ?_
 repeat
  try simp only[Act.put,zs1,zs3,zs2]
  apply stepsSeq.cons
  ·rintro w'⟨d,rfl⟩;simp only[Act.put,zs1,zs3,zs2];go_wp2_with (fail)
   first|exact⟨rfl,d,rfl⟩|exact⟨rfl,d,(World.drewN_drewN _ _ _).symm⟩|exact⟨rfl,d,by simp⟩
 try simp only[Act.put,zs1,zs3,zs2]
 refine stepsSeq.nil ?_;rintro w'⟨d,rfl⟩;clear c0 c1 c2 c3 cf x0 aL aO;obtain⟨tb,aa⟩:∃tb,tb=w1.heap.size:=⟨_,rfl⟩;rw[<-aa];obtain⟨w3,ac⟩:∃w3,w3=((w1.alloc (.cells #[.int .u8 4,.string { data:=#[] },.int .i64 0,.int .i64 L,.int .i64 C] 51)).drew).drewN d:=⟨_,rfl⟩;rw[<-ac]
 have F3:NxF b tb src L C w w3 j C 4 ByteArray.empty 0:=by
  rw[ac,aa];exact⟨ab.out.alloc _,ae.out.alloc _,ak.out.alloc _,am.out.alloc _,OwnV.new w1 _ [.int .u8 4,.string ByteArray.empty,.int .i64 0,.int .i64 L,.int .i64 C],((aC.out.alloc _).drew).drewN _,hb,Q⟩
 have aU:w.heap.size+3<=tb:=F3.h.2;obtain⟨-,-,-,P,R,J,H,aS⟩:=F3.far;clear ac aa ab ae ak am aC Q;obtain⟨⟨c0,c1,c2,c3,cf⟩,x0,k0,k1,k2,k3,k4,kf,t0,t1,t2,t3,t4,tf,e0,ef⟩:=F3.cells;go_wp2_with fail
 go_wp2_with fail
 refine zac (DrewOf _) (by kernel_rfl) (by kernel_rfl) (DrewOf.start _) ?_
 repeat
  try simp only[Act.put,zs1,zs3,zs2]
  apply stepsSeq.cons
  ·rintro w'⟨d,rfl⟩;simp only[Act.put,zs1,zs3,zs2];go_wp2_with (fail)
   first|exact⟨rfl,d,rfl⟩|exact⟨rfl,d,(World.drewN_drewN _ _ _).symm⟩|exact⟨rfl,d,by simp⟩
 try simp only[Act.put,zs1,zs3,zs2]
 refine stepsSeq.nil ?_;rintro w'⟨d,rfl⟩;go_wp2_with fail
 go_at_call 78;refine(zbR _ _).mono ?_;rintro e1 wl⟨rfl,rfl⟩;go_wp2_with fail
 go_at_call 79;refine(zc0 _ _).mono ?_;rintro e1 wl⟨rfl,rfl⟩;go_wp2_with fail
 go_at_call 105;refine(callsIn_wide.1 (zh4 6 _ _)).mono ?_;rintro e1 w5⟨rfl,rfl⟩;go_wp2_with fail
 clear c0 c1 c2 c3 cf x0 k0 k1 k2 k3 k4 kf t0 t1 t2 t3 t4 tf e0 ef;obtain⟨bx,O⟩:∃bx,bx=w3.heap.size:=⟨_,rfl⟩;rw[<-O];obtain⟨N,B⟩:∃N,N=(w3.drewN d).alloc (.cells #[.string { data:=#[61,61,32,33,61,32,60,61,32,62,61,32,38,38,32,124,124,32,43,32,45,32,42,32,47,32,37,32,60,32,62,32,33,32,61,32,40,32,41,32,91,32,93,32,123,32,125,32,44,32,59] }] 9):=⟨_,rfl⟩;rw[<-B];have F6:NxF b tb src L C w N j C 4 ByteArray.empty 0:=by rw[B];exact(F3.drewN d).below ((yR _ _).alloc (zr _) _)
 have aN:Glob N:=HG.out.only F6.o (fun k hk=>by have:k=b:=hk;omega);have aK:N.cell? ⟨bx,0,none⟩=some (.string sigS):=by rw[B,O];exact OwnV.cell (OwnV.new (w3.drewN d) 9 [.string sigS]) rfl
 have ai:bx<N.heap.size:=by rw[B,O];simp
 have U:w.heap.size<=N.heap.size:=F6.o.size;clear B O F3
 refine wpIn_wide.1 (wpIn_rangeFunc_ownG (F:=Fence.wide) (n:=6) rfl (by omega) (gf:=141) (lb:=#[.pointer (some ⟨bx,0,none⟩)]) rfl trivial (enters_of Tryz.func141 (by kernel_rfl) rfl)
  (zh5 5 (by omega) bx N aN aK ai) belowK_t (belowK_b (zr _)) (yR _ _) (fun _=>rfl)
  (SignI b tb src j L C w N.heap.size) (SignX b src j L C w) (zj1 U) (zj2 U) ⟨fun y hy=>(by cases hy),F6,zr _⟩
  (fun x=>{ tmps:=#[Value.pointer (some ⟨b,0,none⟩),Value.pointer (some ⟨w.heap.size,0,none⟩),Value.pointer (some ⟨w.heap.size+1,0,none⟩),Value.pointer (some ⟨w.heap.size+1+1,0,none⟩),Value.pointer (some ⟨tb,0,none⟩),Value.func (Fn.func 102) #[] #[],Value.int IntKind.u8 (src[j].toNat:Int),undef,Value.string (bstr (sg x.val)),undef,Value.pointer (some ⟨b,0,none⟩),Value.tuple #[],Value.pointer (some ⟨b,0,none⟩),Value.pointer (some ⟨b,0,none⟩),Value.pointer (some ⟨b,0,none⟩),Value.pointer (some ⟨b,0,none⟩),Value.int IntKind.i64 L,Value.pointer (some ⟨b,0,none⟩),Value.pointer (some ⟨b,0,none⟩),Value.pointer (some ⟨b,0,none⟩),Value.pointer (some ⟨b,1,none⟩),Value.int IntKind.i64 C,Value.agg #[Value.int IntKind.u8 4,Value.string { data:=#[] },Value.int IntKind.i64 0,Value.int IntKind.i64 L,Value.int IntKind.i64 C],Value.pointer (some ⟨b,0,none⟩),Value.pointer (some ⟨b,0,none⟩),Value.pointer (some ⟨b,3,none⟩),Value.int IntKind.i64 (j:Int),Value.pointer (some ⟨b,0,none⟩),Value.pointer (some ⟨b,0,none⟩),Value.pointer (some ⟨b,2,none⟩),Value.string src,Value.int IntKind.i64 (src.size:Int),Value.bool false,undef,Value.pointer (some ⟨b,0,none⟩),Value.pointer (some ⟨b,0,none⟩),Value.pointer (some ⟨b,2,none⟩),Value.string src,Value.pointer (some ⟨b,0,none⟩),Value.pointer (some ⟨b,0,none⟩),Value.pointer (some ⟨b,3,none⟩),Value.int IntKind.i64 (j:Int),Value.int IntKind.u8 (src[j].toNat:Int),Value.func (Fn.func 141) #[] #[Value.pointer (some ⟨bx,0,none⟩)],Value.string (bstr (sg x.val)),undef,undef,undef,undef,undef,undef,undef,undef,undef,undef,undef,undef,undef,undef,undef,undef,undef,undef,undef,undef,undef,Value.bool false,Value.int IntKind.u8 (src[j].toNat:Int),Value.bool false,undef,undef,undef,undef,undef,undef,undef,undef,undef,undef,Value.bool false,Value.int IntKind.u8 (src[j].toNat:Int),Value.bool false,undef,undef,undef,undef,undef,undef,undef,undef,undef,undef,undef,undef,undef,undef,undef,undef,undef],defers:=[] }) ?assign ?body ?done ?stop)
 case assign =>
  intro l x W K hK;gi_wp2
  exact hK
 case body =>
  rintro l pre x W⟨m,F,au⟩ aW;obtain⟨q,hq⟩:∃q:Bool,hitB x.val (src.data.toList.drop j)=q:=⟨_,rfl⟩
  have HP:Hid (∀W,Calls Tryz.prog 106 #[.string (src.extract j src.size),.string (bstr (sg x.val))] W fun e w'=>e=.returned (.bool q)/\W=w'):=zh (fun W=>(Tryz.strings_HasPrefix _ _ W).mono (by
   rintro e w'⟨rfl,rfl⟩;refine⟨?_,rfl⟩;rw[<-hq];unfold hitB Lib.hasPrefix
   rw[zbX,show(bstr (sg x.val)).data.toList=sg x.val from by unfold bstr;simp,List.take_of_length_le (by rw[List.length_drop,zaq];omega)]))
  obtain⟨⟨c0,c1,c2,c3,cf⟩,x0,k0,k1,k2,k3,k4,kf,t0,t1,t2,t3,t4,tf,e0,ef⟩:=F.cells;have E:Hid (hitB x.val (src.data.toList.drop j)=q):=zh hq;have z:=zh m;have av:j<=src.size:=by omega
  have aF:(j:Int)<=(src.size:Int):=by omega
  obtain⟨ah,ax,aA,P,R,J,H,aj⟩:=F.far;have a0:b<W.heap.size:=OwnV.lt F.s;have aV:w.heap.size<W.heap.size:=F.x.lt;have aT:w.heap.size+1<W.heap.size:=F.t.lt;have ao:w.heap.size+1+1<W.heap.size:=F.e.lt;clear hq m;cases q
  ·gi_wp2
   refine zdY (DrewOf _) (by kernel_rfl) (by kernel_rfl) (by kernel_rfl) (DrewOf.start _) ?_
   repeat
    try simp only[Act.put,zs1,zs3,zs2]
    apply stepsSeq.cons
    ·rintro w'⟨d,rfl⟩;simp only[Act.put,zs1,zs3,zs2];go_wp2_with (go_at_call 106;refine(HP.out _).mono ?_;rintro e1 w2⟨rfl,rfl⟩)
     first|exact⟨rfl,d,rfl⟩|exact⟨rfl,d,(World.drewN_drewN _ _ _).symm⟩|exact⟨rfl,d,by simp⟩
   try simp only[Act.put,zs1,zs3,zs2]
   refine stepsSeq.nil ?_;rintro w'⟨d,rfl⟩;gi_wp2
   refine⟨zge (S:=fun _=>False) ((Only.refl _ W).drewN _) (fun k h=>h.elim) _,⟨rfl,rfl,rfl,zr _,fun _ _=>rfl⟩,?_,F.drewN _,au⟩;intro y hy;rcases List.mem_append.1 hy with hy|hy
   ·exact z.out y hy
   ·rw[List.mem_singleton.1 hy];exact E.out
  ·obtain⟨T,af⟩:∃T,Hid (bstr (sg x.val)=T):=⟨_,zh rfl⟩;have ag:T.size=(sg x.val).length:=by rw[<-af.out];exact zcQ _
   have aR:T.size<=2:=by have:=(zlk x).1;omega
   have aM:Hid (∀W',Scan W' b L C src j->OwnV W' W.heap.size 3 [.int .i64 T.size]->Calls Tryz.prog 103 #[.pointer (some ⟨b,0,none⟩),.func (.func 107) #[] #[.pointer (some ⟨W.heap.size,0,none⟩)]] W' fun e w'=>(∃v,e=.returned v)/\Scan w' b L (C+(sg x.val).length) src (j+(sg x.val).length)/\Only (fun g=>g=b∨g=W.heap.size) W' w'):=
    zh (fun W' h1 h2=>zll b W.heap.size src j L C x av az ⟨aG,aQ⟩ ⟨aD,aP⟩ (by omega) E.out T.size ag W' h1 h2)
   have aX:=zh ag;clear ag;rw[af.out] at HP ⊢;gi_wp2
   refine zdY (DrewOf _) (by kernel_rfl) (by kernel_rfl) (by kernel_rfl) (DrewOf.start _) ?_
   repeat
    try simp only[Act.put,zs1,zs3,zs2]
    apply stepsSeq.cons
    ·rintro w'⟨d,rfl⟩;simp only[Act.put,zs1,zs3,zs2];go_wp2_with (go_at_call 106;refine(HP.out _).mono ?_;rintro e1 w2⟨rfl,rfl⟩)
     first|exact⟨rfl,d,rfl⟩|exact⟨rfl,d,(World.drewN_drewN _ _ _).symm⟩|exact⟨rfl,d,by simp⟩
   try simp only[Act.put,zs1,zs3,zs2]
   refine stepsSeq.nil ?_;rintro w'⟨d,rfl⟩;gi_wp2
   have G:=((F.drewN d).put (o:=0) (v:=.int .u8 3) rfl).put (o:=1) (v:=.string T) rfl;refine⟨trivial,(CallsIn.inRound l (callsIn_wide.2 (aM.out _ (G.s.alloc _) (OwnV.newAt (by simp) _ [.int .i64 T.size])))).mono ?_⟩;rintro e1 w7⟨⟨v,rfl⟩,ap,ad⟩;have aI:Hid (Only (fun g=>g=b∨g=tb∨g=w.heap.size+1∨g=w.heap.size+1+1) W w7):=zh (Only.transNew (((((Only.refl _ W).drewN _).setIn (.inr (.inl rfl)) _).setIn (.inr (.inl rfl)) _).alloc _) ad (by rintro i (h|h);exact .inl (.inl h);exact .inr (by omega)));have F7:=G.only (((Only.refl (fun g=>g=b) _).alloc _).transNew ad (by rintro i (h|h);exact .inl h;exact .inr (by simp;omega))) ap;clear ap ad G;clear c0 c1 c2 c3 cf x0 k0 k1 k2 k3 k4 kf t0 t1 t2 t3 t4 tf e0 ef;obtain⟨⟨c0,c1,c2,c3,cf⟩,x0,k0,k1,k2,k3,k4,kf,t0,t1,t2,t3,t4,tf,e0,ef⟩:=F7.cells;gi_wp2
   obtain⟨V,hV,r1,r2,r3,r4,r5,-⟩:=F7.ret 0;rw[hV] at r1 r2 r3 r4;refine⟨zge (S:=fun g=>g=b∨g=tb∨g=w.heap.size+1∨g=w.heap.size+1+1) ((((((aI.out.setIn (.inr (.inr (.inl rfl))) _).setIn (.inr (.inr (.inl rfl))) _).setIn (.inr (.inr (.inl rfl))) _).setIn (.inr (.inr (.inl rfl))) _).setIn (.inr (.inr (.inl rfl))) _).setIn (.inr (.inr (.inr rfl))) _) ?_ _,rfl,pre,x,rfl,z.out,E.out,r3,?_,r2,r4⟩
   ·rintro k (rfl|rfl|rfl|rfl)
    ·exact⟨_,_,F.s⟩
    ·exact⟨_,_,F.k⟩
    ·exact⟨_,_,F.t⟩
    ·exact⟨_,_,F.e⟩
   ·rw[af.out];exact r1
 case done =>
  rintro D ys W hD rfl⟨m,F,au⟩ f;obtain⟨⟨c0,c1,c2,c3,cf⟩,x0,k0,k1,k2,k3,k4,kf,t0,t1,t2,t3,t4,tf,e0,ef⟩:=F.cells;have z:=zh m;have u:=zh f;clear m f;have ao:w.heap.size+1+1<N.heap.size:=F6.e.lt;obtain⟨ah,ax,aA,P,R,J,H,aj⟩:=F.far;go_wp2_with fail
  obtain⟨V,hV,r1,r2,r3,r4,-,r6⟩:=F.ret 110;rw[hV] at r1 r2 r4 r6;refine zgh rfl rfl r1 r2 ?_ ?_
  ·rw[r6 D (by omega)];exact u.out
  ·obtain⟨r,hr⟩:=HD.out;have hs:=zmc (all_no z.out);rw[<-M.out];rw[hr] at hs ⊢;rw[zeY Y.out X.out,yP hs];exact⟨⟨_,_,_,rfl⟩,r4.grown (grownBy_putObj' _ D _) (fun r e=>by cases e;omega)⟩
 case stop =>
  rintro D c pre W hD aw⟨rfl,p,x,rfl,aq,Z,hS,hT,hE,hO⟩ f;refine wpIn_wide.2 ?_;have HS:=zh hS;have HT:=zh hT;have HE:=zh hE;have HO:=zh hO;have u:=zh f;have Hf:=zh (zk9 x.isLt Z (pre_no aw aq));clear hS hT hE hO f aq Z aw;go_wp2_with fail
  refine zgh rfl rfl HT.out HE.out u.out ?_;obtain⟨r,hr⟩:=HD.out;have hs:=Hf.out;rw[<-M.out];rw[hr] at hs ⊢;rw[zeY Y.out X.out,yN hs.2.1,hs.2.2.1];have aJ:∀r,some D=some r->∃o:Obj,W.heap[r]? = some o/\o.isCells=false:=fun r e=>by cases e;exact⟨_,u.out,rfl⟩
  exact⟨rfl,HS.out.ofNon (grownBy_putObj' W D _) aJ,HO.out.grown (grownBy_putObj' W D _) (fun r e=>by cases e;omega)⟩
end Go.Proofs.YtoaojdobjinhfaaGreatDoor
