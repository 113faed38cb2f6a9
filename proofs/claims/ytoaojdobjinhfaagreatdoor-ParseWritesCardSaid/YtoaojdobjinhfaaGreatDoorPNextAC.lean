/- The program's lexer: next, walked: the end, words, numbers. No condition but the bounds of a source. -/
import Derived.Test.YtoaojdobjinhfaaGreatDoorGlobC
import Derived.Test.YtoaojdobjinhfaaGreatDoorPSkipC
set_option linter.unusedSimpArgs false
set_option linter.unusedVariables false
set_option maxRecDepth 100000
set_option maxHeartbeats 1000000
namespace Go.Proofs.YtoaojdobjinhfaaGreatDoor
open Go.RowKit

theorem zcQ (l:List UInt8):(bstr l).size=l.length:=by rw [← zaq];unfold bstr;simp
theorem zgg {src:ByteArray} {j:Nat} (hj:j < src.size) (hsz:src.size≤16384) (hd:zaG src[j]=true) (w:World) (hG:Glob w) :
  Calls Tryz.prog 104 #[.string (bstr ((src.data.toList.drop j).takeWhile zaf))] w fun e w'=>e=numC (zaS ((src.data.toList.drop j).takeWhile zaf))∧Below w.heap.size w w':=by
 have hrun:(src.data.toList.drop j).takeWhile zaf=src[j] :: ((src.data.toList.drop (j+1)).takeWhile zaf):=by
  rw [za2 src hj,zfF (zcZ hd)]
 have hle:((src.data.toList.drop j).takeWhile zaf).length≤src.size:=by
  have:=(List.takeWhile_prefix (l:=src.data.toList.drop j) zaf).length_le;rw [List.length_drop,zaq] at this;omega
 rw [hrun] at hle ⊢;have hs:=zcQ (src[j] :: ((src.data.toList.drop (j+1)).takeWhile zaf));have h0:0 < (bstr (src[j] :: ((src.data.toList.drop (j+1)).takeWhile zaf))).size:=by rw [hs];simp
 have:=zjU (bstr (src[j] :: ((src.data.toList.drop (j+1)).takeWhile zaf))) w hG (by rw [hs];omega) h0 hd;have hl:(bstr (src[j] :: ((src.data.toList.drop (j+1)).takeWhile zaf))).data.toList=src[j] :: ((src.data.toList.drop (j+1)).takeWhile zaf):=by unfold bstr;simp
 rw [hl] at this;exact this
def zev (b : Nat) (src : ByteArray) (j : Nat) (L C : Int) (w : World) (e : Ending) (w' : World) : HeadR → Prop
  | .eof => e = .returned (.tuple #[.agg (Tok.cells ⟨4, [], 0, L, C⟩).toArray, .int .i64 0]) ∧ Scan w' b L C src j ∧ Only (fun g => g = b) w w'
  | .err code => (∃ (k n : Int) (t : ByteArray), e = .returned (.tuple #[.agg #[.int .u8 k, .string t, .int .i64 n, .int .i64 L, .int .i64 C], .int .i64 code])) ∧ Only (fun g => g = b) w w'
  | .tok k t n => e = .returned (.tuple #[.agg (Tok.cells ⟨k, t, n, L, C⟩).toArray, .int .i64 0]) ∧ Scan w' b L (C + t.length) src (j + t.length) ∧ Only (fun g => g = b) w w'
theorem Scan.alloc {w:World} {b:Nat} {line col:Int} {src:ByteArray} {at':Nat} (h:Scan w b line col src at') (o:Obj):Scan (w.alloc o) b line col src at':=OwnV.alloc h o
theorem Scan.set_ne {w:World} {b:Nat} {line col:Int} {src:ByteArray} {at':Nat} (h:Scan w b line col src at') {g o:Nat} (hne:b≠g) (v:Value):Scan (w.setCell ⟨g,o,none⟩ v) b line col src at':=OwnV.set_ne h hne v
theorem zdb {tmps:Array Value} {w:World} {g1 g2:Nat} {a b c d e z:Value} (h2:tmps[2]?.getD undef=.pointer (some ⟨g1,0,none⟩)) (h3:tmps[3]?.getD undef=.pointer (some ⟨g2,0,none⟩)) (HT:OwnV w g1 51 [a,b,c,d,e]) (HE:OwnV w g2 35 [z]) :
  (results Tryz.f67 tmps).run Tryz.prog w=.ok (.tuple #[.agg #[a,b,c,d,e],z]) w:=by
 have t0:w.cell? ⟨g1,0,none⟩=some a:=OwnV.cell HT rfl;have t1:w.cell? ⟨g1,1,none⟩=some b:=OwnV.cell HT rfl;have t2:w.cell? ⟨g1,2,none⟩=some c:=OwnV.cell HT rfl;have t3:w.cell? ⟨g1,3,none⟩=some d:=OwnV.cell HT rfl;have t4:w.cell? ⟨g1,4,none⟩=some e:=OwnV.cell HT rfl;have e0:w.cell? ⟨g2,0,none⟩=some z:=OwnV.cell HE rfl;simp [results,Tryz.results67,go_sem,h2,h3,t0,t1,t2,t3,t4,e0]
theorem zg5:∀ (xs:List UInt8) (l c:Int),(∀ x ∈ xs,x.toNat≠10)→posS xs l c=(l,c+xs.length):=by
 intro xs
 induction xs with
 | nil=>intro l c _;simp [posS]
 | cons b r ih =>
  intro l c h;rw [posS,if_neg (h b (by simp)),ih _ _ (fun x hx=>h x (by simp [hx]))];simp only [List.length_cons,Prod.mk.injEq,true_and];omega
theorem zm7 {x:UInt8} (h:zaf x=true):x.toNat≠10:=by
 intro e;unfold zaf zaH zaV zaG za9 at h;rw [e] at h;revert h;decide
theorem zdZ (b:Nat) (src:ByteArray) (j:Nat) (L C:Int) (w:World) (hS:Scan w b L C src j) (hj:j≤src.size) (hsz:src.size≤16384) (h1:0≤L∧L≤j+1) (h2:0≤C∧C≤j+1) :
  Calls Tryz.prog 103 #[.pointer (some ⟨b,0,none⟩),.func (.func 102) #[] #[]] w fun e w'=>e=.returned (.string (bstr ((src.data.toList.drop j).takeWhile zaf)))∧Scan w' b L (C+((src.data.toList.drop j).takeWhile zaf).length) src (j+((src.data.toList.drop j).takeWhile zaf).length)∧Only (fun g=>g=b) w w':=by
 refine (zlp b src j L C w hS hj hsz h1 h2).mono ?_;unfold zbF;rw [zeu,zfE,zg5 _ _ _ (fun x hx=>zm7 (List.all_eq_true.1 (zgH _) x hx))];exact fun e w' h=>h
theorem zmp {src:ByteArray} {i j:Nat} (hi:i≤src.size) (hj:j≤src.size) (h:src.data.toList.drop i=src.data.toList.drop j):i=j:=by
 have:=congrArg List.length h;rw [List.length_drop,List.length_drop,zaq] at this;omega
theorem zcR (b:Nat) (src:ByteArray) (at' j:Nat) (line col L C:Int) (w:World) (hS:Scan w b line col src at') (hat:at'≤src.size) (hsz:src.size≤16384) (hl:0≤line∧line≤at'+1) (hc:0≤col∧col≤at'+1) (hj:j≤src.size)
  (hsk:zam (src.data.toList.drop at') false line col=(src.data.toList.drop j,L,C)) :
  Calls Tryz.prog 101 #[.pointer (some ⟨b,0,none⟩)] w fun e w'=>e=.returned (.tuple #[])∧Scan w' b L C src j∧(0≤L∧L≤j+1)∧(0≤C∧C≤j+1)∧Only (fun g=>g=b) w w':=by
 refine (zj4 b src at' line col w hS hat hsz hl hc).mono ?_;rintro e w' ⟨h1,⟨j',h2,h3,h4,h5,h6,h7⟩,h8⟩;rw [hsk] at h4 h5 h6 h7;simp only [Prod.mk.injEq] at h4;have:=zmp hj h3 h4.1;subst this;exact ⟨h1,h5,h6,h7,h8⟩
theorem zmq (b:Nat) (src:ByteArray) (at' j:Nat) (line col L C:Int) (w:World) (hS:Scan w b line col src at') (hat:at'≤src.size) (hsz:src.size≤16384) (hl:0≤line∧line≤at'+1) (hc:0≤col∧col≤at'+1) (hj:j=src.size)
  (hsk:zam (src.data.toList.drop at') false line col=(src.data.toList.drop j,L,C)) :
  Calls Tryz.prog 67 #[.pointer (some ⟨b,0,none⟩)] w fun e w'=>zev b src j L C w e w' .eof:=by
 have hb:b < w.heap.size:=OwnV.lt hS;have HS:=zh hS;have HB:Hid (∀ W,Scan W b line col src at'→Calls Tryz.prog 101 #[.pointer (some ⟨b,0,none⟩)] W fun e w'=>e=.returned (.tuple #[])∧Scan w' b L C src j∧(0≤L∧L≤j+1)∧(0≤C∧C≤j+1)∧Only (fun g=>g=b) W w'):=zh (fun W h=>zcR b src at' j line col L C W h hat hsz hl hc (by omega) hsk);clear hS hl hc hsk;have hj':((j:Int) == (src.size:Int))=true:=by rw [beq_iff_eq];omega
 have Hj:=zh hj;clear hj;go_enter Tryz.func67,Tryz.ntmps67
 go_wp2_with fail
 go_at_call 101;refine (HB.out _ (((HS.out.alloc _).alloc _).alloc _)).mono ?_;rintro e1 w1 ⟨rfl,hS1,⟨hL0,hL1⟩,⟨hC0,hC1⟩,hO1⟩;have HS1:=zh hS1;have hbn:∀ i,¬ (fun g=>g=b) (w.heap.size+i):=fun i e=>by have:w.heap.size+i=b:=e;omega
 have HbX:Hid (OwnV w1 w.heap.size 79 [.pointer (some ⟨b,0,none⟩)]):=zh (hO1.own (((OwnV.new w 79 [.pointer (some ⟨b,0,none⟩)]).alloc _).alloc _) (hbn 0));have HbT:Hid (OwnV w1 (w.heap.size+1) 51 [.int .u8 0,.string ByteArray.empty,.int .i64 0,.int .i64 0,.int .i64 0]):=zh (hO1.own (by have:=(OwnV.new (w.alloc (.cells #[.pointer (some ⟨b,0,none⟩)] 79)) 51 [.int .u8 0,.string ByteArray.empty,.int .i64 0,.int .i64 0,.int .i64 0]).alloc (.cells #[.int .i64 0] 35);rw [World.size_alloc] at this;exact this) (hbn 1));have HbE:Hid (OwnV w1 (w.heap.size+2) 35 [.int .i64 0]):=zh (hO1.own (by have:=OwnV.new ((w.alloc (.cells #[.pointer (some ⟨b,0,none⟩)] 79)).alloc (.cells #[.int .u8 0,.string ByteArray.empty,.int .i64 0,.int .i64 0,.int .i64 0] 51)) 35 [.int .i64 0];rw [World.size_alloc,World.size_alloc] at this;exact this) (hbn 2));have HO1:Hid (Only (fun g=>g=b) w w1):=zh (((((Only.refl _ w).alloc _).alloc _).alloc _).trans hO1);have hsz1:w.heap.size+3≤w1.heap.size:=by have:=hO1.size;simp at this;omega
 clear hS1 hO1 hbn;obtain ⟨c0,c1,c2,c3,cf⟩:=HS1.out.cells;have x0:w1.cell? ⟨w.heap.size,0,none⟩=some (.pointer (some ⟨b,0,none⟩)):=OwnV.cell HbX.out rfl;have hj3:(0:Int)≤(j:Int):=by omega
 go_wp2_with fail
 have hbw:b < w1.heap.size:=by omega
 have hx0:w.heap.size < w1.heap.size:=by omega
 go_region_held3 (fun w'=>w'.cell? ⟨b,0,none⟩=some (.int .i64 L)∧w'.cell? ⟨b,1,none⟩=some (.int .i64 C)∧w'.cell? ⟨w.heap.size,0,none⟩=some (.pointer (some ⟨b,0,none⟩))) (go_keep) (fail)
 rename_i hHeld
 clear hHeld;go_wp2_with fail
 refine zac (DrewOf _) (by kernel_rfl) (by kernel_rfl) (DrewOf.start _) ?_
 repeat
  try simp only [Act.put,zs1,zs3,zs2]
  apply stepsSeq.cons
  ·rintro w' ⟨nq,rfl⟩;simp only [Act.put,zs1,zs3,zs2];go_wp2_with (fail)
   first | exact ⟨rfl,nq,rfl⟩ | exact ⟨rfl,nq,(World.drewN_drewN _ _ _).symm⟩ | exact ⟨rfl,nq,by simp⟩
 try simp only [Act.put,zs1,zs3,zs2]
 refine stepsSeq.nil ?_;rintro w' ⟨nq,rfl⟩;clear c0 c1 c2 c3 cf x0 hbw hx0;obtain ⟨tb,htb⟩:∃ tb,tb=w1.heap.size:=⟨_,rfl⟩;rw [← htb];obtain ⟨w3,hw3⟩:∃ w3,w3=((w1.alloc (.cells #[.int .u8 4,.string { data:=#[] },.int .i64 0,.int .i64 L,.int .i64 C] 51)).drew).drewN nq:=⟨_,rfl⟩;rw [← hw3];have HS3:Hid (Scan w3 b L C src j):=zh (by rw [hw3];exact HS1.out.alloc _);have HX3:Hid (OwnV w3 w.heap.size 79 [.pointer (some ⟨b,0,none⟩)]):=zh (by rw [hw3];exact HbX.out.alloc _);have HT3:Hid (OwnV w3 (w.heap.size+1) 51 [.int .u8 0,.string ByteArray.empty,.int .i64 0,.int .i64 0,.int .i64 0]):=zh (by rw [hw3];exact HbT.out.alloc _);have HE3:Hid (OwnV w3 (w.heap.size+1+1) 35 [.int .i64 0]):=zh (by rw [hw3];exact HbE.out.alloc _);have HK3:Hid (OwnV w3 tb 51 [.int .u8 4,.string ByteArray.empty,.int .i64 0,.int .i64 L,.int .i64 C]):=zh (by rw [hw3,htb];exact OwnV.new w1 _ [.int .u8 4,.string ByteArray.empty,.int .i64 0,.int .i64 L,.int .i64 C]);have HO3:Hid (Only (fun g=>g=b) w w3):=zh (by rw [hw3];exact ((HO1.out.alloc _).drew).drewN _);have hsz3:w.heap.size+3≤tb∧tb < w3.heap.size:=by rw [hw3];simp;omega
 obtain ⟨hsz3,hsz4⟩:=hsz3;clear hw3 htb HS1 HbX HbT HbE HO1 hsz1;obtain ⟨c0,c1,c2,c3,cf⟩:=HS3.out.cells;have x0:w3.cell? ⟨w.heap.size,0,none⟩=some (.pointer (some ⟨b,0,none⟩)):=OwnV.cell HX3.out rfl;have k0:w3.cell? ⟨tb,0,none⟩=some (.int .u8 4):=OwnV.cell HK3.out rfl;have k1:w3.cell? ⟨tb,1,none⟩=some (.string ByteArray.empty):=OwnV.cell HK3.out rfl;have k2:w3.cell? ⟨tb,2,none⟩=some (.int .i64 0):=OwnV.cell HK3.out rfl;have k3:w3.cell? ⟨tb,3,none⟩=some (.int .i64 L):=OwnV.cell HK3.out rfl;have k4:w3.cell? ⟨tb,4,none⟩=some (.int .i64 C):=OwnV.cell HK3.out rfl;have kf:∀ o,w3.frozen? ⟨tb,o,none⟩=false:=fun o=>OwnV.free HK3.out o
 have t0:w3.cell? ⟨w.heap.size+1,0,none⟩=some (.int .u8 0):=OwnV.cell HT3.out rfl;have t1:w3.cell? ⟨w.heap.size+1,1,none⟩=some (.string ByteArray.empty):=OwnV.cell HT3.out rfl;have t2:w3.cell? ⟨w.heap.size+1,2,none⟩=some (.int .i64 0):=OwnV.cell HT3.out rfl;have t3:w3.cell? ⟨w.heap.size+1,3,none⟩=some (.int .i64 0):=OwnV.cell HT3.out rfl;have t4:w3.cell? ⟨w.heap.size+1,4,none⟩=some (.int .i64 0):=OwnV.cell HT3.out rfl;have tf:∀ o,w3.frozen? ⟨w.heap.size+1,o,none⟩=false:=fun o=>OwnV.free HT3.out o
 have e0:w3.cell? ⟨w.heap.size+1+1,0,none⟩=some (.int .i64 0):=OwnV.cell HE3.out rfl;have ef:w3.frozen? ⟨w.heap.size+1+1,0,none⟩=false:=OwnV.free HE3.out 0;go_wp2_with fail
 have hb1:b≠w.heap.size+1:=by omega
 have hb2:b≠w.heap.size+1+1:=by omega
 have hg1:w.heap.size≤w.heap.size+1:=by omega
 have hg2:w.heap.size≤w.heap.size+1+1:=by omega
 exact bodyPost_ret (zdb rfl rfl ((((((HT3.out.set 0 _).set 1 _).set 2 _).set 3 _).set 4 _).set_ne (by omega) _) ((((((HE3.out.set_ne (by omega) _).set_ne (by omega) _).set_ne (by omega) _).set_ne (by omega) _).set_ne (by omega) _).set 0 _)) rfl ⟨rfl,(((((HS3.out.set_ne hb1 _).set_ne hb1 _).set_ne hb1 _).set_ne hb1 _).set_ne hb1 _).set_ne hb2 _,(((((HO3.out.setNew hg1 _).setNew hg1 _).setNew hg1 _).setNew hg1 _).setNew hg1 _).setNew hg2 _⟩
theorem zli (b:Nat) (src:ByteArray) (at' j:Nat) (line col L C:Int) (w:World) (hS:Scan w b line col src at') (hat:at'≤src.size) (hsz:src.size≤16384) (hl:0≤line∧line≤at'+1) (hc:0≤col∧col≤at'+1) (hj:j < src.size) (hlet:zaH src[j]=true) (hlen:24 < ((src.data.toList.drop j).takeWhile zaf).length)
  (hsk:zam (src.data.toList.drop at') false line col=(src.data.toList.drop j,L,C)) :
  Calls Tryz.prog 67 #[.pointer (some ⟨b,0,none⟩)] w fun e w'=>zev b src j L C w e w' (.err 111):=by
 have hb:b < w.heap.size:=OwnV.lt hS;have HS:=zh hS;have HB:Hid (∀ W,Scan W b line col src at'→Calls Tryz.prog 101 #[.pointer (some ⟨b,0,none⟩)] W fun e w'=>e=.returned (.tuple #[])∧Scan w' b L C src j∧(0≤L∧L≤j+1)∧(0≤C∧C≤j+1)∧Only (fun g=>g=b) W w'):=zh (fun W h=>zcR b src at' j line col L C W h hat hsz hl hc (by omega) hsk);clear hS hl hc hsk;have hj':((j:Int) == (src.size:Int))=false:=by rw [beq_eq_false_iff_ne];omega
 have hjI:(j:Int) < (src.size:Int):=by omega
 have hc0:src[j].toNat≤255:=by have:=src[j].toNat_lt;omega
 have HPt:Hid (∀ W,Scan W b L C src j→(0≤L∧L≤j+1)→(0≤C∧C≤j+1)→Calls Tryz.prog 103 #[.pointer (some ⟨b,0,none⟩),.func (.func 102) #[] #[]] W fun e w'=>e=.returned (.string (bstr ((src.data.toList.drop j).takeWhile zaf)))∧Scan w' b L (C+((src.data.toList.drop j).takeWhile zaf).length) src (j+((src.data.toList.drop j).takeWhile zaf).length)∧Only (fun g=>g=b) W w'):=zh (fun W h h1 h2=>zdZ b src j L C W h (by omega) hsz h1 h2);have hlt:zaV (src[j].toNat:Int)=true:=hlet;clear hlet;obtain ⟨rs,Hrs⟩:∃ rs,Hid (bstr ((src.data.toList.drop j).takeWhile zaf)=rs):=⟨_,zh rfl⟩;have hrs:rs.size=((src.data.toList.drop j).takeWhile zaf).length:=by rw [← Hrs.out];exact zcQ _
 rw [Hrs.out] at HPt
 generalize (src.data.toList.drop j).takeWhile zaf=run at *
 have Hrl:=zh hrs;have h24:(rs.size:Int) > 24:=by omega
 clear hrs hlen;go_enter Tryz.func67,Tryz.ntmps67
 go_wp2_with fail
 go_at_call 101;refine (HB.out _ (((HS.out.alloc _).alloc _).alloc _)).mono ?_;rintro e1 w1 ⟨rfl,hS1,⟨hL0,hL1⟩,⟨hC0,hC1⟩,hO1⟩;have HS1:=zh hS1;have hbn:∀ i,¬ (fun g=>g=b) (w.heap.size+i):=fun i e=>by have:w.heap.size+i=b:=e;omega
 have HbX:Hid (OwnV w1 w.heap.size 79 [.pointer (some ⟨b,0,none⟩)]):=zh (hO1.own (((OwnV.new w 79 [.pointer (some ⟨b,0,none⟩)]).alloc _).alloc _) (hbn 0));have HbT:Hid (OwnV w1 (w.heap.size+1) 51 [.int .u8 0,.string ByteArray.empty,.int .i64 0,.int .i64 0,.int .i64 0]):=zh (hO1.own (by have:=(OwnV.new (w.alloc (.cells #[.pointer (some ⟨b,0,none⟩)] 79)) 51 [.int .u8 0,.string ByteArray.empty,.int .i64 0,.int .i64 0,.int .i64 0]).alloc (.cells #[.int .i64 0] 35);rw [World.size_alloc] at this;exact this) (hbn 1));have HbE:Hid (OwnV w1 (w.heap.size+2) 35 [.int .i64 0]):=zh (hO1.own (by have:=OwnV.new ((w.alloc (.cells #[.pointer (some ⟨b,0,none⟩)] 79)).alloc (.cells #[.int .u8 0,.string ByteArray.empty,.int .i64 0,.int .i64 0,.int .i64 0] 51)) 35 [.int .i64 0];rw [World.size_alloc,World.size_alloc] at this;exact this) (hbn 2));have HO1:Hid (Only (fun g=>g=b) w w1):=zh (((((Only.refl _ w).alloc _).alloc _).alloc _).trans hO1);have hsz1:w.heap.size+3≤w1.heap.size:=by have:=hO1.size;simp at this;omega
 clear hS1 hO1 hbn;obtain ⟨c0,c1,c2,c3,cf⟩:=HS1.out.cells;have x0:w1.cell? ⟨w.heap.size,0,none⟩=some (.pointer (some ⟨b,0,none⟩)):=OwnV.cell HbX.out rfl;have hj3:(0:Int)≤(j:Int):=by omega
 go_wp2_with fail
 have hbw:b < w1.heap.size:=by omega
 have hx0:w.heap.size < w1.heap.size:=by omega
 go_region_held3 (fun w'=>w'.cell? ⟨b,0,none⟩=some (.int .i64 L)∧w'.cell? ⟨b,1,none⟩=some (.int .i64 C)∧w'.cell? ⟨w.heap.size,0,none⟩=some (.pointer (some ⟨b,0,none⟩))) (go_keep) (fail)
 rename_i hHeld
 clear hHeld;go_wp2_with fail
 refine zac (DrewOf _) (by kernel_rfl) (by kernel_rfl) (DrewOf.start _) ?_
 repeat
  try simp only [Act.put,zs1,zs3,zs2]
  apply stepsSeq.cons
  ·rintro w' ⟨nq,rfl⟩;simp only [Act.put,zs1,zs3,zs2];go_wp2_with (fail)
   first | exact ⟨rfl,nq,rfl⟩ | exact ⟨rfl,nq,(World.drewN_drewN _ _ _).symm⟩ | exact ⟨rfl,nq,by simp⟩
 try simp only [Act.put,zs1,zs3,zs2]
 refine stepsSeq.nil ?_;rintro w' ⟨nq,rfl⟩;clear c0 c1 c2 c3 cf x0 hbw hx0;obtain ⟨tb,htb⟩:∃ tb,tb=w1.heap.size:=⟨_,rfl⟩;rw [← htb];obtain ⟨w3,hw3⟩:∃ w3,w3=((w1.alloc (.cells #[.int .u8 4,.string { data:=#[] },.int .i64 0,.int .i64 L,.int .i64 C] 51)).drew).drewN nq:=⟨_,rfl⟩;rw [← hw3];have HS3:Hid (Scan w3 b L C src j):=zh (by rw [hw3];exact HS1.out.alloc _);have HX3:Hid (OwnV w3 w.heap.size 79 [.pointer (some ⟨b,0,none⟩)]):=zh (by rw [hw3];exact HbX.out.alloc _);have HT3:Hid (OwnV w3 (w.heap.size+1) 51 [.int .u8 0,.string ByteArray.empty,.int .i64 0,.int .i64 0,.int .i64 0]):=zh (by rw [hw3];exact HbT.out.alloc _);have HE3:Hid (OwnV w3 (w.heap.size+1+1) 35 [.int .i64 0]):=zh (by rw [hw3];exact HbE.out.alloc _);have HK3:Hid (OwnV w3 tb 51 [.int .u8 4,.string ByteArray.empty,.int .i64 0,.int .i64 L,.int .i64 C]):=zh (by rw [hw3,htb];exact OwnV.new w1 _ [.int .u8 4,.string ByteArray.empty,.int .i64 0,.int .i64 L,.int .i64 C]);have HO3:Hid (Only (fun g=>g=b) w w3):=zh (by rw [hw3];exact ((HO1.out.alloc _).drew).drewN _);have hsz3:w.heap.size+3≤tb∧tb < w3.heap.size:=by rw [hw3];simp;omega
 obtain ⟨hsz3,hsz4⟩:=hsz3;clear hw3 htb HS1 HbX HbT HbE HO1 hsz1;obtain ⟨c0,c1,c2,c3,cf⟩:=HS3.out.cells;have x0:w3.cell? ⟨w.heap.size,0,none⟩=some (.pointer (some ⟨b,0,none⟩)):=OwnV.cell HX3.out rfl;have k0:w3.cell? ⟨tb,0,none⟩=some (.int .u8 4):=OwnV.cell HK3.out rfl;have k1:w3.cell? ⟨tb,1,none⟩=some (.string ByteArray.empty):=OwnV.cell HK3.out rfl;have k2:w3.cell? ⟨tb,2,none⟩=some (.int .i64 0):=OwnV.cell HK3.out rfl;have k3:w3.cell? ⟨tb,3,none⟩=some (.int .i64 L):=OwnV.cell HK3.out rfl;have k4:w3.cell? ⟨tb,4,none⟩=some (.int .i64 C):=OwnV.cell HK3.out rfl;have kf:∀ o,w3.frozen? ⟨tb,o,none⟩=false:=fun o=>OwnV.free HK3.out o
 have t0:w3.cell? ⟨w.heap.size+1,0,none⟩=some (.int .u8 0):=OwnV.cell HT3.out rfl;have t1:w3.cell? ⟨w.heap.size+1,1,none⟩=some (.string ByteArray.empty):=OwnV.cell HT3.out rfl;have t2:w3.cell? ⟨w.heap.size+1,2,none⟩=some (.int .i64 0):=OwnV.cell HT3.out rfl;have t3:w3.cell? ⟨w.heap.size+1,3,none⟩=some (.int .i64 0):=OwnV.cell HT3.out rfl;have t4:w3.cell? ⟨w.heap.size+1,4,none⟩=some (.int .i64 0):=OwnV.cell HT3.out rfl;have tf:∀ o,w3.frozen? ⟨w.heap.size+1,o,none⟩=false:=fun o=>OwnV.free HT3.out o
 have e0:w3.cell? ⟨w.heap.size+1+1,0,none⟩=some (.int .i64 0):=OwnV.cell HE3.out rfl;have ef:w3.frozen? ⟨w.heap.size+1+1,0,none⟩=false:=OwnV.free HE3.out 0;go_wp2_with fail
 go_wp2_with fail
 refine zac (DrewOf _) (by kernel_rfl) (by kernel_rfl) (DrewOf.start _) ?_
 repeat
  try simp only [Act.put,zs1,zs3,zs2]
  apply stepsSeq.cons
  ·rintro w' ⟨nq,rfl⟩;simp only [Act.put,zs1,zs3,zs2];go_wp2_with (fail)
   first | exact ⟨rfl,nq,rfl⟩ | exact ⟨rfl,nq,(World.drewN_drewN _ _ _).symm⟩ | exact ⟨rfl,nq,by simp⟩
 try simp only [Act.put,zs1,zs3,zs2]
 refine stepsSeq.nil ?_;rintro w' ⟨nq,rfl⟩;go_wp2_with fail
 go_at_call 78;refine (zbR _ _).mono ?_;rintro e1 wl ⟨rfl,rfl⟩;go_wp2_with fail
 go_at_call 103;refine (HPt.out _ (HS3.out.drewN _) ⟨hL0,hL1⟩ ⟨hC0,hC1⟩).mono ?_;rintro e1 w4 ⟨rfl,hS4,hO4⟩;have hgb1:¬ (fun g=>g=b) (w.heap.size+1):=fun e=>by have:w.heap.size+1=b:=e;omega
 have hgb2:¬ (fun g=>g=b) (w.heap.size+1+1):=fun e=>by have:w.heap.size+1+1=b:=e;omega
 have hgb0:¬ (fun g=>g=b) w.heap.size:=fun e=>by have:w.heap.size=b:=e;omega
 have hgbt:¬ (fun g=>g=b) tb:=fun e=>by have:tb=b:=e;omega
 have HS4:=zh hS4;have hO4':Only (fun g=>g=b) w3 w4:=((Only.refl _ w3).drewN _).trans hO4;have HX4:Hid (OwnV w4 w.heap.size 79 [.pointer (some ⟨b,0,none⟩)]):=zh (hO4'.own HX3.out hgb0);have HT4:Hid (OwnV w4 (w.heap.size+1) 51 [.int .u8 0,.string ByteArray.empty,.int .i64 0,.int .i64 0,.int .i64 0]):=zh (hO4'.own HT3.out hgb1);have HE4:Hid (OwnV w4 (w.heap.size+1+1) 35 [.int .i64 0]):=zh (hO4'.own HE3.out hgb2);have HK4:Hid (OwnV w4 tb 51 [.int .u8 4,.string ByteArray.empty,.int .i64 0,.int .i64 L,.int .i64 C]):=zh (hO4'.own HK3.out hgbt);have HO4:Hid (Only (fun g=>g=b) w w4):=zh (HO3.out.trans hO4');have hsz4:tb < w4.heap.size:=Nat.lt_of_lt_of_le hsz4 hO4'.size;have hsz3':w.heap.size+3≤tb:=hsz3;clear hS4 hO4 hO4' hgb0 hgb1 hgb2 hgbt;clear c0 c1 c2 c3 cf x0 k0 k1 k2 k3 k4 kf t0 t1 t2 t3 t4 tf e0 ef;obtain ⟨c0,c1,c2,c3,cf⟩:=HS4.out.cells;have x0:w4.cell? ⟨w.heap.size,0,none⟩=some (.pointer (some ⟨b,0,none⟩)):=OwnV.cell HX4.out rfl;have k0:w4.cell? ⟨tb,0,none⟩=some (.int .u8 4):=OwnV.cell HK4.out rfl;have k1:w4.cell? ⟨tb,1,none⟩=some (.string ByteArray.empty):=OwnV.cell HK4.out rfl;have k2:w4.cell? ⟨tb,2,none⟩=some (.int .i64 0):=OwnV.cell HK4.out rfl;have k3:w4.cell? ⟨tb,3,none⟩=some (.int .i64 L):=OwnV.cell HK4.out rfl;have k4:w4.cell? ⟨tb,4,none⟩=some (.int .i64 C):=OwnV.cell HK4.out rfl;have kf:∀ o,w4.frozen? ⟨tb,o,none⟩=false:=fun o=>OwnV.free HK4.out o
 have t0:w4.cell? ⟨w.heap.size+1,0,none⟩=some (.int .u8 0):=OwnV.cell HT4.out rfl;have t1:w4.cell? ⟨w.heap.size+1,1,none⟩=some (.string ByteArray.empty):=OwnV.cell HT4.out rfl;have t2:w4.cell? ⟨w.heap.size+1,2,none⟩=some (.int .i64 0):=OwnV.cell HT4.out rfl;have t3:w4.cell? ⟨w.heap.size+1,3,none⟩=some (.int .i64 0):=OwnV.cell HT4.out rfl;have t4:w4.cell? ⟨w.heap.size+1,4,none⟩=some (.int .i64 0):=OwnV.cell HT4.out rfl;have tf:∀ o,w4.frozen? ⟨w.heap.size+1,o,none⟩=false:=fun o=>OwnV.free HT4.out o
 have e0:w4.cell? ⟨w.heap.size+1+1,0,none⟩=some (.int .i64 0):=OwnV.cell HE4.out rfl;have ef:w4.frozen? ⟨w.heap.size+1+1,0,none⟩=false:=OwnV.free HE4.out 0;have hb1:b≠w.heap.size+1:=by omega
 have hb2:b≠w.heap.size+1+1:=by omega
 have hb3:b≠tb:=by omega
 have hg1:w.heap.size≤w.heap.size+1:=by omega
 have hg2:w.heap.size≤w.heap.size+1+1:=by omega
 have hg3:w.heap.size≤tb:=by omega
 have hkt1:tb≠w.heap.size+1:=by omega
 have hkt2:tb≠w.heap.size+1+1:=by omega
 have hkt1':w.heap.size+1≠tb:=by omega
 have hkt2':w.heap.size+1+1≠tb:=by omega
 go_wp2_with fail
 exact bodyPost_ret (zdb rfl rfl ((((((((HT4.out.set_ne hkt1' _).set_ne hkt1' _).set 0 _).set 1 _).set 2 _).set 3 _).set 4 _).set_ne (by omega) _) ((((((((HE4.out.set_ne hkt2' _).set_ne hkt2' _).set_ne (by omega) _).set_ne (by omega) _).set_ne (by omega) _).set_ne (by omega) _).set_ne (by omega) _).set 0 _)) rfl ⟨⟨_,_,_,rfl⟩,((((((((HO4.out.setNew hg3 _).setNew hg3 _).setNew hg1 _).setNew hg1 _).setNew hg1 _).setNew hg1 _).setNew hg1 _).setNew hg2 _)⟩
theorem zlj (b:Nat) (src:ByteArray) (at' j:Nat) (line col L C:Int) (w:World) (hS:Scan w b line col src at') (hat:at'≤src.size) (hsz:src.size≤16384) (hl:0≤line∧line≤at'+1) (hc:0≤col∧col≤at'+1) (hj:j < src.size) (hlet:zaH src[j]=true) (hlen:¬ 24 < ((src.data.toList.drop j).takeWhile zaf).length)
  (hsk:zam (src.data.toList.drop at') false line col=(src.data.toList.drop j,L,C)) :
  Calls Tryz.prog 67 #[.pointer (some ⟨b,0,none⟩)] w fun e w'=>zev b src j L C w e w' (.tok 1 ((src.data.toList.drop j).takeWhile zaf) 0):=by
 have hb:b < w.heap.size:=OwnV.lt hS;have HS:=zh hS;have HB:Hid (∀ W,Scan W b line col src at'→Calls Tryz.prog 101 #[.pointer (some ⟨b,0,none⟩)] W fun e w'=>e=.returned (.tuple #[])∧Scan w' b L C src j∧(0≤L∧L≤j+1)∧(0≤C∧C≤j+1)∧Only (fun g=>g=b) W w'):=zh (fun W h=>zcR b src at' j line col L C W h hat hsz hl hc (by omega) hsk);clear hS hl hc hsk;have hj':((j:Int) == (src.size:Int))=false:=by rw [beq_eq_false_iff_ne];omega
 have hjI:(j:Int) < (src.size:Int):=by omega
 have hc0:src[j].toNat≤255:=by have:=src[j].toNat_lt;omega
 have HPt:Hid (∀ W,Scan W b L C src j→(0≤L∧L≤j+1)→(0≤C∧C≤j+1)→Calls Tryz.prog 103 #[.pointer (some ⟨b,0,none⟩),.func (.func 102) #[] #[]] W fun e w'=>e=.returned (.string (bstr ((src.data.toList.drop j).takeWhile zaf)))∧Scan w' b L (C+((src.data.toList.drop j).takeWhile zaf).length) src (j+((src.data.toList.drop j).takeWhile zaf).length)∧Only (fun g=>g=b) W w'):=zh (fun W h h1 h2=>zdZ b src j L C W h (by omega) hsz h1 h2);have hlt:zaV (src[j].toNat:Int)=true:=hlet;clear hlet;obtain ⟨rs,Hrs⟩:∃ rs,Hid (bstr ((src.data.toList.drop j).takeWhile zaf)=rs):=⟨_,zh rfl⟩;have hrs:rs.size=((src.data.toList.drop j).takeWhile zaf).length:=by rw [← Hrs.out];exact zcQ _
 rw [Hrs.out] at HPt
 generalize (src.data.toList.drop j).takeWhile zaf=run at *
 have Hrl:=zh hrs;have h24:¬ (rs.size:Int) > 24:=by omega
 clear hrs hlen;go_enter Tryz.func67,Tryz.ntmps67
 go_wp2_with fail
 go_at_call 101;refine (HB.out _ (((HS.out.alloc _).alloc _).alloc _)).mono ?_;rintro e1 w1 ⟨rfl,hS1,⟨hL0,hL1⟩,⟨hC0,hC1⟩,hO1⟩;have HS1:=zh hS1;have hbn:∀ i,¬ (fun g=>g=b) (w.heap.size+i):=fun i e=>by have:w.heap.size+i=b:=e;omega
 have HbX:Hid (OwnV w1 w.heap.size 79 [.pointer (some ⟨b,0,none⟩)]):=zh (hO1.own (((OwnV.new w 79 [.pointer (some ⟨b,0,none⟩)]).alloc _).alloc _) (hbn 0));have HbT:Hid (OwnV w1 (w.heap.size+1) 51 [.int .u8 0,.string ByteArray.empty,.int .i64 0,.int .i64 0,.int .i64 0]):=zh (hO1.own (by have:=(OwnV.new (w.alloc (.cells #[.pointer (some ⟨b,0,none⟩)] 79)) 51 [.int .u8 0,.string ByteArray.empty,.int .i64 0,.int .i64 0,.int .i64 0]).alloc (.cells #[.int .i64 0] 35);rw [World.size_alloc] at this;exact this) (hbn 1));have HbE:Hid (OwnV w1 (w.heap.size+2) 35 [.int .i64 0]):=zh (hO1.own (by have:=OwnV.new ((w.alloc (.cells #[.pointer (some ⟨b,0,none⟩)] 79)).alloc (.cells #[.int .u8 0,.string ByteArray.empty,.int .i64 0,.int .i64 0,.int .i64 0] 51)) 35 [.int .i64 0];rw [World.size_alloc,World.size_alloc] at this;exact this) (hbn 2));have HO1:Hid (Only (fun g=>g=b) w w1):=zh (((((Only.refl _ w).alloc _).alloc _).alloc _).trans hO1);have hsz1:w.heap.size+3≤w1.heap.size:=by have:=hO1.size;simp at this;omega
 clear hS1 hO1 hbn;obtain ⟨c0,c1,c2,c3,cf⟩:=HS1.out.cells;have x0:w1.cell? ⟨w.heap.size,0,none⟩=some (.pointer (some ⟨b,0,none⟩)):=OwnV.cell HbX.out rfl;have hj3:(0:Int)≤(j:Int):=by omega
 go_wp2_with fail
 have hbw:b < w1.heap.size:=by omega
 have hx0:w.heap.size < w1.heap.size:=by omega
 go_region_held3 (fun w'=>w'.cell? ⟨b,0,none⟩=some (.int .i64 L)∧w'.cell? ⟨b,1,none⟩=some (.int .i64 C)∧w'.cell? ⟨w.heap.size,0,none⟩=some (.pointer (some ⟨b,0,none⟩))) (go_keep) (fail)
 rename_i hHeld
 clear hHeld;go_wp2_with fail
 refine zac (DrewOf _) (by kernel_rfl) (by kernel_rfl) (DrewOf.start _) ?_
 repeat
  try simp only [Act.put,zs1,zs3,zs2]
  apply stepsSeq.cons
  ·rintro w' ⟨nq,rfl⟩;simp only [Act.put,zs1,zs3,zs2];go_wp2_with (fail)
   first | exact ⟨rfl,nq,rfl⟩ | exact ⟨rfl,nq,(World.drewN_drewN _ _ _).symm⟩ | exact ⟨rfl,nq,by simp⟩
 try simp only [Act.put,zs1,zs3,zs2]
 refine stepsSeq.nil ?_;rintro w' ⟨nq,rfl⟩;clear c0 c1 c2 c3 cf x0 hbw hx0;obtain ⟨tb,htb⟩:∃ tb,tb=w1.heap.size:=⟨_,rfl⟩;rw [← htb];obtain ⟨w3,hw3⟩:∃ w3,w3=((w1.alloc (.cells #[.int .u8 4,.string { data:=#[] },.int .i64 0,.int .i64 L,.int .i64 C] 51)).drew).drewN nq:=⟨_,rfl⟩;rw [← hw3];have HS3:Hid (Scan w3 b L C src j):=zh (by rw [hw3];exact HS1.out.alloc _);have HX3:Hid (OwnV w3 w.heap.size 79 [.pointer (some ⟨b,0,none⟩)]):=zh (by rw [hw3];exact HbX.out.alloc _);have HT3:Hid (OwnV w3 (w.heap.size+1) 51 [.int .u8 0,.string ByteArray.empty,.int .i64 0,.int .i64 0,.int .i64 0]):=zh (by rw [hw3];exact HbT.out.alloc _);have HE3:Hid (OwnV w3 (w.heap.size+1+1) 35 [.int .i64 0]):=zh (by rw [hw3];exact HbE.out.alloc _);have HK3:Hid (OwnV w3 tb 51 [.int .u8 4,.string ByteArray.empty,.int .i64 0,.int .i64 L,.int .i64 C]):=zh (by rw [hw3,htb];exact OwnV.new w1 _ [.int .u8 4,.string ByteArray.empty,.int .i64 0,.int .i64 L,.int .i64 C]);have HO3:Hid (Only (fun g=>g=b) w w3):=zh (by rw [hw3];exact ((HO1.out.alloc _).drew).drewN _);have hsz3:w.heap.size+3≤tb∧tb < w3.heap.size:=by rw [hw3];simp;omega
 obtain ⟨hsz3,hsz4⟩:=hsz3;clear hw3 htb HS1 HbX HbT HbE HO1 hsz1;obtain ⟨c0,c1,c2,c3,cf⟩:=HS3.out.cells;have x0:w3.cell? ⟨w.heap.size,0,none⟩=some (.pointer (some ⟨b,0,none⟩)):=OwnV.cell HX3.out rfl;have k0:w3.cell? ⟨tb,0,none⟩=some (.int .u8 4):=OwnV.cell HK3.out rfl;have k1:w3.cell? ⟨tb,1,none⟩=some (.string ByteArray.empty):=OwnV.cell HK3.out rfl;have k2:w3.cell? ⟨tb,2,none⟩=some (.int .i64 0):=OwnV.cell HK3.out rfl;have k3:w3.cell? ⟨tb,3,none⟩=some (.int .i64 L):=OwnV.cell HK3.out rfl;have k4:w3.cell? ⟨tb,4,none⟩=some (.int .i64 C):=OwnV.cell HK3.out rfl;have kf:∀ o,w3.frozen? ⟨tb,o,none⟩=false:=fun o=>OwnV.free HK3.out o
 have t0:w3.cell? ⟨w.heap.size+1,0,none⟩=some (.int .u8 0):=OwnV.cell HT3.out rfl;have t1:w3.cell? ⟨w.heap.size+1,1,none⟩=some (.string ByteArray.empty):=OwnV.cell HT3.out rfl;have t2:w3.cell? ⟨w.heap.size+1,2,none⟩=some (.int .i64 0):=OwnV.cell HT3.out rfl;have t3:w3.cell? ⟨w.heap.size+1,3,none⟩=some (.int .i64 0):=OwnV.cell HT3.out rfl;have t4:w3.cell? ⟨w.heap.size+1,4,none⟩=some (.int .i64 0):=OwnV.cell HT3.out rfl;have tf:∀ o,w3.frozen? ⟨w.heap.size+1,o,none⟩=false:=fun o=>OwnV.free HT3.out o
 have e0:w3.cell? ⟨w.heap.size+1+1,0,none⟩=some (.int .i64 0):=OwnV.cell HE3.out rfl;have ef:w3.frozen? ⟨w.heap.size+1+1,0,none⟩=false:=OwnV.free HE3.out 0;go_wp2_with fail
 go_wp2_with fail
 refine zac (DrewOf _) (by kernel_rfl) (by kernel_rfl) (DrewOf.start _) ?_
 repeat
  try simp only [Act.put,zs1,zs3,zs2]
  apply stepsSeq.cons
  ·rintro w' ⟨nq,rfl⟩;simp only [Act.put,zs1,zs3,zs2];go_wp2_with (fail)
   first | exact ⟨rfl,nq,rfl⟩ | exact ⟨rfl,nq,(World.drewN_drewN _ _ _).symm⟩ | exact ⟨rfl,nq,by simp⟩
 try simp only [Act.put,zs1,zs3,zs2]
 refine stepsSeq.nil ?_;rintro w' ⟨nq,rfl⟩;go_wp2_with fail
 go_at_call 78;refine (zbR _ _).mono ?_;rintro e1 wl ⟨rfl,rfl⟩;go_wp2_with fail
 go_at_call 103;refine (HPt.out _ (HS3.out.drewN _) ⟨hL0,hL1⟩ ⟨hC0,hC1⟩).mono ?_;rintro e1 w4 ⟨rfl,hS4,hO4⟩;have hgb1:¬ (fun g=>g=b) (w.heap.size+1):=fun e=>by have:w.heap.size+1=b:=e;omega
 have hgb2:¬ (fun g=>g=b) (w.heap.size+1+1):=fun e=>by have:w.heap.size+1+1=b:=e;omega
 have hgb0:¬ (fun g=>g=b) w.heap.size:=fun e=>by have:w.heap.size=b:=e;omega
 have hgbt:¬ (fun g=>g=b) tb:=fun e=>by have:tb=b:=e;omega
 have HS4:=zh hS4;have hO4':Only (fun g=>g=b) w3 w4:=((Only.refl _ w3).drewN _).trans hO4;have HX4:Hid (OwnV w4 w.heap.size 79 [.pointer (some ⟨b,0,none⟩)]):=zh (hO4'.own HX3.out hgb0);have HT4:Hid (OwnV w4 (w.heap.size+1) 51 [.int .u8 0,.string ByteArray.empty,.int .i64 0,.int .i64 0,.int .i64 0]):=zh (hO4'.own HT3.out hgb1);have HE4:Hid (OwnV w4 (w.heap.size+1+1) 35 [.int .i64 0]):=zh (hO4'.own HE3.out hgb2);have HK4:Hid (OwnV w4 tb 51 [.int .u8 4,.string ByteArray.empty,.int .i64 0,.int .i64 L,.int .i64 C]):=zh (hO4'.own HK3.out hgbt);have HO4:Hid (Only (fun g=>g=b) w w4):=zh (HO3.out.trans hO4');have hsz4:tb < w4.heap.size:=Nat.lt_of_lt_of_le hsz4 hO4'.size;have hsz3':w.heap.size+3≤tb:=hsz3;clear hS4 hO4 hO4' hgb0 hgb1 hgb2 hgbt;clear c0 c1 c2 c3 cf x0 k0 k1 k2 k3 k4 kf t0 t1 t2 t3 t4 tf e0 ef;obtain ⟨c0,c1,c2,c3,cf⟩:=HS4.out.cells;have x0:w4.cell? ⟨w.heap.size,0,none⟩=some (.pointer (some ⟨b,0,none⟩)):=OwnV.cell HX4.out rfl;have k0:w4.cell? ⟨tb,0,none⟩=some (.int .u8 4):=OwnV.cell HK4.out rfl;have k1:w4.cell? ⟨tb,1,none⟩=some (.string ByteArray.empty):=OwnV.cell HK4.out rfl;have k2:w4.cell? ⟨tb,2,none⟩=some (.int .i64 0):=OwnV.cell HK4.out rfl;have k3:w4.cell? ⟨tb,3,none⟩=some (.int .i64 L):=OwnV.cell HK4.out rfl;have k4:w4.cell? ⟨tb,4,none⟩=some (.int .i64 C):=OwnV.cell HK4.out rfl;have kf:∀ o,w4.frozen? ⟨tb,o,none⟩=false:=fun o=>OwnV.free HK4.out o
 have t0:w4.cell? ⟨w.heap.size+1,0,none⟩=some (.int .u8 0):=OwnV.cell HT4.out rfl;have t1:w4.cell? ⟨w.heap.size+1,1,none⟩=some (.string ByteArray.empty):=OwnV.cell HT4.out rfl;have t2:w4.cell? ⟨w.heap.size+1,2,none⟩=some (.int .i64 0):=OwnV.cell HT4.out rfl;have t3:w4.cell? ⟨w.heap.size+1,3,none⟩=some (.int .i64 0):=OwnV.cell HT4.out rfl;have t4:w4.cell? ⟨w.heap.size+1,4,none⟩=some (.int .i64 0):=OwnV.cell HT4.out rfl;have tf:∀ o,w4.frozen? ⟨w.heap.size+1,o,none⟩=false:=fun o=>OwnV.free HT4.out o
 have e0:w4.cell? ⟨w.heap.size+1+1,0,none⟩=some (.int .i64 0):=OwnV.cell HE4.out rfl;have ef:w4.frozen? ⟨w.heap.size+1+1,0,none⟩=false:=OwnV.free HE4.out 0;have hb1:b≠w.heap.size+1:=by omega
 have hb2:b≠w.heap.size+1+1:=by omega
 have hb3:b≠tb:=by omega
 have hg1:w.heap.size≤w.heap.size+1:=by omega
 have hg2:w.heap.size≤w.heap.size+1+1:=by omega
 have hg3:w.heap.size≤tb:=by omega
 have hkt1:tb≠w.heap.size+1:=by omega
 have hkt2:tb≠w.heap.size+1+1:=by omega
 have hkt1':w.heap.size+1≠tb:=by omega
 have hkt2':w.heap.size+1+1≠tb:=by omega
 go_wp2_with fail
 exact bodyPost_ret (zdb rfl rfl ((((((((HT4.out.set_ne hkt1' _).set_ne hkt1' _).set 0 _).set 1 _).set 2 _).set 3 _).set 4 _).set_ne (by omega) _) ((((((((HE4.out.set_ne hkt2' _).set_ne hkt2' _).set_ne (by omega) _).set_ne (by omega) _).set_ne (by omega) _).set_ne (by omega) _).set_ne (by omega) _).set 0 _)) rfl ⟨by rw [← Hrs.out];rfl,((((((((HS4.out.set_ne hb3 _).set_ne hb3 _).set_ne hb1 _).set_ne hb1 _).set_ne hb1 _).set_ne hb1 _).set_ne hb1 _).set_ne hb2 _),((((((((HO4.out.setNew hg3 _).setNew hg3 _).setNew hg1 _).setNew hg1 _).setNew hg1 _).setNew hg1 _).setNew hg1 _).setNew hg2 _)⟩
theorem zj0 (b:Nat) (src:ByteArray) (at' j:Nat) (line col L C:Int) (w:World) (hS:Scan w b line col src at') (hat:at'≤src.size) (hsz:src.size≤16384) (hl:0≤line∧line≤at'+1) (hc:0≤col∧col≤at'+1) (hj:j < src.size) (hG:Glob w) (h11:glB≤b) (hlet:zaH src[j]=false) (hdig:zaG src[j]=true) (hv:zaS ((src.data.toList.drop j).takeWhile zaf)=none)
  (hsk:zam (src.data.toList.drop at') false line col=(src.data.toList.drop j,L,C)) :
  Calls Tryz.prog 67 #[.pointer (some ⟨b,0,none⟩)] w fun e w'=>zev b src j L C w e w' (.err 112):=by
 have hb:b < w.heap.size:=OwnV.lt hS;have HS:=zh hS;have HB:Hid (∀ W,Scan W b line col src at'→Calls Tryz.prog 101 #[.pointer (some ⟨b,0,none⟩)] W fun e w'=>e=.returned (.tuple #[])∧Scan w' b L C src j∧(0≤L∧L≤j+1)∧(0≤C∧C≤j+1)∧Only (fun g=>g=b) W w'):=zh (fun W h=>zcR b src at' j line col L C W h hat hsz hl hc (by omega) hsk);clear hS hl hc hsk;have hj':((j:Int) == (src.size:Int))=false:=by rw [beq_eq_false_iff_ne];omega
 have hjI:(j:Int) < (src.size:Int):=by omega
 have hc0:src[j].toNat≤255:=by have:=src[j].toNat_lt;omega
 have HPt:Hid (∀ W,Scan W b L C src j→(0≤L∧L≤j+1)→(0≤C∧C≤j+1)→Calls Tryz.prog 103 #[.pointer (some ⟨b,0,none⟩),.func (.func 102) #[] #[]] W fun e w'=>e=.returned (.string (bstr ((src.data.toList.drop j).takeWhile zaf)))∧Scan w' b L (C+((src.data.toList.drop j).takeWhile zaf).length) src (j+((src.data.toList.drop j).takeWhile zaf).length)∧Only (fun g=>g=b) W w'):=zh (fun W h h1 h2=>zdZ b src j L C W h (by omega) hsz h1 h2);have hlt:zaV (src[j].toNat:Int)=false:=hlet;have hdt:za9 (src[j].toNat:Int)=true:=hdig;have HG:=zh hG;have HNum:Hid (∀ W,Glob W→Calls Tryz.prog 104 #[.string (bstr ((src.data.toList.drop j).takeWhile zaf))] W fun e w'=>e=numC (zaS ((src.data.toList.drop j).takeWhile zaf))∧Below W.heap.size W w'):=zh (fun W h=>zgg hj hsz hdig W h);rw [hv] at HNum;unfold numC at HNum;clear hlet hdig hG hv;obtain ⟨rs,Hrs⟩:∃ rs,Hid (bstr ((src.data.toList.drop j).takeWhile zaf)=rs):=⟨_,zh rfl⟩;rw [Hrs.out] at HPt HNum
 generalize (src.data.toList.drop j).takeWhile zaf=run at *
 go_enter Tryz.func67,Tryz.ntmps67
 go_wp2_with fail
 go_at_call 101;refine (HB.out _ (((HS.out.alloc _).alloc _).alloc _)).mono ?_;rintro e1 w1 ⟨rfl,hS1,⟨hL0,hL1⟩,⟨hC0,hC1⟩,hO1⟩;have HS1:=zh hS1;have hbn:∀ i,¬ (fun g=>g=b) (w.heap.size+i):=fun i e=>by have:w.heap.size+i=b:=e;omega
 have HbX:Hid (OwnV w1 w.heap.size 79 [.pointer (some ⟨b,0,none⟩)]):=zh (hO1.own (((OwnV.new w 79 [.pointer (some ⟨b,0,none⟩)]).alloc _).alloc _) (hbn 0));have HbT:Hid (OwnV w1 (w.heap.size+1) 51 [.int .u8 0,.string ByteArray.empty,.int .i64 0,.int .i64 0,.int .i64 0]):=zh (hO1.own (by have:=(OwnV.new (w.alloc (.cells #[.pointer (some ⟨b,0,none⟩)] 79)) 51 [.int .u8 0,.string ByteArray.empty,.int .i64 0,.int .i64 0,.int .i64 0]).alloc (.cells #[.int .i64 0] 35);rw [World.size_alloc] at this;exact this) (hbn 1));have HbE:Hid (OwnV w1 (w.heap.size+2) 35 [.int .i64 0]):=zh (hO1.own (by have:=OwnV.new ((w.alloc (.cells #[.pointer (some ⟨b,0,none⟩)] 79)).alloc (.cells #[.int .u8 0,.string ByteArray.empty,.int .i64 0,.int .i64 0,.int .i64 0] 51)) 35 [.int .i64 0];rw [World.size_alloc,World.size_alloc] at this;exact this) (hbn 2));have HO1:Hid (Only (fun g=>g=b) w w1):=zh (((((Only.refl _ w).alloc _).alloc _).alloc _).trans hO1);have hsz1:w.heap.size+3≤w1.heap.size:=by have:=hO1.size;simp at this;omega
 clear hS1 hO1 hbn;obtain ⟨c0,c1,c2,c3,cf⟩:=HS1.out.cells;have x0:w1.cell? ⟨w.heap.size,0,none⟩=some (.pointer (some ⟨b,0,none⟩)):=OwnV.cell HbX.out rfl;have hj3:(0:Int)≤(j:Int):=by omega
 go_wp2_with fail
 have hbw:b < w1.heap.size:=by omega
 have hx0:w.heap.size < w1.heap.size:=by omega
 go_region_held3 (fun w'=>w'.cell? ⟨b,0,none⟩=some (.int .i64 L)∧w'.cell? ⟨b,1,none⟩=some (.int .i64 C)∧w'.cell? ⟨w.heap.size,0,none⟩=some (.pointer (some ⟨b,0,none⟩))) (go_keep) (fail)
 rename_i hHeld
 clear hHeld;go_wp2_with fail
 refine zac (DrewOf _) (by kernel_rfl) (by kernel_rfl) (DrewOf.start _) ?_
 repeat
  try simp only [Act.put,zs1,zs3,zs2]
  apply stepsSeq.cons
  ·rintro w' ⟨nq,rfl⟩;simp only [Act.put,zs1,zs3,zs2];go_wp2_with (fail)
   first | exact ⟨rfl,nq,rfl⟩ | exact ⟨rfl,nq,(World.drewN_drewN _ _ _).symm⟩ | exact ⟨rfl,nq,by simp⟩
 try simp only [Act.put,zs1,zs3,zs2]
 refine stepsSeq.nil ?_;rintro w' ⟨nq,rfl⟩;clear c0 c1 c2 c3 cf x0 hbw hx0;obtain ⟨tb,htb⟩:∃ tb,tb=w1.heap.size:=⟨_,rfl⟩;rw [← htb];obtain ⟨w3,hw3⟩:∃ w3,w3=((w1.alloc (.cells #[.int .u8 4,.string { data:=#[] },.int .i64 0,.int .i64 L,.int .i64 C] 51)).drew).drewN nq:=⟨_,rfl⟩;rw [← hw3];have HS3:Hid (Scan w3 b L C src j):=zh (by rw [hw3];exact HS1.out.alloc _);have HX3:Hid (OwnV w3 w.heap.size 79 [.pointer (some ⟨b,0,none⟩)]):=zh (by rw [hw3];exact HbX.out.alloc _);have HT3:Hid (OwnV w3 (w.heap.size+1) 51 [.int .u8 0,.string ByteArray.empty,.int .i64 0,.int .i64 0,.int .i64 0]):=zh (by rw [hw3];exact HbT.out.alloc _);have HE3:Hid (OwnV w3 (w.heap.size+1+1) 35 [.int .i64 0]):=zh (by rw [hw3];exact HbE.out.alloc _);have HK3:Hid (OwnV w3 tb 51 [.int .u8 4,.string ByteArray.empty,.int .i64 0,.int .i64 L,.int .i64 C]):=zh (by rw [hw3,htb];exact OwnV.new w1 _ [.int .u8 4,.string ByteArray.empty,.int .i64 0,.int .i64 L,.int .i64 C]);have HO3:Hid (Only (fun g=>g=b) w w3):=zh (by rw [hw3];exact ((HO1.out.alloc _).drew).drewN _);have hsz3:w.heap.size+3≤tb∧tb < w3.heap.size:=by rw [hw3];simp;omega
 obtain ⟨hsz3,hsz4⟩:=hsz3;clear hw3 htb HS1 HbX HbT HbE HO1 hsz1;obtain ⟨c0,c1,c2,c3,cf⟩:=HS3.out.cells;have x0:w3.cell? ⟨w.heap.size,0,none⟩=some (.pointer (some ⟨b,0,none⟩)):=OwnV.cell HX3.out rfl;have k0:w3.cell? ⟨tb,0,none⟩=some (.int .u8 4):=OwnV.cell HK3.out rfl;have k1:w3.cell? ⟨tb,1,none⟩=some (.string ByteArray.empty):=OwnV.cell HK3.out rfl;have k2:w3.cell? ⟨tb,2,none⟩=some (.int .i64 0):=OwnV.cell HK3.out rfl;have k3:w3.cell? ⟨tb,3,none⟩=some (.int .i64 L):=OwnV.cell HK3.out rfl;have k4:w3.cell? ⟨tb,4,none⟩=some (.int .i64 C):=OwnV.cell HK3.out rfl;have kf:∀ o,w3.frozen? ⟨tb,o,none⟩=false:=fun o=>OwnV.free HK3.out o
 have t0:w3.cell? ⟨w.heap.size+1,0,none⟩=some (.int .u8 0):=OwnV.cell HT3.out rfl;have t1:w3.cell? ⟨w.heap.size+1,1,none⟩=some (.string ByteArray.empty):=OwnV.cell HT3.out rfl;have t2:w3.cell? ⟨w.heap.size+1,2,none⟩=some (.int .i64 0):=OwnV.cell HT3.out rfl;have t3:w3.cell? ⟨w.heap.size+1,3,none⟩=some (.int .i64 0):=OwnV.cell HT3.out rfl;have t4:w3.cell? ⟨w.heap.size+1,4,none⟩=some (.int .i64 0):=OwnV.cell HT3.out rfl;have tf:∀ o,w3.frozen? ⟨w.heap.size+1,o,none⟩=false:=fun o=>OwnV.free HT3.out o
 have e0:w3.cell? ⟨w.heap.size+1+1,0,none⟩=some (.int .i64 0):=OwnV.cell HE3.out rfl;have ef:w3.frozen? ⟨w.heap.size+1+1,0,none⟩=false:=OwnV.free HE3.out 0;go_wp2_with fail
 go_wp2_with fail
 refine zac (DrewOf _) (by kernel_rfl) (by kernel_rfl) (DrewOf.start _) ?_
 repeat
  try simp only [Act.put,zs1,zs3,zs2]
  apply stepsSeq.cons
  ·rintro w' ⟨nq,rfl⟩;simp only [Act.put,zs1,zs3,zs2];go_wp2_with (fail)
   first | exact ⟨rfl,nq,rfl⟩ | exact ⟨rfl,nq,(World.drewN_drewN _ _ _).symm⟩ | exact ⟨rfl,nq,by simp⟩
 try simp only [Act.put,zs1,zs3,zs2]
 refine stepsSeq.nil ?_;rintro w' ⟨nq,rfl⟩;go_wp2_with fail
 go_at_call 78;refine (zbR _ _).mono ?_;rintro e1 wl ⟨rfl,rfl⟩;go_wp2_with fail
 go_at_call 79;refine (zc0 _ _).mono ?_;rintro e1 wl ⟨rfl,rfl⟩;go_wp2_with fail
 go_at_call 103;refine (HPt.out _ (HS3.out.drewN _) ⟨hL0,hL1⟩ ⟨hC0,hC1⟩).mono ?_;rintro e1 w4 ⟨rfl,hS4,hO4⟩;have hgb1:¬ (fun g=>g=b) (w.heap.size+1):=fun e=>by have:w.heap.size+1=b:=e;omega
 have hgb2:¬ (fun g=>g=b) (w.heap.size+1+1):=fun e=>by have:w.heap.size+1+1=b:=e;omega
 have hgb0:¬ (fun g=>g=b) w.heap.size:=fun e=>by have:w.heap.size=b:=e;omega
 have hgbt:¬ (fun g=>g=b) tb:=fun e=>by have:tb=b:=e;omega
 have HS4:=zh hS4;have hO4':Only (fun g=>g=b) w3 w4:=((Only.refl _ w3).drewN _).trans hO4;have HX4:Hid (OwnV w4 w.heap.size 79 [.pointer (some ⟨b,0,none⟩)]):=zh (hO4'.own HX3.out hgb0);have HT4:Hid (OwnV w4 (w.heap.size+1) 51 [.int .u8 0,.string ByteArray.empty,.int .i64 0,.int .i64 0,.int .i64 0]):=zh (hO4'.own HT3.out hgb1);have HE4:Hid (OwnV w4 (w.heap.size+1+1) 35 [.int .i64 0]):=zh (hO4'.own HE3.out hgb2);have HK4:Hid (OwnV w4 tb 51 [.int .u8 4,.string ByteArray.empty,.int .i64 0,.int .i64 L,.int .i64 C]):=zh (hO4'.own HK3.out hgbt);have HO4:Hid (Only (fun g=>g=b) w w4):=zh (HO3.out.trans hO4');have hsz4:tb < w4.heap.size:=Nat.lt_of_lt_of_le hsz4 hO4'.size;have hsz3':w.heap.size+3≤tb:=hsz3;clear hS4 hO4 hO4' hgb0 hgb1 hgb2 hgbt;clear c0 c1 c2 c3 cf x0 k0 k1 k2 k3 k4 kf t0 t1 t2 t3 t4 tf e0 ef;obtain ⟨c0,c1,c2,c3,cf⟩:=HS4.out.cells;have x0:w4.cell? ⟨w.heap.size,0,none⟩=some (.pointer (some ⟨b,0,none⟩)):=OwnV.cell HX4.out rfl;have k0:w4.cell? ⟨tb,0,none⟩=some (.int .u8 4):=OwnV.cell HK4.out rfl;have k1:w4.cell? ⟨tb,1,none⟩=some (.string ByteArray.empty):=OwnV.cell HK4.out rfl;have k2:w4.cell? ⟨tb,2,none⟩=some (.int .i64 0):=OwnV.cell HK4.out rfl;have k3:w4.cell? ⟨tb,3,none⟩=some (.int .i64 L):=OwnV.cell HK4.out rfl;have k4:w4.cell? ⟨tb,4,none⟩=some (.int .i64 C):=OwnV.cell HK4.out rfl;have kf:∀ o,w4.frozen? ⟨tb,o,none⟩=false:=fun o=>OwnV.free HK4.out o
 have t0:w4.cell? ⟨w.heap.size+1,0,none⟩=some (.int .u8 0):=OwnV.cell HT4.out rfl;have t1:w4.cell? ⟨w.heap.size+1,1,none⟩=some (.string ByteArray.empty):=OwnV.cell HT4.out rfl;have t2:w4.cell? ⟨w.heap.size+1,2,none⟩=some (.int .i64 0):=OwnV.cell HT4.out rfl;have t3:w4.cell? ⟨w.heap.size+1,3,none⟩=some (.int .i64 0):=OwnV.cell HT4.out rfl;have t4:w4.cell? ⟨w.heap.size+1,4,none⟩=some (.int .i64 0):=OwnV.cell HT4.out rfl;have tf:∀ o,w4.frozen? ⟨w.heap.size+1,o,none⟩=false:=fun o=>OwnV.free HT4.out o
 have e0:w4.cell? ⟨w.heap.size+1+1,0,none⟩=some (.int .i64 0):=OwnV.cell HE4.out rfl;have ef:w4.frozen? ⟨w.heap.size+1+1,0,none⟩=false:=OwnV.free HE4.out 0;have hb1:b≠w.heap.size+1:=by omega
 have hb2:b≠w.heap.size+1+1:=by omega
 have hb3:b≠tb:=by omega
 have hg1:w.heap.size≤w.heap.size+1:=by omega
 have hg2:w.heap.size≤w.heap.size+1+1:=by omega
 have hg3:w.heap.size≤tb:=by omega
 have hkt1:tb≠w.heap.size+1:=by omega
 have hkt2:tb≠w.heap.size+1+1:=by omega
 have hkt1':w.heap.size+1≠tb:=by omega
 have hkt2':w.heap.size+1+1≠tb:=by omega

 go_wp2_with fail
 go_at_call 104;refine (HNum.out _ (HG.out.only ((HO4.out.setNew hg3 _).setNew hg3 _) (fun k hk=>by have:k=b:=hk;omega))).mono ?_;rintro e1 w5 ⟨rfl,hb5⟩;have hOb:Only (fun _=>False) ((w4.setCell ⟨tb,0,none⟩ (.int .u8 2)).setCell ⟨tb,1,none⟩ (.string rs)) w5:=Only.of_below hb5;have HS5:Hid (Scan w5 b L (C+(run.length:Nat)) src (j+run.length)):=zh (hOb.own ((HS4.out.set_ne hb3 _).set_ne hb3 _) (fun h=>h));have HT5:Hid (OwnV w5 (w.heap.size+1) 51 [.int .u8 0,.string ByteArray.empty,.int .i64 0,.int .i64 0,.int .i64 0]):=zh (hOb.own ((HT4.out.set_ne hkt1' _).set_ne hkt1' _) (fun h=>h));have HE5:Hid (OwnV w5 (w.heap.size+1+1) 35 [.int .i64 0]):=zh (hOb.own ((HE4.out.set_ne hkt2' _).set_ne hkt2' _) (fun h=>h));have HK5:Hid (OwnV w5 tb 51 [.int .u8 2,.string rs,.int .i64 0,.int .i64 L,.int .i64 C]):=zh (hOb.own ((HK4.out.set 0 _).set 1 _) (fun h=>h));have HO5:Hid (Only (fun g=>g=b) w w5):=zh (((HO4.out.setNew hg3 _).setNew hg3 _).trans (Only.of_below hb5));clear hb5 hOb;clear c0 c1 c2 c3 cf x0 k0 k1 k2 k3 k4 kf t0 t1 t2 t3 t4 tf e0 ef;have k0:w5.cell? ⟨tb,0,none⟩=some (.int .u8 2):=OwnV.cell HK5.out rfl;have k1:w5.cell? ⟨tb,1,none⟩=some (.string rs):=OwnV.cell HK5.out rfl;have k2:w5.cell? ⟨tb,2,none⟩=some (.int .i64 0):=OwnV.cell HK5.out rfl;have k3:w5.cell? ⟨tb,3,none⟩=some (.int .i64 L):=OwnV.cell HK5.out rfl;have k4:w5.cell? ⟨tb,4,none⟩=some (.int .i64 C):=OwnV.cell HK5.out rfl;have kf:∀ o,w5.frozen? ⟨tb,o,none⟩=false:=fun o=>OwnV.free HK5.out o
 have t0:w5.cell? ⟨w.heap.size+1,0,none⟩=some (.int .u8 0):=OwnV.cell HT5.out rfl;have t1:w5.cell? ⟨w.heap.size+1,1,none⟩=some (.string ByteArray.empty):=OwnV.cell HT5.out rfl;have t2:w5.cell? ⟨w.heap.size+1,2,none⟩=some (.int .i64 0):=OwnV.cell HT5.out rfl;have t3:w5.cell? ⟨w.heap.size+1,3,none⟩=some (.int .i64 0):=OwnV.cell HT5.out rfl;have t4:w5.cell? ⟨w.heap.size+1,4,none⟩=some (.int .i64 0):=OwnV.cell HT5.out rfl;have tf:∀ o,w5.frozen? ⟨w.heap.size+1,o,none⟩=false:=fun o=>OwnV.free HT5.out o
 have e0:w5.cell? ⟨w.heap.size+1+1,0,none⟩=some (.int .i64 0):=OwnV.cell HE5.out rfl;have ef:w5.frozen? ⟨w.heap.size+1+1,0,none⟩=false:=OwnV.free HE5.out 0;go_wp2_with fail
 exact bodyPost_ret (zdb rfl rfl (((((((HT5.out.set_ne hkt1' _).set 0 _).set 1 _).set 2 _).set 3 _).set 4 _).set_ne (by omega) _) (((((((HE5.out.set_ne hkt2' _).set_ne (by omega) _).set_ne (by omega) _).set_ne (by omega) _).set_ne (by omega) _).set_ne (by omega) _).set 0 _)) rfl ⟨⟨_,_,_,rfl⟩,(((((((HO5.out.setNew hg3 _).setNew hg1 _).setNew hg1 _).setNew hg1 _).setNew hg1 _).setNew hg1 _).setNew hg2 _)⟩
theorem zmr (b:Nat) (src:ByteArray) (at' j:Nat) (line col L C n:Int) (w:World) (hS:Scan w b line col src at') (hat:at'≤src.size) (hsz:src.size≤16384) (hl:0≤line∧line≤at'+1) (hc:0≤col∧col≤at'+1) (hj:j < src.size) (hG:Glob w) (h11:glB≤b) (hlet:zaH src[j]=false) (hdig:zaG src[j]=true) (hv:zaS ((src.data.toList.drop j).takeWhile zaf)=some n)
  (hsk:zam (src.data.toList.drop at') false line col=(src.data.toList.drop j,L,C)) :
  Calls Tryz.prog 67 #[.pointer (some ⟨b,0,none⟩)] w fun e w'=>zev b src j L C w e w' (.tok 2 ((src.data.toList.drop j).takeWhile zaf) n):=by
 have hb:b < w.heap.size:=OwnV.lt hS;have HS:=zh hS;have HB:Hid (∀ W,Scan W b line col src at'→Calls Tryz.prog 101 #[.pointer (some ⟨b,0,none⟩)] W fun e w'=>e=.returned (.tuple #[])∧Scan w' b L C src j∧(0≤L∧L≤j+1)∧(0≤C∧C≤j+1)∧Only (fun g=>g=b) W w'):=zh (fun W h=>zcR b src at' j line col L C W h hat hsz hl hc (by omega) hsk);clear hS hl hc hsk;have hj':((j:Int) == (src.size:Int))=false:=by rw [beq_eq_false_iff_ne];omega
 have hjI:(j:Int) < (src.size:Int):=by omega
 have hc0:src[j].toNat≤255:=by have:=src[j].toNat_lt;omega
 have HPt:Hid (∀ W,Scan W b L C src j→(0≤L∧L≤j+1)→(0≤C∧C≤j+1)→Calls Tryz.prog 103 #[.pointer (some ⟨b,0,none⟩),.func (.func 102) #[] #[]] W fun e w'=>e=.returned (.string (bstr ((src.data.toList.drop j).takeWhile zaf)))∧Scan w' b L (C+((src.data.toList.drop j).takeWhile zaf).length) src (j+((src.data.toList.drop j).takeWhile zaf).length)∧Only (fun g=>g=b) W w'):=zh (fun W h h1 h2=>zdZ b src j L C W h (by omega) hsz h1 h2);have hlt:zaV (src[j].toNat:Int)=false:=hlet;have hdt:za9 (src[j].toNat:Int)=true:=hdig;have HG:=zh hG;have HNum:Hid (∀ W,Glob W→Calls Tryz.prog 104 #[.string (bstr ((src.data.toList.drop j).takeWhile zaf))] W fun e w'=>e=numC (zaS ((src.data.toList.drop j).takeWhile zaf))∧Below W.heap.size W w'):=zh (fun W h=>zgg hj hsz hdig W h);rw [hv] at HNum;unfold numC at HNum;clear hlet hdig hG hv;obtain ⟨rs,Hrs⟩:∃ rs,Hid (bstr ((src.data.toList.drop j).takeWhile zaf)=rs):=⟨_,zh rfl⟩;rw [Hrs.out] at HPt HNum
 generalize (src.data.toList.drop j).takeWhile zaf=run at *
 go_enter Tryz.func67,Tryz.ntmps67
 go_wp2_with fail
 go_at_call 101;refine (HB.out _ (((HS.out.alloc _).alloc _).alloc _)).mono ?_;rintro e1 w1 ⟨rfl,hS1,⟨hL0,hL1⟩,⟨hC0,hC1⟩,hO1⟩;have HS1:=zh hS1;have hbn:∀ i,¬ (fun g=>g=b) (w.heap.size+i):=fun i e=>by have:w.heap.size+i=b:=e;omega
 have HbX:Hid (OwnV w1 w.heap.size 79 [.pointer (some ⟨b,0,none⟩)]):=zh (hO1.own (((OwnV.new w 79 [.pointer (some ⟨b,0,none⟩)]).alloc _).alloc _) (hbn 0));have HbT:Hid (OwnV w1 (w.heap.size+1) 51 [.int .u8 0,.string ByteArray.empty,.int .i64 0,.int .i64 0,.int .i64 0]):=zh (hO1.own (by have:=(OwnV.new (w.alloc (.cells #[.pointer (some ⟨b,0,none⟩)] 79)) 51 [.int .u8 0,.string ByteArray.empty,.int .i64 0,.int .i64 0,.int .i64 0]).alloc (.cells #[.int .i64 0] 35);rw [World.size_alloc] at this;exact this) (hbn 1));have HbE:Hid (OwnV w1 (w.heap.size+2) 35 [.int .i64 0]):=zh (hO1.own (by have:=OwnV.new ((w.alloc (.cells #[.pointer (some ⟨b,0,none⟩)] 79)).alloc (.cells #[.int .u8 0,.string ByteArray.empty,.int .i64 0,.int .i64 0,.int .i64 0] 51)) 35 [.int .i64 0];rw [World.size_alloc,World.size_alloc] at this;exact this) (hbn 2));have HO1:Hid (Only (fun g=>g=b) w w1):=zh (((((Only.refl _ w).alloc _).alloc _).alloc _).trans hO1);have hsz1:w.heap.size+3≤w1.heap.size:=by have:=hO1.size;simp at this;omega
 clear hS1 hO1 hbn;obtain ⟨c0,c1,c2,c3,cf⟩:=HS1.out.cells;have x0:w1.cell? ⟨w.heap.size,0,none⟩=some (.pointer (some ⟨b,0,none⟩)):=OwnV.cell HbX.out rfl;have hj3:(0:Int)≤(j:Int):=by omega
 go_wp2_with fail
 have hbw:b < w1.heap.size:=by omega
 have hx0:w.heap.size < w1.heap.size:=by omega
 go_region_held3 (fun w'=>w'.cell? ⟨b,0,none⟩=some (.int .i64 L)∧w'.cell? ⟨b,1,none⟩=some (.int .i64 C)∧w'.cell? ⟨w.heap.size,0,none⟩=some (.pointer (some ⟨b,0,none⟩))) (go_keep) (fail)
 rename_i hHeld
 clear hHeld;go_wp2_with fail
 refine zac (DrewOf _) (by kernel_rfl) (by kernel_rfl) (DrewOf.start _) ?_
 repeat
  try simp only [Act.put,zs1,zs3,zs2]
  apply stepsSeq.cons
  ·rintro w' ⟨nq,rfl⟩;simp only [Act.put,zs1,zs3,zs2];go_wp2_with (fail)
   first | exact ⟨rfl,nq,rfl⟩ | exact ⟨rfl,nq,(World.drewN_drewN _ _ _).symm⟩ | exact ⟨rfl,nq,by simp⟩
 try simp only [Act.put,zs1,zs3,zs2]
 refine stepsSeq.nil ?_;rintro w' ⟨nq,rfl⟩;clear c0 c1 c2 c3 cf x0 hbw hx0;obtain ⟨tb,htb⟩:∃ tb,tb=w1.heap.size:=⟨_,rfl⟩;rw [← htb];obtain ⟨w3,hw3⟩:∃ w3,w3=((w1.alloc (.cells #[.int .u8 4,.string { data:=#[] },.int .i64 0,.int .i64 L,.int .i64 C] 51)).drew).drewN nq:=⟨_,rfl⟩;rw [← hw3];have HS3:Hid (Scan w3 b L C src j):=zh (by rw [hw3];exact HS1.out.alloc _);have HX3:Hid (OwnV w3 w.heap.size 79 [.pointer (some ⟨b,0,none⟩)]):=zh (by rw [hw3];exact HbX.out.alloc _);have HT3:Hid (OwnV w3 (w.heap.size+1) 51 [.int .u8 0,.string ByteArray.empty,.int .i64 0,.int .i64 0,.int .i64 0]):=zh (by rw [hw3];exact HbT.out.alloc _);have HE3:Hid (OwnV w3 (w.heap.size+1+1) 35 [.int .i64 0]):=zh (by rw [hw3];exact HbE.out.alloc _);have HK3:Hid (OwnV w3 tb 51 [.int .u8 4,.string ByteArray.empty,.int .i64 0,.int .i64 L,.int .i64 C]):=zh (by rw [hw3,htb];exact OwnV.new w1 _ [.int .u8 4,.string ByteArray.empty,.int .i64 0,.int .i64 L,.int .i64 C]);have HO3:Hid (Only (fun g=>g=b) w w3):=zh (by rw [hw3];exact ((HO1.out.alloc _).drew).drewN _);have hsz3:w.heap.size+3≤tb∧tb < w3.heap.size:=by rw [hw3];simp;omega
 obtain ⟨hsz3,hsz4⟩:=hsz3;clear hw3 htb HS1 HbX HbT HbE HO1 hsz1;obtain ⟨c0,c1,c2,c3,cf⟩:=HS3.out.cells;have x0:w3.cell? ⟨w.heap.size,0,none⟩=some (.pointer (some ⟨b,0,none⟩)):=OwnV.cell HX3.out rfl;have k0:w3.cell? ⟨tb,0,none⟩=some (.int .u8 4):=OwnV.cell HK3.out rfl;have k1:w3.cell? ⟨tb,1,none⟩=some (.string ByteArray.empty):=OwnV.cell HK3.out rfl;have k2:w3.cell? ⟨tb,2,none⟩=some (.int .i64 0):=OwnV.cell HK3.out rfl;have k3:w3.cell? ⟨tb,3,none⟩=some (.int .i64 L):=OwnV.cell HK3.out rfl;have k4:w3.cell? ⟨tb,4,none⟩=some (.int .i64 C):=OwnV.cell HK3.out rfl;have kf:∀ o,w3.frozen? ⟨tb,o,none⟩=false:=fun o=>OwnV.free HK3.out o
 have t0:w3.cell? ⟨w.heap.size+1,0,none⟩=some (.int .u8 0):=OwnV.cell HT3.out rfl;have t1:w3.cell? ⟨w.heap.size+1,1,none⟩=some (.string ByteArray.empty):=OwnV.cell HT3.out rfl;have t2:w3.cell? ⟨w.heap.size+1,2,none⟩=some (.int .i64 0):=OwnV.cell HT3.out rfl;have t3:w3.cell? ⟨w.heap.size+1,3,none⟩=some (.int .i64 0):=OwnV.cell HT3.out rfl;have t4:w3.cell? ⟨w.heap.size+1,4,none⟩=some (.int .i64 0):=OwnV.cell HT3.out rfl;have tf:∀ o,w3.frozen? ⟨w.heap.size+1,o,none⟩=false:=fun o=>OwnV.free HT3.out o
 have e0:w3.cell? ⟨w.heap.size+1+1,0,none⟩=some (.int .i64 0):=OwnV.cell HE3.out rfl;have ef:w3.frozen? ⟨w.heap.size+1+1,0,none⟩=false:=OwnV.free HE3.out 0;go_wp2_with fail
 go_wp2_with fail
 refine zac (DrewOf _) (by kernel_rfl) (by kernel_rfl) (DrewOf.start _) ?_
 repeat
  try simp only [Act.put,zs1,zs3,zs2]
  apply stepsSeq.cons
  ·rintro w' ⟨nq,rfl⟩;simp only [Act.put,zs1,zs3,zs2];go_wp2_with (fail)
   first | exact ⟨rfl,nq,rfl⟩ | exact ⟨rfl,nq,(World.drewN_drewN _ _ _).symm⟩ | exact ⟨rfl,nq,by simp⟩
 try simp only [Act.put,zs1,zs3,zs2]
 refine stepsSeq.nil ?_;rintro w' ⟨nq,rfl⟩;go_wp2_with fail
 go_at_call 78;refine (zbR _ _).mono ?_;rintro e1 wl ⟨rfl,rfl⟩;go_wp2_with fail
 go_at_call 79;refine (zc0 _ _).mono ?_;rintro e1 wl ⟨rfl,rfl⟩;go_wp2_with fail
 go_at_call 103;refine (HPt.out _ (HS3.out.drewN _) ⟨hL0,hL1⟩ ⟨hC0,hC1⟩).mono ?_;rintro e1 w4 ⟨rfl,hS4,hO4⟩;have hgb1:¬ (fun g=>g=b) (w.heap.size+1):=fun e=>by have:w.heap.size+1=b:=e;omega
 have hgb2:¬ (fun g=>g=b) (w.heap.size+1+1):=fun e=>by have:w.heap.size+1+1=b:=e;omega
 have hgb0:¬ (fun g=>g=b) w.heap.size:=fun e=>by have:w.heap.size=b:=e;omega
 have hgbt:¬ (fun g=>g=b) tb:=fun e=>by have:tb=b:=e;omega
 have HS4:=zh hS4;have hO4':Only (fun g=>g=b) w3 w4:=((Only.refl _ w3).drewN _).trans hO4;have HX4:Hid (OwnV w4 w.heap.size 79 [.pointer (some ⟨b,0,none⟩)]):=zh (hO4'.own HX3.out hgb0);have HT4:Hid (OwnV w4 (w.heap.size+1) 51 [.int .u8 0,.string ByteArray.empty,.int .i64 0,.int .i64 0,.int .i64 0]):=zh (hO4'.own HT3.out hgb1);have HE4:Hid (OwnV w4 (w.heap.size+1+1) 35 [.int .i64 0]):=zh (hO4'.own HE3.out hgb2);have HK4:Hid (OwnV w4 tb 51 [.int .u8 4,.string ByteArray.empty,.int .i64 0,.int .i64 L,.int .i64 C]):=zh (hO4'.own HK3.out hgbt);have HO4:Hid (Only (fun g=>g=b) w w4):=zh (HO3.out.trans hO4');have hsz4:tb < w4.heap.size:=Nat.lt_of_lt_of_le hsz4 hO4'.size;have hsz3':w.heap.size+3≤tb:=hsz3;clear hS4 hO4 hO4' hgb0 hgb1 hgb2 hgbt;clear c0 c1 c2 c3 cf x0 k0 k1 k2 k3 k4 kf t0 t1 t2 t3 t4 tf e0 ef;obtain ⟨c0,c1,c2,c3,cf⟩:=HS4.out.cells;have x0:w4.cell? ⟨w.heap.size,0,none⟩=some (.pointer (some ⟨b,0,none⟩)):=OwnV.cell HX4.out rfl;have k0:w4.cell? ⟨tb,0,none⟩=some (.int .u8 4):=OwnV.cell HK4.out rfl;have k1:w4.cell? ⟨tb,1,none⟩=some (.string ByteArray.empty):=OwnV.cell HK4.out rfl;have k2:w4.cell? ⟨tb,2,none⟩=some (.int .i64 0):=OwnV.cell HK4.out rfl;have k3:w4.cell? ⟨tb,3,none⟩=some (.int .i64 L):=OwnV.cell HK4.out rfl;have k4:w4.cell? ⟨tb,4,none⟩=some (.int .i64 C):=OwnV.cell HK4.out rfl;have kf:∀ o,w4.frozen? ⟨tb,o,none⟩=false:=fun o=>OwnV.free HK4.out o
 have t0:w4.cell? ⟨w.heap.size+1,0,none⟩=some (.int .u8 0):=OwnV.cell HT4.out rfl;have t1:w4.cell? ⟨w.heap.size+1,1,none⟩=some (.string ByteArray.empty):=OwnV.cell HT4.out rfl;have t2:w4.cell? ⟨w.heap.size+1,2,none⟩=some (.int .i64 0):=OwnV.cell HT4.out rfl;have t3:w4.cell? ⟨w.heap.size+1,3,none⟩=some (.int .i64 0):=OwnV.cell HT4.out rfl;have t4:w4.cell? ⟨w.heap.size+1,4,none⟩=some (.int .i64 0):=OwnV.cell HT4.out rfl;have tf:∀ o,w4.frozen? ⟨w.heap.size+1,o,none⟩=false:=fun o=>OwnV.free HT4.out o
 have e0:w4.cell? ⟨w.heap.size+1+1,0,none⟩=some (.int .i64 0):=OwnV.cell HE4.out rfl;have ef:w4.frozen? ⟨w.heap.size+1+1,0,none⟩=false:=OwnV.free HE4.out 0;have hb1:b≠w.heap.size+1:=by omega
 have hb2:b≠w.heap.size+1+1:=by omega
 have hb3:b≠tb:=by omega
 have hg1:w.heap.size≤w.heap.size+1:=by omega
 have hg2:w.heap.size≤w.heap.size+1+1:=by omega
 have hg3:w.heap.size≤tb:=by omega
 have hkt1:tb≠w.heap.size+1:=by omega
 have hkt2:tb≠w.heap.size+1+1:=by omega
 have hkt1':w.heap.size+1≠tb:=by omega
 have hkt2':w.heap.size+1+1≠tb:=by omega

 go_wp2_with fail
 go_at_call 104;refine (HNum.out _ (HG.out.only ((HO4.out.setNew hg3 _).setNew hg3 _) (fun k hk=>by have:k=b:=hk;omega))).mono ?_;rintro e1 w5 ⟨rfl,hb5⟩;have hOb:Only (fun _=>False) ((w4.setCell ⟨tb,0,none⟩ (.int .u8 2)).setCell ⟨tb,1,none⟩ (.string rs)) w5:=Only.of_below hb5;have HS5:Hid (Scan w5 b L (C+(run.length:Nat)) src (j+run.length)):=zh (hOb.own ((HS4.out.set_ne hb3 _).set_ne hb3 _) (fun h=>h));have HT5:Hid (OwnV w5 (w.heap.size+1) 51 [.int .u8 0,.string ByteArray.empty,.int .i64 0,.int .i64 0,.int .i64 0]):=zh (hOb.own ((HT4.out.set_ne hkt1' _).set_ne hkt1' _) (fun h=>h));have HE5:Hid (OwnV w5 (w.heap.size+1+1) 35 [.int .i64 0]):=zh (hOb.own ((HE4.out.set_ne hkt2' _).set_ne hkt2' _) (fun h=>h));have HK5:Hid (OwnV w5 tb 51 [.int .u8 2,.string rs,.int .i64 0,.int .i64 L,.int .i64 C]):=zh (hOb.own ((HK4.out.set 0 _).set 1 _) (fun h=>h));have HO5:Hid (Only (fun g=>g=b) w w5):=zh (((HO4.out.setNew hg3 _).setNew hg3 _).trans (Only.of_below hb5));clear hb5 hOb;clear c0 c1 c2 c3 cf x0 k0 k1 k2 k3 k4 kf t0 t1 t2 t3 t4 tf e0 ef;have k0:w5.cell? ⟨tb,0,none⟩=some (.int .u8 2):=OwnV.cell HK5.out rfl;have k1:w5.cell? ⟨tb,1,none⟩=some (.string rs):=OwnV.cell HK5.out rfl;have k2:w5.cell? ⟨tb,2,none⟩=some (.int .i64 0):=OwnV.cell HK5.out rfl;have k3:w5.cell? ⟨tb,3,none⟩=some (.int .i64 L):=OwnV.cell HK5.out rfl;have k4:w5.cell? ⟨tb,4,none⟩=some (.int .i64 C):=OwnV.cell HK5.out rfl;have kf:∀ o,w5.frozen? ⟨tb,o,none⟩=false:=fun o=>OwnV.free HK5.out o
 have t0:w5.cell? ⟨w.heap.size+1,0,none⟩=some (.int .u8 0):=OwnV.cell HT5.out rfl;have t1:w5.cell? ⟨w.heap.size+1,1,none⟩=some (.string ByteArray.empty):=OwnV.cell HT5.out rfl;have t2:w5.cell? ⟨w.heap.size+1,2,none⟩=some (.int .i64 0):=OwnV.cell HT5.out rfl;have t3:w5.cell? ⟨w.heap.size+1,3,none⟩=some (.int .i64 0):=OwnV.cell HT5.out rfl;have t4:w5.cell? ⟨w.heap.size+1,4,none⟩=some (.int .i64 0):=OwnV.cell HT5.out rfl;have tf:∀ o,w5.frozen? ⟨w.heap.size+1,o,none⟩=false:=fun o=>OwnV.free HT5.out o
 have e0:w5.cell? ⟨w.heap.size+1+1,0,none⟩=some (.int .i64 0):=OwnV.cell HE5.out rfl;have ef:w5.frozen? ⟨w.heap.size+1+1,0,none⟩=false:=OwnV.free HE5.out 0;go_wp2_with fail
 exact bodyPost_ret (zdb rfl rfl (((((((HT5.out.set_ne hkt1' _).set 0 _).set 1 _).set 2 _).set 3 _).set 4 _).set_ne (by omega) _) (((((((HE5.out.set_ne hkt2' _).set_ne (by omega) _).set_ne (by omega) _).set_ne (by omega) _).set_ne (by omega) _).set_ne (by omega) _).set 0 _)) rfl ⟨by rw [← Hrs.out];rfl,(((((((HS5.out.set_ne hb3 _).set_ne hb1 _).set_ne hb1 _).set_ne hb1 _).set_ne hb1 _).set_ne hb1 _).set_ne hb2 _),(((((((HO5.out.setNew hg3 _).setNew hg1 _).setNew hg1 _).setNew hg1 _).setNew hg1 _).setNew hg1 _).setNew hg2 _)⟩
open Go.RowKit Go.Shelf
attribute [local go_sem] Oper.semAt_some

def SignI (b tb : Nat) (src : ByteArray) (j : Nat) (L C : Int) (w : World) (B : Nat) (pre : List (Fin 23)) (W : World) : Prop :=
  (∀ y ∈ pre, hitB y.val (src.data.toList.drop j) = false) ∧ Scan W b L C src j ∧ OwnV W w.heap.size 79 [.pointer (some ⟨b, 0, none⟩)] ∧ OwnV W (w.heap.size + 1) 51 [.int .u8 0, .string ByteArray.empty, .int .i64 0, .int .i64 0, .int .i64 0] ∧ OwnV W (w.heap.size + 1 + 1) 35 [.int .i64 0] ∧
  OwnV W tb 51 [.int .u8 4, .string ByteArray.empty, .int .i64 0, .int .i64 L, .int .i64 C] ∧ Only (fun g => g = b) w W ∧ B ≤ W.heap.size
def SignX (b : Nat) (src : ByteArray) (j : Nat) (L C : Int) (w : World) (c : Code) (pre : List (Fin 23)) (W : World) : Prop :=
  c = .ret ∧ ∃ p x, pre = p ++ [x] ∧ (∀ y ∈ p, hitB y.val (src.data.toList.drop j) = false) ∧ hitB x.val (src.data.toList.drop j) = true ∧ Scan W b L (C + (sg x.val).length) src (j + (sg x.val).length) ∧
  OwnV W (w.heap.size + 1) 51 [.int .u8 3, .string (bstr (sg x.val)), .int .i64 0, .int .i64 L, .int .i64 C] ∧ OwnV W (w.heap.size + 1 + 1) 35 [.int .i64 0] ∧ Only (fun g => g = b) w W
theorem zj1 {b tb:Nat} {src:ByteArray} {j:Nat} {L C:Int} {w:World} {B:Nat} (hB:w.heap.size≤B):OwnFrom B (SignI b tb src j L C w B):=by
 intro s W W' row ⟨h1,h2,h3,h4,h5,h6,h7,h8⟩ hg hr;have hr':∀ r,row=some r→∃ o:Obj,W.heap[r]? = some o∧o.isCells=false:=fun r e=>(hr r e).2
 exact ⟨h1,OwnV.ofNon h2 hg hr',OwnV.ofNon h3 hg hr',OwnV.ofNon h4 hg hr',OwnV.ofNon h5 hg hr',OwnV.ofNon h6 hg hr',h7.grown hg (fun r e=>Nat.le_trans hB (hr r e).1),Nat.le_trans h8 hg.size⟩
theorem zj2 {b:Nat} {src:ByteArray} {j:Nat} {L C:Int} {w:World} {B:Nat} (hB:w.heap.size≤B) (c:Code):OwnFrom B (SignX b src j L C w c):=by
 intro s W W' row ⟨h1,p,x,h2,h3,h4,h5,h6,h7,h8⟩ hg hr;have hr':∀ r,row=some r→∃ o:Obj,W.heap[r]? = some o∧o.isCells=false:=fun r e=>(hr r e).2
 exact ⟨h1,p,x,h2,h3,h4,OwnV.ofNon h5 hg hr',OwnV.ofNon h6 hg hr',OwnV.ofNon h7 hg hr',h8.grown hg (fun r e=>Nat.le_trans hB (hr r e).1)⟩
theorem pre_no {rem:List UInt8} {p:List (Fin 23)} {x:Fin 23} (hp:p++[x] <+: List.finRange 23) (h:∀ y ∈ p,hitB y.val rem=false):∀ i,i < x.val→hitB i rem=false:=by
 have hlen:=hp.length_le;simp only [List.length_append,List.length_cons,List.length_nil,List.length_finRange] at hlen
 have hget:∀ i (hi:i < (p++[x]).length),(p++[x])[i]=⟨i,by simp at hi;omega⟩:=fun i hi=>by
  have h1:=hp.getElem hi;rw [List.getElem_finRange] at h1;rw [h1];rfl
 have hx:p.length=x.val:=by
  have:=hget p.length (by simp);simp at this;rw [this]
 intro i hi;have h2:=hget i (by simp;omega);rw [List.getElem_append_left (by omega)] at h2;have h3:=h _ (List.getElem_mem (l:=p) (n:=i) (by omega));rw [h2] at h3;exact h3
theorem zgh {n:Nat} {tmps:Array Value} {W:World} {D g1 g2:Nat} {a b c d e z:Value} {R:Ending→World→Prop} (h2:tmps[2]?.getD undef=.pointer (some ⟨g1,0,none⟩)) (h3:tmps[3]?.getD undef=.pointer (some ⟨g2,0,none⟩)) (HT:OwnV W g1 51 [a,b,c,d,e]) (HE:OwnV W g2 35 [z])
  (hD:W.heap[D]? = some (.deferred (some []))) (hR:R (.returned (.tuple #[.agg #[a,b,c,d,e],z])) (W.putObj D (.deferred none))):LeavesInM Fence.wide n Tryz.prog Tryz.f67 tmps R [{ target:=.collected D,args:=#[] }] .returning W:=by
 have hr:∀ r,some D=some r→∃ o:Obj,W.heap[r]? = some o∧o.isCells=false:=fun r e=>by cases e;exact ⟨_,hD,rfl⟩
 refine ⟨by simp,.inl ⟨_,_,rfl,run_takeDeferred hD,?_⟩⟩;exact ⟨_,zdb h2 h3 (HT.ofNon (grownBy_putObj' W D _) hr) (HE.ofNon (grownBy_putObj' W D _) hr),hR⟩
theorem sg_nl:∀ k:Fin 23,∀ y ∈ sg k.val,y.toNat≠10:=by decide +kernel
theorem zlk:∀ k:Fin 23,(sg k.val).length≤2∧1≤(sg k.val).length:=by decide +kernel
theorem zll (b lb:Nat) (src:ByteArray) (j:Nat) (L C:Int) (x:Fin 23) (hj:j≤src.size) (hsz:src.size≤16384) (h1:0≤L∧L≤j+1) (h2:0≤C∧C≤j+1) (hne:lb≠b) (hhit:hitB x.val (src.data.toList.drop j)=true) (m:Nat) (hm:m=(sg x.val).length) (w:World) (hS:Scan w b L C src j) (hL:OwnV w lb 3 [.int .i64 m]) :
  Calls Tryz.prog 103 #[.pointer (some ⟨b,0,none⟩),.func (.func 107) #[] #[.pointer (some ⟨lb,0,none⟩)]] w fun e w'=>(∃ v,e=.returned v)∧Scan w' b L (C+(sg x.val).length) src (j+(sg x.val).length)∧Only (fun g=>g=b∨g=lb) w w':=by
 have hp:=zft hhit;have hl:=zlk x;refine (zlq b src j L C w lb m (by omega) hne hL hS hj hsz h1 h2).mono ?_;unfold zbF;rw [zjZ m _ 0 (Nat.zero_le _) (by omega),Nat.sub_zero,hm,hp.1,zg5 _ _ _ (sg_nl x)];exact fun e w' h=>⟨⟨_,h.1⟩,h.2.1,h.2.2⟩
theorem zeY {c:UInt8} {r:List UInt8} (h1:zaH c=false) (h2:zaG c=false):zcG (c :: r)=if zag (c :: r)=0 then .err 110 else .tok 3 ((c :: r).take (zag (c :: r))) 0:=by
 rw [zcG,if_neg (by rw [h1];decide),if_neg (by rw [h2];decide)]
theorem all_no {rem:List UInt8} (h:∀ y ∈ List.finRange 23,hitB y.val rem=false):∀ i,i < 23→hitB i rem=false:=fun i hi=>h ⟨i,hi⟩ (List.mem_finRange _)
theorem zlm (b:Nat) (src:ByteArray) (at' j:Nat) (line col L C:Int) (w:World) (hS:Scan w b line col src at') (hat:at'≤src.size) (hsz:src.size≤16384) (hl:0≤line∧line≤at'+1) (hc:0≤col∧col≤at'+1) (hj:j < src.size) (hG:Glob w) (h11:glB≤b) (hlet:zaH src[j]=false) (hdig:zaG src[j]=false)
  (hsk:zam (src.data.toList.drop at') false line col=(src.data.toList.drop j,L,C)) :
  Calls Tryz.prog 67 #[.pointer (some ⟨b,0,none⟩)] w fun e w'=>zev b src j L C w e w' (zcG (src.data.toList.drop j)):=by
 have hb:b < w.heap.size:=OwnV.lt hS;have HS:=zh hS;have HB:Hid (∀ W,Scan W b line col src at'→Calls Tryz.prog 101 #[.pointer (some ⟨b,0,none⟩)] W fun e w'=>e=.returned (.tuple #[])∧Scan w' b L C src j∧(0≤L∧L≤j+1)∧(0≤C∧C≤j+1)∧Only (fun g=>g=b) W w'):=zh (fun W h=>zcR b src at' j line col L C W h hat hsz hl hc (by omega) hsk);clear hS hl hc hsk;have hj':((j:Int) == (src.size:Int))=false:=by rw [beq_eq_false_iff_ne];omega
 have hjI:(j:Int) < (src.size:Int):=by omega
 have hc0:src[j].toNat≤255:=by have:=src[j].toNat_lt;omega
 have hlt:zaV (src[j].toNat:Int)=false:=hlet;have hdt:za9 (src[j].toNat:Int)=false:=hdig;have HG:=zh hG;have HD:Hid (∃ r,src.data.toList.drop j=src[j] :: r):=zh ⟨_,za2 src hj⟩;have Hlet:=zh hlet;have Hdig:=zh hdig;clear hlet hdig hG;refine callsIn_wide.1 (callsIn_of_wp_marks (n:=6) Tryz.func67 rfl trivial ?_ rfl);refine wpIn_wide.2 ?_;simp only [Tryz.ntmps67,List.size_toArray,List.length_cons,List.length_nil,Nat.reduceAdd,Nat.reduceSub,Array.replicate_succ,Array.replicate_zero,List.push_toArray,List.append_toArray,List.nil_append,List.cons_append];skip
 go_wp2_with fail
 go_at_call 101;refine (HB.out _ (((HS.out.alloc _).alloc _).alloc _)).mono ?_;rintro e1 w1 ⟨rfl,hS1,⟨hL0,hL1⟩,⟨hC0,hC1⟩,hO1⟩;have HS1:=zh hS1;have hbn:∀ i,¬ (fun g=>g=b) (w.heap.size+i):=fun i e=>by have:w.heap.size+i=b:=e;omega
 have HbX:Hid (OwnV w1 w.heap.size 79 [.pointer (some ⟨b,0,none⟩)]):=zh (hO1.own (((OwnV.new w 79 [.pointer (some ⟨b,0,none⟩)]).alloc _).alloc _) (hbn 0));have HbT:Hid (OwnV w1 (w.heap.size+1) 51 [.int .u8 0,.string ByteArray.empty,.int .i64 0,.int .i64 0,.int .i64 0]):=zh (hO1.own (by have:=(OwnV.new (w.alloc (.cells #[.pointer (some ⟨b,0,none⟩)] 79)) 51 [.int .u8 0,.string ByteArray.empty,.int .i64 0,.int .i64 0,.int .i64 0]).alloc (.cells #[.int .i64 0] 35);rw [World.size_alloc] at this;exact this) (hbn 1));have HbE:Hid (OwnV w1 (w.heap.size+2) 35 [.int .i64 0]):=zh (hO1.own (by have:=OwnV.new ((w.alloc (.cells #[.pointer (some ⟨b,0,none⟩)] 79)).alloc (.cells #[.int .u8 0,.string ByteArray.empty,.int .i64 0,.int .i64 0,.int .i64 0] 51)) 35 [.int .i64 0];rw [World.size_alloc,World.size_alloc] at this;exact this) (hbn 2));have HO1:Hid (Only (fun g=>g=b) w w1):=zh (((((Only.refl _ w).alloc _).alloc _).alloc _).trans hO1);have hsz1:w.heap.size+3≤w1.heap.size:=by have:=hO1.size;simp at this;omega
 clear hS1 hO1 hbn;obtain ⟨c0,c1,c2,c3,cf⟩:=HS1.out.cells;have x0:w1.cell? ⟨w.heap.size,0,none⟩=some (.pointer (some ⟨b,0,none⟩)):=OwnV.cell HbX.out rfl;have hj3:(0:Int)≤(j:Int):=by omega
 go_wp2_with fail
 have hbw:b < w1.heap.size:=by omega
 have hx0:w.heap.size < w1.heap.size:=by omega
 go_region_held3 (fun w'=>w'.cell? ⟨b,0,none⟩=some (.int .i64 L)∧w'.cell? ⟨b,1,none⟩=some (.int .i64 C)∧w'.cell? ⟨w.heap.size,0,none⟩=some (.pointer (some ⟨b,0,none⟩))) (go_keep) (fail)
 rename_i hHeld
 clear hHeld;go_wp2_with fail
 refine zac (DrewOf _) (by kernel_rfl) (by kernel_rfl) (DrewOf.start _) ?_
 repeat
  try simp only [Act.put,zs1,zs3,zs2]
  apply stepsSeq.cons
  ·rintro w' ⟨nq,rfl⟩;simp only [Act.put,zs1,zs3,zs2];go_wp2_with (fail)
   first | exact ⟨rfl,nq,rfl⟩ | exact ⟨rfl,nq,(World.drewN_drewN _ _ _).symm⟩ | exact ⟨rfl,nq,by simp⟩
 try simp only [Act.put,zs1,zs3,zs2]
 refine stepsSeq.nil ?_;rintro w' ⟨nq,rfl⟩;clear c0 c1 c2 c3 cf x0 hbw hx0;obtain ⟨tb,htb⟩:∃ tb,tb=w1.heap.size:=⟨_,rfl⟩;rw [← htb];obtain ⟨w3,hw3⟩:∃ w3,w3=((w1.alloc (.cells #[.int .u8 4,.string { data:=#[] },.int .i64 0,.int .i64 L,.int .i64 C] 51)).drew).drewN nq:=⟨_,rfl⟩;rw [← hw3];have HS3:Hid (Scan w3 b L C src j):=zh (by rw [hw3];exact HS1.out.alloc _);have HX3:Hid (OwnV w3 w.heap.size 79 [.pointer (some ⟨b,0,none⟩)]):=zh (by rw [hw3];exact HbX.out.alloc _);have HT3:Hid (OwnV w3 (w.heap.size+1) 51 [.int .u8 0,.string ByteArray.empty,.int .i64 0,.int .i64 0,.int .i64 0]):=zh (by rw [hw3];exact HbT.out.alloc _);have HE3:Hid (OwnV w3 (w.heap.size+1+1) 35 [.int .i64 0]):=zh (by rw [hw3];exact HbE.out.alloc _);have HK3:Hid (OwnV w3 tb 51 [.int .u8 4,.string ByteArray.empty,.int .i64 0,.int .i64 L,.int .i64 C]):=zh (by rw [hw3,htb];exact OwnV.new w1 _ [.int .u8 4,.string ByteArray.empty,.int .i64 0,.int .i64 L,.int .i64 C]);have HO3:Hid (Only (fun g=>g=b) w w3):=zh (by rw [hw3];exact ((HO1.out.alloc _).drew).drewN _);have hsz3:w.heap.size+3≤tb∧tb < w3.heap.size:=by rw [hw3];simp;omega
 obtain ⟨hsz3,hsz4⟩:=hsz3;clear hw3 htb HS1 HbX HbT HbE HO1 hsz1;obtain ⟨c0,c1,c2,c3,cf⟩:=HS3.out.cells;have x0:w3.cell? ⟨w.heap.size,0,none⟩=some (.pointer (some ⟨b,0,none⟩)):=OwnV.cell HX3.out rfl;have k0:w3.cell? ⟨tb,0,none⟩=some (.int .u8 4):=OwnV.cell HK3.out rfl;have k1:w3.cell? ⟨tb,1,none⟩=some (.string ByteArray.empty):=OwnV.cell HK3.out rfl;have k2:w3.cell? ⟨tb,2,none⟩=some (.int .i64 0):=OwnV.cell HK3.out rfl;have k3:w3.cell? ⟨tb,3,none⟩=some (.int .i64 L):=OwnV.cell HK3.out rfl;have k4:w3.cell? ⟨tb,4,none⟩=some (.int .i64 C):=OwnV.cell HK3.out rfl;have kf:∀ o,w3.frozen? ⟨tb,o,none⟩=false:=fun o=>OwnV.free HK3.out o
 have t0:w3.cell? ⟨w.heap.size+1,0,none⟩=some (.int .u8 0):=OwnV.cell HT3.out rfl;have t1:w3.cell? ⟨w.heap.size+1,1,none⟩=some (.string ByteArray.empty):=OwnV.cell HT3.out rfl;have t2:w3.cell? ⟨w.heap.size+1,2,none⟩=some (.int .i64 0):=OwnV.cell HT3.out rfl;have t3:w3.cell? ⟨w.heap.size+1,3,none⟩=some (.int .i64 0):=OwnV.cell HT3.out rfl;have t4:w3.cell? ⟨w.heap.size+1,4,none⟩=some (.int .i64 0):=OwnV.cell HT3.out rfl;have tf:∀ o,w3.frozen? ⟨w.heap.size+1,o,none⟩=false:=fun o=>OwnV.free HT3.out o
 have e0:w3.cell? ⟨w.heap.size+1+1,0,none⟩=some (.int .i64 0):=OwnV.cell HE3.out rfl;have ef:w3.frozen? ⟨w.heap.size+1+1,0,none⟩=false:=OwnV.free HE3.out 0;go_wp2_with fail
 go_wp2_with fail
 refine zac (DrewOf _) (by kernel_rfl) (by kernel_rfl) (DrewOf.start _) ?_
 repeat
  try simp only [Act.put,zs1,zs3,zs2]
  apply stepsSeq.cons
  ·rintro w' ⟨nq,rfl⟩;simp only [Act.put,zs1,zs3,zs2];go_wp2_with (fail)
   first | exact ⟨rfl,nq,rfl⟩ | exact ⟨rfl,nq,(World.drewN_drewN _ _ _).symm⟩ | exact ⟨rfl,nq,by simp⟩
 try simp only [Act.put,zs1,zs3,zs2]
 refine stepsSeq.nil ?_;rintro w' ⟨nq,rfl⟩;go_wp2_with fail
 go_at_call 78;refine (zbR _ _).mono ?_;rintro e1 wl ⟨rfl,rfl⟩;go_wp2_with fail
 go_at_call 79;refine (zc0 _ _).mono ?_;rintro e1 wl ⟨rfl,rfl⟩;go_wp2_with fail
 go_at_call 105;refine (callsIn_wide.1 (zh4 6 _ _)).mono ?_;rintro e1 w5 ⟨rfl,rfl⟩;go_wp2_with fail
 clear c0 c1 c2 c3 cf x0 k0 k1 k2 k3 k4 kf t0 t1 t2 t3 t4 tf e0 ef;obtain ⟨bx,hbx⟩:∃ bx,bx=w3.heap.size:=⟨_,rfl⟩;rw [← hbx];obtain ⟨w6,hw6⟩:∃ w6,w6=(w3.drewN nq).alloc (.cells #[.string { data:=#[61,61,32,33,61,32,60,61,32,62,61,32,38,38,32,124,124,32,43,32,45,32,42,32,47,32,37,32,60,32,62,32,33,32,61,32,40,32,41,32,91,32,93,32,123,32,125,32,44,32,59] }] 9):=⟨_,rfl⟩;rw [← hw6];have HS6:Scan w6 b L C src j:=by rw [hw6];exact (HS3.out.drewN _).alloc _
 have HX6:OwnV w6 w.heap.size 79 [.pointer (some ⟨b,0,none⟩)]:=by rw [hw6];exact (HX3.out.drewN _).alloc _
 have HT6:OwnV w6 (w.heap.size+1) 51 [.int .u8 0,.string ByteArray.empty,.int .i64 0,.int .i64 0,.int .i64 0]:=by rw [hw6];exact (HT3.out.drewN _).alloc _
 have HE6:OwnV w6 (w.heap.size+1+1) 35 [.int .i64 0]:=by rw [hw6];exact (HE3.out.drewN _).alloc _
 have HK6:OwnV w6 tb 51 [.int .u8 4,.string ByteArray.empty,.int .i64 0,.int .i64 L,.int .i64 C]:=by rw [hw6];exact (HK3.out.drewN _).alloc _
 have HO6:Only (fun g=>g=b) w w6:=by rw [hw6];exact (HO3.out.drewN _).alloc _
 have HG6:Glob w6:=HG.out.only HO6 (fun k hk=>by have:k=b:=hk;omega);have HB6:w6.cell? ⟨bx,0,none⟩=some (.string sigS):=by rw [hw6,hbx];exact OwnV.cell (OwnV.new (w3.drewN nq) 9 [.string sigS]) rfl
 have hbx6:bx < w6.heap.size:=by rw [hw6,hbx];simp
 have hw36:w.heap.size≤w6.heap.size:=HO6.size;have htb6:tb < w6.heap.size:=HK6.lt;clear hw6 hbx HS3 HX3 HT3 HE3 HK3 HO3
 refine wpIn_wide.1 (wpIn_rangeFunc_ownG (F:=Fence.wide) (n:=6) rfl (by omega) (gf:=141) (lb:=#[.pointer (some ⟨bx,0,none⟩)]) rfl trivial (enters_of Tryz.func141 (by kernel_rfl) rfl)
  (zh5 5 (by omega) bx w6 HG6 HB6 hbx6) belowK_t (belowK_b (zr _)) (Below.refl _ _) (fun _=>rfl)
  (SignI b tb src j L C w w6.heap.size) (SignX b src j L C w) (zj1 hw36) (zj2 hw36) ⟨fun y hy=>(by cases hy),HS6,HX6,HT6,HE6,HK6,HO6,zr _⟩
  (fun x=>{ tmps:=#[Value.pointer (some ⟨b,0,none⟩),Value.pointer (some ⟨w.heap.size,0,none⟩),Value.pointer (some ⟨w.heap.size+1,0,none⟩),Value.pointer (some ⟨w.heap.size+1+1,0,none⟩),Value.pointer (some ⟨tb,0,none⟩),Value.func (Fn.func 102) #[] #[],Value.int IntKind.u8 (src[j].toNat:Int),undef,Value.string (bstr (sg x.val)),undef,Value.pointer (some ⟨b,0,none⟩),Value.tuple #[],Value.pointer (some ⟨b,0,none⟩),Value.pointer (some ⟨b,0,none⟩),Value.pointer (some ⟨b,0,none⟩),Value.pointer (some ⟨b,0,none⟩),Value.int IntKind.i64 L,Value.pointer (some ⟨b,0,none⟩),Value.pointer (some ⟨b,0,none⟩),Value.pointer (some ⟨b,0,none⟩),Value.pointer (some ⟨b,1,none⟩),Value.int IntKind.i64 C,Value.agg #[Value.int IntKind.u8 4,Value.string { data:=#[] },Value.int IntKind.i64 0,Value.int IntKind.i64 L,Value.int IntKind.i64 C],Value.pointer (some ⟨b,0,none⟩),Value.pointer (some ⟨b,0,none⟩),Value.pointer (some ⟨b,3,none⟩),Value.int IntKind.i64 (j:Int),Value.pointer (some ⟨b,0,none⟩),Value.pointer (some ⟨b,0,none⟩),Value.pointer (some ⟨b,2,none⟩),Value.string src,Value.int IntKind.i64 (src.size:Int),Value.bool false,undef,Value.pointer (some ⟨b,0,none⟩),Value.pointer (some ⟨b,0,none⟩),Value.pointer (some ⟨b,2,none⟩),Value.string src,Value.pointer (some ⟨b,0,none⟩),Value.pointer (some ⟨b,0,none⟩),Value.pointer (some ⟨b,3,none⟩),Value.int IntKind.i64 (j:Int),Value.int IntKind.u8 (src[j].toNat:Int),Value.func (Fn.func 141) #[] #[Value.pointer (some ⟨bx,0,none⟩)],Value.string (bstr (sg x.val)),undef,undef,undef,undef,undef,undef,undef,undef,undef,undef,undef,undef,undef,undef,undef,undef,undef,undef,undef,undef,undef,Value.bool false,Value.int IntKind.u8 (src[j].toNat:Int),Value.bool false,undef,undef,undef,undef,undef,undef,undef,undef,undef,undef,Value.bool false,Value.int IntKind.u8 (src[j].toNat:Int),Value.bool false,undef,undef,undef,undef,undef,undef,undef,undef,undef,undef,undef,undef,undef,undef,undef,undef,undef],defers:=[] }) ?assign ?body ?done ?stop)
 case assign =>
  intro l x W K hK;gi_wp2
  exact hK
 case body =>
  rintro l pre x W ⟨hpre,hS,hX,hT,hE,hK,hO,hBW⟩ hlen;obtain ⟨q,hq⟩:∃ q:Bool,hitB x.val (src.data.toList.drop j)=q:=⟨_,rfl⟩
  have HP:Hid (∀ W,Calls Tryz.prog 106 #[.string (src.extract j src.size),.string (bstr (sg x.val))] W fun e w'=>e=.returned (.bool q)∧W=w'):=zh (fun W=>(Tryz.strings_HasPrefix _ _ W).mono (by
   rintro e w' ⟨rfl,rfl⟩;refine ⟨?_,rfl⟩;rw [← hq];unfold hitB Lib.hasPrefix
   rw [zbX,show (bstr (sg x.val)).data.toList=sg x.val from by unfold bstr;simp,List.take_of_length_le (by rw [List.length_drop,zaq];omega)]))
  obtain ⟨c0,c1,c2,c3,cf⟩:=Scan.cells hS;have x0:W.cell? ⟨w.heap.size,0,none⟩=some (.pointer (some ⟨b,0,none⟩)):=OwnV.cell hX rfl;have k0:W.cell? ⟨tb,0,none⟩=some (.int .u8 4):=OwnV.cell hK rfl;have k1:W.cell? ⟨tb,1,none⟩=some (.string ByteArray.empty):=OwnV.cell hK rfl;have k2:W.cell? ⟨tb,2,none⟩=some (.int .i64 0):=OwnV.cell hK rfl;have k3:W.cell? ⟨tb,3,none⟩=some (.int .i64 L):=OwnV.cell hK rfl;have k4:W.cell? ⟨tb,4,none⟩=some (.int .i64 C):=OwnV.cell hK rfl;have kf:∀ o,W.frozen? ⟨tb,o,none⟩=false:=fun o=>OwnV.free hK o
  have t0:W.cell? ⟨w.heap.size+1,0,none⟩=some (.int .u8 0):=OwnV.cell hT rfl;have t1:W.cell? ⟨w.heap.size+1,1,none⟩=some (.string ByteArray.empty):=OwnV.cell hT rfl;have t2:W.cell? ⟨w.heap.size+1,2,none⟩=some (.int .i64 0):=OwnV.cell hT rfl;have t3:W.cell? ⟨w.heap.size+1,3,none⟩=some (.int .i64 0):=OwnV.cell hT rfl;have t4:W.cell? ⟨w.heap.size+1,4,none⟩=some (.int .i64 0):=OwnV.cell hT rfl;have tf:∀ o,W.frozen? ⟨w.heap.size+1,o,none⟩=false:=fun o=>OwnV.free hT o
  have e0:W.cell? ⟨w.heap.size+1+1,0,none⟩=some (.int .i64 0):=OwnV.cell hE rfl;have ef:W.frozen? ⟨w.heap.size+1+1,0,none⟩=false:=OwnV.free hE 0;have HS:=zh hS;have HX:=zh hX;have HT:=zh hT;have HE:=zh hE;have HK:=zh hK;have HO:=zh hO;clear hS hX hT hE hK hO;have Hhit:Hid (hitB x.val (src.data.toList.drop j)=q):=zh hq;have Hpre:=zh hpre;have hjle:j≤src.size:=by omega
  have hjle':(j:Int)≤(src.size:Int):=by omega
  have htbW:tb < W.heap.size:=HK.out.lt;have hbW:b < W.heap.size:=OwnV.lt HS.out;have hx0W:w.heap.size < W.heap.size:=HX.out.lt;have hx1W:w.heap.size+1 < W.heap.size:=HT.out.lt;have hx2W:w.heap.size+1+1 < W.heap.size:=HE.out.lt;clear hq hpre;cases q
  ·gi_wp2
   refine zdY (DrewOf _) (by kernel_rfl) (by kernel_rfl) (by kernel_rfl) (DrewOf.start _) ?_
   repeat
    try simp only [Act.put,zs1,zs3,zs2]
    apply stepsSeq.cons
    ·rintro w' ⟨nq,rfl⟩;simp only [Act.put,zs1,zs3,zs2];go_wp2_with (go_at_call 106;refine (HP.out _).mono ?_;rintro e1 w2 ⟨rfl,rfl⟩)
     first | exact ⟨rfl,nq,rfl⟩ | exact ⟨rfl,nq,(World.drewN_drewN _ _ _).symm⟩ | exact ⟨rfl,nq,by simp⟩
   try simp only [Act.put,zs1,zs3,zs2]
   refine stepsSeq.nil ?_;rintro w' ⟨nq,rfl⟩;gi_wp2
   refine ⟨zge (S:=fun _=>False) ((Only.refl _ W).drewN _) (fun k h=>h.elim) _,⟨rfl,rfl,rfl,zr _,fun _ _=>rfl⟩,?_,HS.out.drewN _,HX.out.drewN _,HT.out.drewN _,HE.out.drewN _,HK.out.drewN _,HO.out.drewN _,hBW⟩;intro y hy;rcases List.mem_append.1 hy with hy | hy
   ·exact Hpre.out y hy
   ·rw [List.mem_singleton.1 hy];exact Hhit.out
  ·obtain ⟨rs,Hrs⟩:∃ rs,Hid (bstr (sg x.val)=rs):=⟨_,zh rfl⟩;have hrl:rs.size=(sg x.val).length:=by rw [← Hrs.out];exact zcQ _
   have hrl2:rs.size≤2:=by have:=(zlk x).1;omega
   have HSk:Hid (∀ W',Scan W' b L C src j→OwnV W' W.heap.size 3 [.int .i64 rs.size]→Calls Tryz.prog 103 #[.pointer (some ⟨b,0,none⟩),.func (.func 107) #[] #[.pointer (some ⟨W.heap.size,0,none⟩)]] W' fun e w'=>(∃ v,e=.returned v)∧Scan w' b L (C+(sg x.val).length) src (j+(sg x.val).length)∧Only (fun g=>g=b∨g=W.heap.size) W' w'):=
    zh (fun W' h1 h2=>zll b W.heap.size src j L C x hjle hsz ⟨hL0,hL1⟩ ⟨hC0,hC1⟩ (by omega) Hhit.out rs.size hrl W' h1 h2)
   have Hrl:=zh hrl;clear hrl;rw [Hrs.out] at HP ⊢;gi_wp2
   refine zdY (DrewOf _) (by kernel_rfl) (by kernel_rfl) (by kernel_rfl) (DrewOf.start _) ?_
   repeat
    try simp only [Act.put,zs1,zs3,zs2]
    apply stepsSeq.cons
    ·rintro w' ⟨nq,rfl⟩;simp only [Act.put,zs1,zs3,zs2];go_wp2_with (go_at_call 106;refine (HP.out _).mono ?_;rintro e1 w2 ⟨rfl,rfl⟩)
     first | exact ⟨rfl,nq,rfl⟩ | exact ⟨rfl,nq,(World.drewN_drewN _ _ _).symm⟩ | exact ⟨rfl,nq,by simp⟩
   try simp only [Act.put,zs1,zs3,zs2]
   refine stepsSeq.nil ?_;rintro w' ⟨nq,rfl⟩;gi_wp2
   have hnb3:b≠tb:=by omega
   refine ⟨trivial,(CallsIn.inRound l (callsIn_wide.2 (HSk.out _ ((((HS.out.drewN _).set_ne hnb3 _).set_ne hnb3 _).alloc _) (OwnV.newAt (by simp) _ [.int .i64 rs.size])))).mono ?_⟩;rintro e1 w7 ⟨⟨v,rfl⟩,hS7,hO7⟩;have hwW:=HO.out.size;have HS7:=zh hS7;have HX7:OwnV w7 w.heap.size 79 [.pointer (some ⟨b,0,none⟩)]:=hO7.own ((((HX.out.drewN _).set_ne (by omega) _).set_ne (by omega) _).alloc _) (by rintro (h | h) <;> omega);have HT7:Hid (OwnV w7 (w.heap.size+1) 51 [.int .u8 0,.string ByteArray.empty,.int .i64 0,.int .i64 0,.int .i64 0]):=zh (hO7.own ((((HT.out.drewN _).set_ne (by omega) _).set_ne (by omega) _).alloc _) (by rintro (h | h) <;> omega));have HE7:Hid (OwnV w7 (w.heap.size+1+1) 35 [.int .i64 0]):=zh (hO7.own ((((HE.out.drewN _).set_ne (by omega) _).set_ne (by omega) _).alloc _) (by rintro (h | h) <;> omega));have HK7:Hid (OwnV w7 tb 51 [.int .u8 3,.string rs,.int .i64 0,.int .i64 L,.int .i64 C]):=zh (hO7.own ((((HK.out.drewN _).set 0 _).set 1 _).alloc _) (by rintro (h | h) <;> omega));have HO7:Hid (Only (fun g=>g=b) w w7):=zh (Only.transNew ((((HO.out.drewN _).setNew (by omega) _).setNew (by omega) _).alloc _) hO7 (by rintro i (h | h);exact .inl h;exact .inr (by omega)));have HQ7:Hid (Only (fun g=>g=b∨g=tb∨g=w.heap.size+1∨g=w.heap.size+1+1) W w7):=zh (Only.transNew (((((Only.refl _ W).drewN _).setIn (.inr (.inl rfl)) _).setIn (.inr (.inl rfl)) _).alloc _) hO7 (by rintro i (h | h);exact .inl (.inl h);exact .inr (by omega)));clear hS7 hO7;clear c0 c1 c2 c3 cf x0 k0 k1 k2 k3 k4 kf t0 t1 t2 t3 t4 tf e0 ef;have k0:w7.cell? ⟨tb,0,none⟩=some (.int .u8 3):=OwnV.cell HK7.out rfl;have k1:w7.cell? ⟨tb,1,none⟩=some (.string rs):=OwnV.cell HK7.out rfl;have k2:w7.cell? ⟨tb,2,none⟩=some (.int .i64 0):=OwnV.cell HK7.out rfl;have k3:w7.cell? ⟨tb,3,none⟩=some (.int .i64 L):=OwnV.cell HK7.out rfl;have k4:w7.cell? ⟨tb,4,none⟩=some (.int .i64 C):=OwnV.cell HK7.out rfl;have t0:w7.cell? ⟨w.heap.size+1,0,none⟩=some (.int .u8 0):=OwnV.cell HT7.out rfl;have t1:w7.cell? ⟨w.heap.size+1,1,none⟩=some (.string ByteArray.empty):=OwnV.cell HT7.out rfl;have t2:w7.cell? ⟨w.heap.size+1,2,none⟩=some (.int .i64 0):=OwnV.cell HT7.out rfl;have t3:w7.cell? ⟨w.heap.size+1,3,none⟩=some (.int .i64 0):=OwnV.cell HT7.out rfl;have t4:w7.cell? ⟨w.heap.size+1,4,none⟩=some (.int .i64 0):=OwnV.cell HT7.out rfl;have tf:∀ o,w7.frozen? ⟨w.heap.size+1,o,none⟩=false:=fun o=>OwnV.free HT7.out o
   have e0:w7.cell? ⟨w.heap.size+1+1,0,none⟩=some (.int .i64 0):=OwnV.cell HE7.out rfl;have ef:w7.frozen? ⟨w.heap.size+1+1,0,none⟩=false:=OwnV.free HE7.out 0;gi_wp2
   have hg1:w.heap.size≤w.heap.size+1:=by omega
   have hg2:w.heap.size≤w.heap.size+1+1:=by omega
   have hnb1:b≠w.heap.size+1:=by omega
   have hnb2:b≠w.heap.size+1+1:=by omega
   refine ⟨zge (S:=fun g=>g=b∨g=tb∨g=w.heap.size+1∨g=w.heap.size+1+1) ((((((HQ7.out.setIn (.inr (.inr (.inl rfl))) _).setIn (.inr (.inr (.inl rfl))) _).setIn (.inr (.inr (.inl rfl))) _).setIn (.inr (.inr (.inl rfl))) _).setIn (.inr (.inr (.inl rfl))) _).setIn (.inr (.inr (.inr rfl))) _) ?_ _,rfl,pre,x,rfl,Hpre.out,Hhit.out,?_,?_,?_,?_⟩
   ·rintro k (rfl | rfl | rfl | rfl)
    ·exact ⟨_,_,HS.out⟩
    ·exact ⟨_,_,HK.out⟩
    ·exact ⟨_,_,HT.out⟩
    ·exact ⟨_,_,HE.out⟩
   ·exact (((((HS7.out.set_ne hnb1 _).set_ne hnb1 _).set_ne hnb1 _).set_ne hnb1 _).set_ne hnb1 _).set_ne hnb2 _
   ·rw [Hrs.out];exact (((((HT7.out.set 0 _).set 1 _).set 2 _).set 3 _).set 4 _).set_ne (by omega) _
   ·exact (((((HE7.out.set_ne (by omega) _).set_ne (by omega) _).set_ne (by omega) _).set_ne (by omega) _).set_ne (by omega) _).set 0 _
   ·exact (((((HO7.out.setNew hg1 _).setNew hg1 _).setNew hg1 _).setNew hg1 _).setNew hg1 _).setNew hg2 _
 case done =>
  rintro D ys W hD rfl ⟨hpre,hS,hX,hT,hE,hK,hO,hBW⟩ hDef;obtain ⟨c0,c1,c2,c3,cf⟩:=Scan.cells hS;have x0:W.cell? ⟨w.heap.size,0,none⟩=some (.pointer (some ⟨b,0,none⟩)):=OwnV.cell hX rfl;have k0:W.cell? ⟨tb,0,none⟩=some (.int .u8 4):=OwnV.cell hK rfl;have k1:W.cell? ⟨tb,1,none⟩=some (.string ByteArray.empty):=OwnV.cell hK rfl;have k2:W.cell? ⟨tb,2,none⟩=some (.int .i64 0):=OwnV.cell hK rfl;have k3:W.cell? ⟨tb,3,none⟩=some (.int .i64 L):=OwnV.cell hK rfl;have k4:W.cell? ⟨tb,4,none⟩=some (.int .i64 C):=OwnV.cell hK rfl;have kf:∀ o,W.frozen? ⟨tb,o,none⟩=false:=fun o=>OwnV.free hK o
  have t0:W.cell? ⟨w.heap.size+1,0,none⟩=some (.int .u8 0):=OwnV.cell hT rfl;have t1:W.cell? ⟨w.heap.size+1,1,none⟩=some (.string ByteArray.empty):=OwnV.cell hT rfl;have t2:W.cell? ⟨w.heap.size+1,2,none⟩=some (.int .i64 0):=OwnV.cell hT rfl;have t3:W.cell? ⟨w.heap.size+1,3,none⟩=some (.int .i64 0):=OwnV.cell hT rfl;have t4:W.cell? ⟨w.heap.size+1,4,none⟩=some (.int .i64 0):=OwnV.cell hT rfl;have tf:∀ o,W.frozen? ⟨w.heap.size+1,o,none⟩=false:=fun o=>OwnV.free hT o
  have e0:W.cell? ⟨w.heap.size+1+1,0,none⟩=some (.int .i64 0):=OwnV.cell hE rfl;have ef:W.frozen? ⟨w.heap.size+1+1,0,none⟩=false:=OwnV.free hE 0;have HS:=zh hS;have HX:=zh hX;have HT:=zh hT;have HE:=zh hE;have HK:=zh hK;have HO:=zh hO;clear hS hX hT hE hK hO;have Hpre:=zh hpre;have HDef:=zh hDef;clear hpre hDef;have hx2W:w.heap.size+1+1 < w6.heap.size:=HE6.lt;have hD1:D≠w.heap.size+1:=by omega
  have hD2:D≠w.heap.size+1+1:=by omega
  have hb1:b≠w.heap.size+1:=by omega
  have hb2:b≠w.heap.size+1+1:=by omega
  have hb3:b≠tb:=by omega
  have hg1:w.heap.size≤w.heap.size+1:=by omega
  have hg2:w.heap.size≤w.heap.size+1+1:=by omega
  have hg3:w.heap.size≤tb:=by omega
  have hkt1:tb≠w.heap.size+1:=by omega
  have hkt2:tb≠w.heap.size+1+1:=by omega
  have hkt1':w.heap.size+1≠tb:=by omega
  have hkt2':w.heap.size+1+1≠tb:=by omega
  go_wp2_with fail
  refine zgh rfl rfl ((((((HT.out.set 0 _).set 1 _).set 2 _).set 3 _).set 4 _).set_ne (by omega) _) ((((((HE.out.set_ne (by omega) _).set_ne (by omega) _).set_ne (by omega) _).set_ne (by omega) _).set_ne (by omega) _).set 0 _) ?_ ?_
  ·rw [Below.heap_setCell _ ⟨w.heap.size+1+1,0,none⟩ _ _ hD2,Below.heap_setCell _ ⟨w.heap.size+1,4,none⟩ _ _ hD1,Below.heap_setCell _ ⟨w.heap.size+1,3,none⟩ _ _ hD1,Below.heap_setCell _ ⟨w.heap.size+1,2,none⟩ _ _ hD1,Below.heap_setCell _ ⟨w.heap.size+1,1,none⟩ _ _ hD1,Below.heap_setCell _ ⟨w.heap.size+1,0,none⟩ _ _ hD1];exact HDef.out
  ·obtain ⟨r,hr⟩:=HD.out;have hs:=zmc (all_no Hpre.out);rw [hr] at hs ⊢;rw [zeY Hlet.out Hdig.out,if_pos hs];exact ⟨⟨_,_,_,rfl⟩,(((((((HO.out.setNew hg1 _).setNew hg1 _).setNew hg1 _).setNew hg1 _).setNew hg1 _).setNew hg2 _).grown (grownBy_putObj' _ D _) (fun r e=>by cases e;omega))⟩
 case stop =>
  rintro D c pre W hD hpf ⟨rfl,p,x,rfl,hno,hyes,hS,hT,hE,hO⟩ hDef;refine wpIn_wide.2 ?_;have HS:=zh hS;have HT:=zh hT;have HE:=zh hE;have HO:=zh hO;have HDef:=zh hDef;have Hf:=zh (zk9 x.isLt hyes (pre_no hpf hno));clear hS hT hE hO hDef hno hyes hpf;go_wp2_with fail
  refine zgh rfl rfl HT.out HE.out HDef.out ?_;obtain ⟨r,hr⟩:=HD.out;have hs:=Hf.out;rw [hr] at hs ⊢;rw [zeY Hlet.out Hdig.out,if_neg hs.2.1,hs.2.2.1];have hr2:∀ r,some D=some r→∃ o:Obj,W.heap[r]? = some o∧o.isCells=false:=fun r e=>by cases e;exact ⟨_,HDef.out,rfl⟩
  exact ⟨rfl,HS.out.ofNon (grownBy_putObj' W D _) hr2,HO.out.grown (grownBy_putObj' W D _) (fun r e=>by cases e;omega)⟩
end Go.Proofs.YtoaojdobjinhfaaGreatDoor
