/- The reference's Fits and the statement PatchFits, walked. -/
import Derived.Test.YtdhikpkecmaplaaGreatDoorAwSMk
set_option linter.unusedSimpArgs false
set_option linter.unusedVariables false
set_option maxRecDepth 100000
set_option maxHeartbeats 4000000
namespace Go.Proofs.YtdhikpkecmaplaaGreatDoor
open Go.RowKit

def bitOk (r m d x : BitVec 32) (k : Nat) : Bool := !(m.getLsbD k && !x.getLsbD k) && !((r.getLsbD k && !x.getLsbD k) && !d.getLsbD k)
theorem sub_bits (x y:BitVec 32):(x &&& ~~~y)=0 ↔ ∀ k,k < 32->x.getLsbD k=true->y.getLsbD k=true:=by
 constructor
 ·intro h k hk hx;have:=congrArg (fun z=>z.getLsbD k) h;simp only [BitVec.getLsbD_and,BitVec.getLsbD_not,hx,hk,decide_true,Bool.true_and] at this;simpa using this
 ·intro h;apply BitVec.eq_of_getLsbD_eq;intro k hk;simp only [BitVec.getLsbD_and,BitVec.getLsbD_not,hk,decide_true,Bool.true_and];cases hx:x.getLsbD k
  ·simp
  ·simp [h k hk hx]
theorem fits_bits (r m:BitVec 32) (y:Sys):zn9 r m y=true ↔ ∀ k,k < 32->bitOk r m y.rd y.wr k=true:=by
 unfold zn9 bitOk;rw [Bool.and_eq_true,beq_iff_eq,beq_iff_eq,sub_bits,sub_bits];constructor
 ·rintro ⟨h1,h2⟩ k hk;have a:=h1 k hk;have b:=h2 k hk;rw [BitVec.getLsbD_or] at a;revert a b;cases r.getLsbD k <;> cases m.getLsbD k <;> cases y.rd.getLsbD k <;> cases y.wr.getLsbD k <;> simp
 ·intro h;refine ⟨fun k hk=>?_,fun k hk=>?_⟩ <;> have a:=h k hk <;> revert a
  ·rw [BitVec.getLsbD_or];cases r.getLsbD k <;> cases m.getLsbD k <;> cases y.rd.getLsbD k <;> cases y.wr.getLsbD k <;> simp
  ·cases r.getLsbD k <;> cases m.getLsbD k <;> cases y.rd.getLsbD k <;> cases y.wr.getLsbD k <;> simp
def bI (b : Bool) : Int := if b then 1 else 0
theorem bit_int (x:BitVec 32) (k:Nat):(w32 x / 2 ^ k).tmod 2=bI (x.getLsbD k):=by
 unfold w32 bI;rw [BitVec.getLsbD,Nat.testBit_eq_decide_div_mod_eq,show ((x.toNat:Int) / 2 ^ k)=((x.toNat / 2 ^ k:Nat):Int) by simp];rw [show ((x.toNat / 2 ^ k:Nat):Int).tmod 2=((x.toNat / 2 ^ k % 2:Nat):Int) from rfl];have:=Nat.mod_two_eq_zero_or_one (x.toNat / 2 ^ k);rcases this with h | h <;> rw [h] <;> rfl
theorem bit_step {r m d x:BitVec 32} {k:Nat} (h:∀ j,j < k->bitOk r m d x j=true) (hk:bitOk r m d x k=true):∀ j,j < k+1->bitOk r m d x j=true:=fun j hj=>by
 rcases Nat.lt_succ_iff_lt_or_eq.1 hj with h1 | h1
 ·exact h j h1
 ·rw [h1];exact hk
theorem rfits_any (P:ProgS) (y:Sys) (vc:Value) (w:World) (hv:∃ a k cap,vc=.slice a k cap) :
  Calls Tryz.prog 30 #[zow P vc,y.val] w (zbe (zn9 P.reads P.writes y) w):=by
 obtain ⟨a,kk,cap,rfl⟩:=hv;obtain ⟨c,n,r,m⟩:=P;obtain ⟨n2,r2,w2,p2⟩:=y;unfold Sys.val zow;simp only;obtain ⟨W0,hW0,hb0,hX,hY,hs0⟩:=zqb w [.slice a kk cap,.int .i64 n,.int .u32 (w32 r),.int .u32 (w32 m)] [.string n2,.int .u32 (w32 r2),.int .u32 (w32 w2),.int .i64 p2] 73 61;have HW0:=zh hW0;have HX:=zh hX;have HY:=zh hY;have Hb0:=zh hb0;obtain ⟨final,hfin⟩:∃ q,zn9 r m ⟨n2,r2,w2,p2⟩=q:=⟨_,rfl⟩;have HF:Hid (final=true ↔ _):=zh (hfin ▸ fits_bits r m ⟨n2,r2,w2,p2⟩);rw [hfin];clear hW0 hX hY hb0 hfin;go_enter Tryz.func30,Tryz.ntmps30
 go_upto_region 1 with (fail)
 rw [<- HW0.out];go_wp2_with fail
 go_loopw [4,5,6,7,8,9,10,11,12,13,14,15,16,17,18,19,20,21,22,23,24,25,26,27,28,29,30,31,32,33,34,35,36,37,38,39,40,41,42,43,44,45] (fun _ t5 _ _ _ _ _ _ _ _ _ _ _ _ _ _ _ _ _ _ _ _ _ _ _ _ _ _ _ _ _ _ _ _ _ _ _ _ _ _ _ _ wr=>∃ k:Nat,k<=32/\t5=.int .i64 k/\Hid (Below W0.heap.size W0 wr)/\Hid (∀ j,j < k->bitOk r m r2 w2 j=true)) (fun _ t5 _ _ _ _ _ _ _ _ _ _ _ _ _ _ _ _ _ _ _ _ _ _ _ _ _ _ _ _ _ _ _ _ _ _ _ _ _ _ _ _ _=>32 - (intOf t5).toNat)
 case atStart=>exact ⟨0,by omega,by first | rfl | go_num,zh (Below.refl _ _),zh (fun j h=>by omega)⟩
 case round =>
  obtain ⟨k,hk,rfl,HB,HK⟩:=hrel;have Hbe:=zh (Hb0.out.trans (HB.out.mono Hb0.out.size));by_cases hkl:k < 32
  ·have hki:(k:Int) < 32:=by omega
   have x2:=(HX.out.below HB.out (zr _)).cell (i:=2) rfl;have x3:=(HX.out.below HB.out (zr _)).cell (i:=3) rfl;have y1:=(HY.out.below HB.out (zr _)).cell (i:=1) rfl;have y2:=(HY.out.below HB.out (zr _)).cell (i:=2) rfl;have gr:=bit_int r k;have gm:=bit_int m k;have gd:=bit_int r2 k;have gx:=bit_int w2 k;have Hok:Hid (bitOk r m r2 w2 k=(!(m.getLsbD k && !w2.getLsbD k) && !((r.getLsbD k && !w2.getLsbD k) && !r2.getLsbD k))):=zh rfl
   have Hno:Hid (bitOk r m r2 w2 k=false->final=false):=zh (fun h=>by
    cases final
    ·rfl
    ·rw [HF.out.1 rfl k hkl] at h;cases h)
   generalize r.getLsbD k=br at *
   generalize m.getLsbD k=bm at *
   generalize r2.getLsbD k=bd at *
   generalize w2.getLsbD k=bx at *
   cases br <;> cases bm <;> cases bd <;> cases bx
   all_goals
    simp only [bI,if_true,if_false,Bool.false_eq_true] at gr gm gd gx;go_wp2_with fail
    first | (go_ret;exact ⟨retb (a:=false) (Hno.out Hok.out).symm,Hbe.out⟩) | go_roundw
   all_goals first | exact ⟨k+1,by omega,by go_num,HB,zh (bit_step HK.out Hok.out)⟩ | (simp [intOf];omega)
  ·have hki:¬ (k:Int) < 32:=by omega
   have hke:k=32:=by omega
   have Hf:Hid (final=true):=zh (HF.out.2 (fun j hj=>HK.out j (by omega)));clear hke;go_wp2_with fail
   go_ret;exact ⟨retb (a:=true) Hf.out.symm,Hbe.out⟩
theorem given_ret {tmps:Array Value} {w:World} {g:Nat} {a b c d:Value} (h:tmps[2]?.getD undef=.pointer (some ⟨g,0,none⟩)) (H:OwnV w g 73 [a,b,c,d]) :
  (results Tryz.f31 tmps).run Tryz.prog w=.ok (.agg #[a,b,c,d]) w:=by
 obtain ⟨b0,b1,b2,b3⟩:=yc4 H;simp [results,Tryz.results31,go_sem,h,b0,b1,b2,b3]
theorem given_none (r m:BitVec 32) (w:World):Calls Tryz.prog 31 #[.agg #[.slice none 0 0,.int .i64 0,.int .u32 (w32 r),.int .u32 (w32 m)]] w fun e w'=>e=.returned (.agg #[.slice none 0 0,.int .i64 0,.int .u32 (w32 r),.int .u32 (w32 m)])/\Below w.heap.size w w':=by
 go_enter Tryz.func31,Tryz.ntmps31
 go_wp2_with fail
 go_loopw [4,12,13,14,15,16,17,18,19,20,21,22,23,24,25,26,27,28,29,30,31,32,33,34,35,36] (fun t4 _ _ _ _ _ _ _ _ _ _ _ _ _ _ _ _ _ _ _ _ _ _ _ _ _ wr=>t4=.int .i64 0/\Hid (OwnV wr w.heap.size 59 [.slice none 0 0,.int .i64 0,.int .u32 (w32 r),.int .u32 (w32 m)])/\Hid (OwnV wr (w.heap.size+1) 73 [.slice none 0 0,.int .i64 0,.int .u32 0,.int .u32 0])/\Hid (OwnV wr (w.heap.size+1+1) 73 [.slice none 0 0,.int .i64 0,.int .u32 (w32 r),.int .u32 (w32 m)])/\Hid (Below w.heap.size w wr)) (fun _ _ _ _ _ _ _ _ _ _ _ _ _ _ _ _ _ _ _ _ _ _ _ _ _ _ _=>0)
 case atStart=>exact ⟨rfl,zh (((OwnV.new _ _ [_,_,_,_]).alloc _).alloc _),zh ((OwnV.newAt (by simp) _ [_,_,_,_]).alloc _),zh (OwnV.newAt (by simp) _ [_,_,_,_]),zh ((((Below.refl _ _).alloc (zr _) _).alloc (by simp) _).alloc (by simp;omega) _)⟩
 case round =>
  obtain ⟨rfl,H0,H1,H2,HB⟩:=hrel;have x0:=H0.out.cell (i:=0) rfl;obtain ⟨z0,z1,z2,z3⟩:=yc4 H1.out;have zf:=H1.out.free;obtain ⟨y0,y1,y2,y3⟩:=yc4 H2.out;go_wp2_with fail
  exact bodyPost_ret (given_ret rfl ((((H1.out.set 0 _).set 1 _).set 2 _).set 3 _)) rfl ⟨rfl,(((HB.out.setCell (by simp) _).setCell (by simp) _).setCell (by simp) _).setCell (by simp) _⟩
theorem patchFits_any {w:World} (hG:Glob w) (r m:BitVec 32) (y:Sys):Calls Tryz.prog 5 #[.int .u32 (w32 r),.int .u32 (w32 m),y.val] w (zbe true w):=by
 have HF:=zh (fun W=>zoR ⟨[],0,r,m⟩ y (.slice none 0 0) W ⟨_,_,_,rfl⟩);have HR:=zh (fun W=>rfits_any ⟨[],0,r,m⟩ y (.slice none 0 0) W ⟨_,_,_,rfl⟩);have HV:=zh (fun W=>given_none r m W);obtain ⟨q,hq⟩:∃ q,zn9 r m y=q:=⟨_,rfl⟩;obtain ⟨nm,rd,wr,pg⟩:=y;unfold Sys.val zow at HF HR;simp only [hq] at HF HR;unfold Sys.val;obtain ⟨W0,hW0,hb0,hY,hX,hs0⟩:=zqb w [.string nm,.int .u32 (w32 rd),.int .u32 (w32 wr),.int .i64 pg] [.slice none 0 0,.int .i64 0,.int .u32 (w32 r),.int .u32 (w32 m)] 61 59;have HA:=zh (fun W (hb:Below W0.heap.size W0 W)=>zqE ((hG.below hb0 hG.size).below hb (Nat.le_trans hG.size hb0.size)));have HW0:=zh hW0;have Hb0:=zh hb0;have HX:=zh hX;have HY:=zh hY;clear hG hq hW0 hb0 hX hY;go_enter Tryz.func5,Tryz.ntmps5
 go_upto_region 2 with (fail)
 rw [<- HW0.out];obtain ⟨y0,y1,y2,y3⟩:=yc4 HY.out;obtain ⟨x0,x1,x2,x3⟩:=yc4 HX.out;refine zac (fun w'=>Below W0.heap.size W0 w') (by kernel_rfl) (by kernel_rfl) ((Below.refl _ _).drew) ?_
 repeat
  try simp only [Act.put,zs1,zs3,zs2]
  apply stepsSeq.cons
  ·intro w' hb1;have Hb1':=zh hb1;have x0':=Below.keep hb1 x0;have x1':=Below.keep hb1 x1;have x2':=Below.keep hb1 x2;have x3':=Below.keep hb1 x3;have y0':=Below.keep hb1 y0;have y1':=Below.keep hb1 y1;have y2':=Below.keep hb1 y2;have y3':=Below.keep hb1 y3;simp only [Act.put,zs1,zs3,zs2];go_wp2_with (first | (go_at_call 26;refine (HF.out _).mono ?_;rintro e2 w2 ⟨rfl,hb2⟩) | (go_at_call 31;refine (HV.out _).mono ?_;rintro e2 w2 ⟨rfl,hb2⟩) | (go_at_call 30;refine (HR.out _).mono ?_;rintro e2 w2 ⟨rfl,hb2⟩) | (go_at_call 13;refine (HA.out _ (by exact Hb1'.out)).mono ?_;rintro e2 w2 ⟨rfl,hb2⟩))
   first | exact ⟨rfl,Hb1'.out⟩ | exact ⟨rfl,Hb1'.out.trans (hb2.mono Hb1'.out.size)⟩
 try simp only [Act.put,zs1,zs3,zs2]
 refine stepsSeq.nil ?_;intro w' hb1;have Hb1:=zh (Hb0.out.trans (hb1.mono Hb0.out.size));clear hb1 x0 x1 x2 x3 y0 y1 y2 y3;go_wp2_with fail
 go_ret;exact ⟨rfl,Hb1.out⟩
end Go.Proofs.YtdhikpkecmaplaaGreatDoor
