/- The laws of patch: small, and Same of two books that are the same, walked. -/
import Derived.Test.YtdhikpkecmaplaaGreatDoorAwSMk
import Derived.Test.YtdhikpkecmaplaaGreatDoorBookMSk
set_option linter.unusedSimpArgs false
set_option linter.unusedVariables false
set_option maxRecDepth 100000
set_option maxHeartbeats 4000000
namespace Go.Proofs.YtdhikpkecmaplaaGreatDoor
open Go.RowKit

theorem samePts_any {w:World} {l:List Pt} {v u:Value} (h1:Pts w l v) (h2:Pts w l u):Calls Tryz.prog 32 #[v,u] w (zbe true w):=by
 obtain ⟨a,ca,rfl,hca1,hca2⟩:=h1.form;obtain ⟨b,cb,rfl,hcb1,hcb2⟩:=h2.form;have H1:=zh h1;have H2:=zh h2;clear h1 h2;go_enter Tryz.func32,Tryz.ntmps32
 go_wp2_with fail
 go_loopw [4,5,11,12,13,14,15,16,17,18,19,20,21,22,23,24,25] (fun _ t5 _ _ _ _ _ _ _ _ _ _ _ _ _ _ _ wr=>∃ k:Nat,k<=l.length/\t5=.int .i64 k/\Hid (Below w.heap.size w wr)) (fun _ t5 _ _ _ _ _ _ _ _ _ _ _ _ _ _ _ _=>l.length - (intOf t5).toNat)
 case atStart=>exact ⟨0,by omega,by first | rfl | go_num,zh (Below.refl _ _)⟩
 case round =>
  obtain ⟨k,hk,rfl,HB⟩:=hrel;by_cases hkl:k < l.length
  ·have hki:(k:Int) < (l.length:Int):=by omega
   have hcl:(l.length:Int)<=9223372036854775807:=by omega
   obtain ⟨g1,o1,rfl,hg1,hc1⟩:=(H1.out.below HB.out (zr _)).at (by omega);obtain ⟨g2,o2,rfl,hg2,hc2⟩:=(H2.out.below HB.out (zr _)).at (by omega);have c:=hc1 k hkl;have d:=hc2 k hkl;obtain ⟨c0,c1,c2⟩:=c;obtain ⟨d0,d1,d2⟩:=d;clear hc1 hc2;go_wp2_with fail
   refine zac (DrewOf _) (by kernel_rfl) (by kernel_rfl) (DrewOf.start _) ?_
   repeat
    try simp only [Act.put,zs1,zs3,zs2]
    apply stepsSeq.cons
    ·rintro w' ⟨nq,rfl⟩;simp only [Act.put,zs1,zs3,zs2];go_wp2_with (fail)
     first | exact ⟨rfl,nq,rfl⟩ | exact ⟨rfl,nq,(World.drewN_drewN _ _ _).symm⟩ | exact ⟨rfl,nq,by simp⟩
   try simp only [Act.put,zs1,zs3,zs2]
   refine stepsSeq.nil ?_;rintro w' ⟨nq,rfl⟩;go_wp2_with fail
   go_roundw
   case rel=>exact ⟨k+1,by omega,by go_num,zh (HB.out.trans (c:=wr.drewN nq) ⟨rfl,rfl,rfl,zr _,fun _ _=>rfl⟩)⟩
   case measure=>simp [intOf];omega
  ·have hki:¬ (k:Int) < (l.length:Int):=by omega
   go_wp2_with fail
   go_ret;exact ⟨rfl,HB.out⟩
theorem sameTxt_any {w:World} {l:List (List UInt8)} {v u:Value} (h1:Strs w l v) (h2:Strs w l u):Calls Tryz.prog 24 #[v,u] w (zbe true w):=by
 obtain ⟨a,ca,rfl,hca1,hca2⟩:=h1.form;obtain ⟨b,cb,rfl,hcb1,hcb2⟩:=h2.form;have H1:=zh h1;have H2:=zh h2;clear h1 h2;go_enter Tryz.func24,Tryz.ntmps24
 go_wp2_with fail
 go_loopw [4,5,11,12,13,14,15,16,17,18,19,20,21,22,23,24,25] (fun _ t5 _ _ _ _ _ _ _ _ _ _ _ _ _ _ _ wr=>∃ k:Nat,k<=l.length/\t5=.int .i64 k/\Hid (Below w.heap.size w wr)) (fun _ t5 _ _ _ _ _ _ _ _ _ _ _ _ _ _ _ _=>l.length - (intOf t5).toNat)
 case atStart=>exact ⟨0,by omega,by first | rfl | go_num,zh (Below.refl _ _)⟩
 case round =>
  obtain ⟨k,hk,rfl,HB⟩:=hrel;by_cases hkl:k < l.length
  ·have hki:(k:Int) < (l.length:Int):=by omega
   have hcl:(l.length:Int)<=9223372036854775807:=by omega
   obtain ⟨g1,o1,rfl,hg1,hc1⟩:=(Strs.low H1.out HB.out (zr _)).here (by omega);obtain ⟨g2,o2,rfl,hg2,hc2⟩:=(Strs.low H2.out HB.out (zr _)).here (by omega);have c:=hc1 k hkl;have d:=hc2 k hkl;skip
   clear hc1 hc2;go_wp2_with fail
   refine zac (DrewOf _) (by kernel_rfl) (by kernel_rfl) (DrewOf.start _) ?_
   repeat
    try simp only [Act.put,zs1,zs3,zs2]
    apply stepsSeq.cons
    ·rintro w' ⟨nq,rfl⟩;simp only [Act.put,zs1,zs3,zs2];go_wp2_with (fail)
     first | exact ⟨rfl,nq,rfl⟩ | exact ⟨rfl,nq,(World.drewN_drewN _ _ _).symm⟩ | exact ⟨rfl,nq,by simp⟩
   try simp only [Act.put,zs1,zs3,zs2]
   refine stepsSeq.nil ?_;rintro w' ⟨nq,rfl⟩;go_wp2_with fail
   go_roundw
   case rel=>exact ⟨k+1,by omega,by go_num,zh (HB.out.trans (c:=wr.drewN nq) ⟨rfl,rfl,rfl,zr _,fun _ _=>rfl⟩)⟩
   case measure=>simp [intOf];omega
  ·have hki:¬ (k:Int) < (l.length:Int):=by omega
   go_wp2_with fail
   go_ret;exact ⟨rfl,HB.out⟩
theorem sameSys_any {w:World} {l:List Sys} {v u:Value} (h1:Syss w l v) (h2:Syss w l u):Calls Tryz.prog 25 #[v,u] w (zbe true w):=by
 obtain ⟨a,ca,rfl,hca1,hca2⟩:=h1.form;obtain ⟨b,cb,rfl,hcb1,hcb2⟩:=h2.form;have H1:=zh h1;have H2:=zh h2;clear h1 h2;go_enter Tryz.func25,Tryz.ntmps25
 go_wp2_with fail
 go_loopw [4,5,11,12,13,14,15,16,17,18,19,20,21,22,23,24,25] (fun _ t5 _ _ _ _ _ _ _ _ _ _ _ _ _ _ _ wr=>∃ k:Nat,k<=l.length/\t5=.int .i64 k/\Hid (Below w.heap.size w wr)) (fun _ t5 _ _ _ _ _ _ _ _ _ _ _ _ _ _ _ _=>l.length - (intOf t5).toNat)
 case atStart=>exact ⟨0,by omega,by first | rfl | go_num,zh (Below.refl _ _)⟩
 case round =>
  obtain ⟨k,hk,rfl,HB⟩:=hrel;by_cases hkl:k < l.length
  ·have hki:(k:Int) < (l.length:Int):=by omega
   have hcl:(l.length:Int)<=9223372036854775807:=by omega
   obtain ⟨g1,o1,rfl,hg1,hc1⟩:=(Syss.below H1.out HB.out (zr _)).at hkl;obtain ⟨g2,o2,rfl,hg2,hc2⟩:=(Syss.below H2.out HB.out (zr _)).at hkl;have c:=hc1 k hkl;have d:=hc2 k hkl;obtain ⟨c0,c1,c2,c3⟩:=c;obtain ⟨d0,d1,d2,d3⟩:=d;clear hc1 hc2;go_wp2_with fail
   refine zac (DrewOf _) (by kernel_rfl) (by kernel_rfl) (DrewOf.start _) ?_
   repeat
    try simp only [Act.put,zs1,zs3,zs2]
    apply stepsSeq.cons
    ·rintro w' ⟨nq,rfl⟩;simp only [Act.put,zs1,zs3,zs2];go_wp2_with (fail)
     first | exact ⟨rfl,nq,rfl⟩ | exact ⟨rfl,nq,(World.drewN_drewN _ _ _).symm⟩ | exact ⟨rfl,nq,by simp⟩
   try simp only [Act.put,zs1,zs3,zs2]
   refine stepsSeq.nil ?_;rintro w' ⟨nq,rfl⟩;go_wp2_with fail
   go_roundw
   case rel=>exact ⟨k+1,by omega,by go_num,zh (HB.out.trans (c:=wr.drewN nq) ⟨rfl,rfl,rfl,zr _,fun _ _=>rfl⟩)⟩
   case measure=>simp [intOf];omega
  ·have hki:¬ (k:Int) < (l.length:Int):=by omega
   go_wp2_with fail
   go_ret;exact ⟨rfl,HB.out⟩
theorem sameBk_any {w:World} {ys:List Sys} {b:Bk} {vs vc vp us uc up:Value} {B B':Nat} (h1:BkIn B w ys b vs vc vp) (h2:BkIn B' w ys b us uc up):Calls Tryz.prog 21 #[bkV b vs vc vp,bkV b us uc up] w (zbe true w):=by
 have HS:=zh (fun W (hb:Below w.heap.size w W)=>sameSys_any (Syss.below h1.sys hb (zr _)) (Syss.below h2.sys hb (zr _)));have HT:=zh (fun W (hb:Below w.heap.size w W)=>sameTxt_any (Strs.low h1.scr hb (zr _)) (Strs.low h2.scr hb (zr _)));have HP:=zh (fun W (hb:Below w.heap.size w W)=>samePts_any (h1.pend.below hb (zr _)) (h2.pend.below hb (zr _)));clear h1 h2;obtain ⟨W0,hW0,hb0,hX,hY,hs0⟩:=zqb w [.int .i64 b.tick,vs,vc,vp] [.int .i64 b.tick,us,uc,up] 26 26;have HW0:=zh hW0;have HX:=zh hX;have HY:=zh hY;have Hb0:=zh hb0;obtain ⟨x0,x1⟩:=yc2 hX;obtain ⟨y0,y1⟩:=yc2 hY;clear hW0 hb0 hX hY;unfold bkV;go_enter Tryz.func21,Tryz.ntmps21
 go_upto_region 1 with (fail)
 rw [<- HW0.out];go_wp2_with fail
 refine (HS.out _ Hb0.out).mono ?_;rintro e1 w1 ⟨rfl,hb1⟩;have Hb1:=zh (Hb0.out.trans (hb1.mono Hb0.out.size));have HX1:=zh (HX.out.below hb1 (zr _));have HY1:=zh (HY.out.below hb1 (zr _));clear hb1 x0 x1 y0 y1;have x2:=HX1.out.cell (i:=2) rfl;have y2:=HY1.out.cell (i:=2) rfl;go_wp2_with fail
 refine (HT.out _ Hb1.out).mono ?_;rintro e2 w2 ⟨rfl,hb2⟩;have Hb2:=zh (Hb1.out.trans (hb2.mono Hb1.out.size));have x3:=(HX1.out.below hb2 (zr _)).cell (i:=3) rfl;have y3:=(HY1.out.below hb2 (zr _)).cell (i:=3) rfl;clear hb2 x2 y2;go_wp2_with fail
 refine (HP.out _ Hb2.out).mono ?_;rintro e3 w3 ⟨rfl,hb3⟩;have Hb3:=zh (Hb2.out.trans (hb3.mono Hb2.out.size));clear hb3 x3 y3;go_wp2_with fail
 go_ret;exact ⟨rfl,Hb3.out⟩
def SmallE (a b c : Nat) (e : Ending) : Prop := ∃ q : Bool, e = .returned (.bool q) /\ (q = true -> a <= 20 /\ b <= 20 /\ c <= 40)
theorem small_any {w:World} {ys:List Sys} {b:Bk} {vs vc vp:Value} {B:Nat} (hB:B<=w.heap.size) (h:BkIn B w ys b vs vc vp) (hOk:BkOk ys b):Calls Tryz.prog 14 #[bkV b vs vc vp] w fun e w'=>SmallE ys.length b.scr.length b.pend.length e/\Below w.heap.size w w':=by
 obtain ⟨ay,cs,rfl,hcs1,hcs2⟩:=h.sys.form;obtain ⟨ac,cc,rfl,hcc1,hcc2⟩:=h.scr.form;obtain ⟨ap,cp,rfl,hcp1,hcp2⟩:=h.pend.form;have H:=zh h;obtain ⟨W0,hW0,hb0,hX,hs0⟩:=box1 w [.int .i64 b.tick,.slice ay ys.length cs,.slice ac b.scr.length cc,.slice ap b.pend.length cp] 26;have HW0:=zh hW0;have HX:=zh hX;have Hb0:=zh hb0;have HC:Hid (Strs W0 b.scr (.slice ac b.scr.length cc)):=zh (Strs.low h.scr hb0 (zr _));have HP:Hid (Pts W0 b.pend (.slice ap b.pend.length cp)):=zh (h.pend.below hb0 (zr _));unfold bkV;clear h H hW0 hb0 hX;go_enter Tryz.func14,Tryz.ntmps14
 go_upto_region 1 with (fail)
 rw [<- HW0.out];go_wp2_with fail
 go_loopw [3,4,6,7,8,9,10,11,12,13,14,15,16,17,18,19,20] (fun t3 t4 _ _ _ _ _ _ _ _ _ _ _ _ _ _ _ wr=>∃ (k:Nat) (z:Int),k<=b.scr.length/\t4=.int .i64 k/\t3=.int .i64 z/\Hid (Below W0.heap.size W0 wr)) (fun _ t4 _ _ _ _ _ _ _ _ _ _ _ _ _ _ _ _=>b.scr.length - (intOf t4).toNat)
 case atStart=>exact ⟨0,0,by omega,by first | rfl | go_num,by first | rfl | go_num,zh (Below.refl _ _)⟩
 case round =>
  obtain ⟨k,z,hk,rfl,rfl,HB⟩:=hrel;have x2:=(HX.out.below HB.out (zr _)).cell (i:=2) rfl;by_cases hkl:k < b.scr.length
  ·have hki:(k:Int) < (b.scr.length:Int):=by omega
   have hcl:(b.scr.length:Int)<=9223372036854775807:=by omega
   obtain ⟨g1,o1,rfl,hg1,hc1⟩:=(Strs.low HC.out HB.out (zr _)).here (by omega);have c:=hc1 k hkl;clear hc1;go_wp2_with fail
   go_roundw
   case rel=>exact ⟨k+1,_,by omega,by go_num,rfl,HB⟩
   case measure=>simp [intOf];omega
  ·have hki:¬ (k:Int) < (b.scr.length:Int):=by omega
   go_wp2_with fail
   go_loopw [3,5,21,22,23,24,25,26,27,28,29,30,31,32,33,34,35,36] (fun t3 t5 _ _ _ _ _ _ _ _ _ _ _ _ _ _ _ _ wr=>∃ (k:Nat) (z:Int),k<=b.pend.length/\t5=.int .i64 k/\t3=.int .i64 z/\Hid (Below W0.heap.size W0 wr)) (fun _ t5 _ _ _ _ _ _ _ _ _ _ _ _ _ _ _ _ _=>b.pend.length - (intOf t5).toNat)
   case atStart=>exact ⟨0,z,by omega,by first | rfl | go_num,by first | rfl | go_num,HB⟩
   case round =>
    clear HB hk hkl hki x2;obtain ⟨k,z,hk,rfl,rfl,HB⟩:=hrel;have x3:=(HX.out.below HB.out (zr _)).cell (i:=3) rfl;by_cases hkl:k < b.pend.length
    ·have hki:(k:Int) < (b.pend.length:Int):=by omega
     have hcl:(b.pend.length:Int)<=9223372036854775807:=by omega
     obtain ⟨g1,o1,rfl,hg1,hc1⟩:=(HP.out.below HB.out (zr _)).at (by omega);obtain ⟨c0,c1,c2⟩:=hc1 k hkl;clear hc1;go_wp2_with fail
     go_roundw
     case rel=>exact ⟨k+1,_,by omega,by go_num,rfl,HB⟩
     case measure=>simp [intOf];omega
    ·have hki:¬ (k:Int) < (b.pend.length:Int):=by omega
     have x1:=(HX.out.below HB.out (zr _)).cell (i:=1) rfl;have x2:=(HX.out.below HB.out (zr _)).cell (i:=2) rfl;have Hbe:=zh (Hb0.out.trans (HB.out.mono Hb0.out.size));by_cases h1:(ys.length:Int)<=20
     all_goals by_cases h2:(b.scr.length:Int)<=20
     all_goals by_cases h3:(b.pend.length:Int)<=40
     all_goals by_cases h4:z<=6000
     all_goals
      go_wp2_with fail
      go_ret;exact ⟨⟨_,rfl,fun h=>by first | exact ⟨by omega,by omega,by omega⟩ | cases h⟩,Hbe.out⟩

theorem run_append_row3 {P:Program} (W:World) (T ty e:TypeId) (i:TypeInfo) (hu:P.underlying T=some (.slice e)) (hi:P.info? e=some i) (hs:i.size=3) (g n cap:Nat) (ad:Addr) (m c:Nat) (cur:Array Value) (t:TypeId) (cs:List Value)
  (hg:W.heap[g]? = some (.cells cur t (0,0))) (hn:cs.length=m * 3) (hsrc:∀ j v,cs[j]? = some v->W.cell? (ad.add j)=some v) (hroom:n+m<=cap) (hfit:n * 3+cs.length<=cur.size) (h1:∀ v ∈ cs,v.oneCell'=true) :
  (Builtin.append_ #[T,T] ty #[.slice (some ⟨g,0,none⟩) n cap,.slice (some ad) m c]).run P W=.ok (.slice (some ⟨g,0,none⟩) (n+m) cap) (W.setRow g (cur.toList.take (n * 3)++(cs++cur.toList.drop (n * 3+cs.length))).toArray):=by
 have hfc:=run_firstCells_some (P:=P) W 3 m ad m c cs hn hsrc;have hst:=run_storeCells_at P g (n * 3) t cs 0 cur W hg (by omega) h1;simp only [Nat.add_zero,List.append_assoc] at hst;simp [Builtin.append_,run_underlying hu,sizeOf,typeInfo,hi,Builtin.lenOf,hroom,hs,hfc,zoS,hst]
theorem run_clear_row {P:Program} (W:World) (T ty e:TypeId) (z:Value) (hu:P.underlying T=some (.slice e)) (hv:∀ w,(zeroValue e).run P w=.ok z w) (g off c:Nat) (cur:Array Value) (t:TypeId) (cs:List Value) (hz:(Builtin.zeroCells z.cells 1).toList=cs)
  (hg:W.heap[g]? = some (.cells cur t (0,0))) (hfit:off+cs.length<=cur.size) (h1:∀ v ∈ cs,v.oneCell'=true) :
  (Builtin.clear_ #[T] ty #[.slice (some ⟨g,off,none⟩) 1 c]).run P W=.ok (.tuple #[]) (W.setRow g (cur.toList.take off++(cs++cur.toList.drop (off+cs.length))).toArray):=by
 have hst:=run_storeCells_at P g off t cs 0 cur W hg (by omega) h1;simp only [Nat.add_zero,List.append_assoc] at hst;simp [Builtin.clear_,run_underlying hu,hv,hz,hst]
theorem step_append_runI {P:Program} {ops:Array Oper} {o:Oper} {a:Act} {w:World} {K:Act->World->Prop} {Q:Exit->Act->World->Prop} {E:Prop}
  (hg:o.guard=none) (d x:Operand) (dT sT:TypeId) (hop:o.op=Op.call { callee:=Callee.builtin Builtin.append,args:=#[d,x],argTypes:=#[dT,sT] })
  (v u:Value) (hd:a.eval d=v) (hx:a.eval x=u) {v':Value} {w':World} (hr:(Builtin.append_ #[dT,sT] o.type #[v,u]).run P w=.ok v' w') (hK:K (a.put o.dst v') w') :
  if Region.wanted o (yielded ops a.tmps)=true then Oper.wp P o a w K Q else E:=by
 have hw:Region.wanted o (yielded ops a.tmps)=true:=by simp [Region.wanted,hg]
 rw [if_pos hw];unfold Oper.wp;simp [execOp,hop,resolve,invoke,builtin,hd,hx,hr,Result.andThen];exact hK
def zeroP3 : List Value := [.int .i64 0, .int .i64 0, .string { data := #[] }]
theorem cut_plain {A X D R:List Value} (Z:List Value) (hX:X.length=3) (hZ:Z.length=3) :
  ((A++(X++(D++R))).take A.length++(D++(A++(X++(D++R))).drop (A.length+D.length))).take (A.length+D.length)=A++D:=by
 rw [List.take_left,<- List.append_assoc,<- List.length_append,List.take_left]
theorem cut_len {A X D R:List Value} (hX:X.length=3):((A++(X++(D++R))).take A.length++(D++(A++(X++(D++R))).drop (A.length+D.length))).length=(A++(X++(D++R))).length:=by
 rw [List.take_left];simp only [List.length_append,List.length_drop];omega
theorem cellsP_cut (l:List Pt) (i:Nat) (h:i < l.length):znD l=znD (l.take i)++(l[i].cells++znD (l.drop (i+1))):=by
 have e:l=l.take i++l[i] :: l.drop (i+1):=by rw [List.getElem_cons_drop,List.take_append_drop]
 calc znD l=znD (l.take i++l[i] :: l.drop (i+1)):=by rw [<- e]
  _=_:=by rw [zox];rfl
theorem delete_at {w:World} {B g cap i:Nat} {l:List Pt} {cur:Array Value} (hg:w.heap[g]? = some (.cells cur 32 (0,0))) (hBg:B<=g) (hBw:B<=w.heap.size) (hcap:cap<=maxLen) (hroom:l.length<=cap) (hcs:cur.size=cap * 3) (htake:cur.toList.take (l.length * 3)=znD l) (hi:i < l.length) (hl:l.length<=1000) :
  Calls Tryz.prog 59 #[.slice (some ⟨g,0,none⟩) l.length cap,.int .i64 i,.int .i64 ((i:Int)+1)] w fun e w'=>(∃ v',e=.returned v'/\w'.ownsRow B 32 3 v' (l.take i++l.drop (i+1)).length (znD (l.take i++l.drop (i+1))))/\Below B w w'/\w.grownBy w' (some g):=by
 have hT:=Tryz.underlying24;obtain ⟨i0,hi0,hz0,hzs,hzb⟩:=info_parts zpt;have hlen2:(l.take i++l.drop (i+1)).length=l.length - 1:=by rw [List.length_append,List.length_take,List.length_drop];omega
 rw [hlen2];obtain ⟨A,hA⟩:∃ A,A=znD (l.take i):=⟨_,rfl⟩;obtain ⟨D,hD⟩:∃ D,D=znD (l.drop (i+1)):=⟨_,rfl⟩;obtain ⟨X,hX⟩:∃ X,X=l[i].cells:=⟨_,rfl⟩;have hAl:A.length=i * 3:=by rw [hA,znR,List.length_take];congr 1;omega
 have hDl:D.length=(l.length - (i+1)) * 3:=by rw [hD,znR,List.length_drop]
 have hXl:X.length=3:=by rw [hX];rfl
 have hAD:znD l=A++(X++D):=by rw [hA,hD,hX];exact cellsP_cut l i hi
 obtain ⟨R,hR⟩:∃ R,R=cur.toList.drop (l.length * 3):=⟨_,rfl⟩
 have hcur:cur.toList=A++(X++(D++R)):=by
  have:cur.toList=znD l++R:=by rw [<- htake,hR,List.take_append_drop]
  rw [this,hAD];simp only [List.append_assoc]
 have hcl:cur.toList.length=cap * 3:=by simp [hcs]
 have hRl:A.length+(3+(D.length+R.length))=cap * 3:=by rw [<- hcl,hcur];simp only [List.length_append,hXl]
 have hD1:∀ v ∈ D,v.oneCell'=true:=fun v hv=>by rw [hD] at hv;exact List.all_eq_true.1 (zpq _) v hv
 have hcell:∀ j v,cur.toList[j]? = some v->w.cell? ⟨g,j,none⟩=some v:=fun j v hj=>by simp [World.cell?,hg];simpa using hj
 obtain ⟨cur1,hcur1⟩:∃ c,c=(cur.toList.take (i * 3)++(D++cur.toList.drop (i * 3+D.length))).toArray:=⟨_,rfl⟩;have hc1:cur1.toList=(A++(X++(D++R))).take A.length++(D++(A++(X++(D++R))).drop (A.length+D.length)):=by rw [hcur1,hcur,hAl]
 have hc1s:cur1.size=cap * 3:=by
  have:cur1.toList.length=cap * 3:=by rw [hc1,cut_len hXl,<- hcur,hcl]
  simpa using this
 obtain ⟨ad,had,hsrc⟩:∃ ad:Addr,(if cap=i+1 then (some ⟨g,0,none⟩:Option Addr) else some ⟨g,(i+1) * 3,none⟩)=some ad/\Hid (∀ (W:World),W.heap=w.heap->∀ j v,D[j]? = some v->W.cell? (ad.add j)=some v):=by
  by_cases h:cap=i+1
  ·refine ⟨⟨g,0,none⟩,by simp [h],fun W _ j v hj=>?_⟩;have h0:D.length=0:=by rw [hDl];omega
   rw [List.length_eq_zero_iff.1 h0] at hj;simp at hj
  ·refine ⟨⟨g,(i+1) * 3,none⟩,by simp [h],fun W hW j v hj=>?_⟩;have hjl:=(List.getElem?_eq_some_iff.1 hj).1;rw [zoS]
   have:=hcell ((i+1) * 3+j) v (by
    rw [hcur,List.getElem?_append_right (by omega),List.getElem?_append_right (by omega),show (i+1) * 3+j - A.length - X.length=j by omega,List.getElem?_append_left hjl];exact hj)
   unfold World.cell? at this ⊢;rw [hW];exact this
 have hap:∀ (W:World),W.heap=w.heap->∀ ty c,(Builtin.append_ #[24,24] ty #[.slice (some ⟨g,0,none⟩) i cap,.slice (some ad) (l.length - (i+1)) c]).run Tryz.prog W=.ok (.slice (some ⟨g,0,none⟩) (i+(l.length - (i+1))) cap) (W.setRow g cur1):=fun W hW ty c=>by
  rw [hcur1];exact run_append_row3 W _ ty 32 i0 hT hi0 hzs g i cap ad (l.length - (i+1)) c cur 32 D (by rw [hW];exact hg) hDl (hsrc.out W hW) (by omega) (by omega) hD1
 obtain ⟨cur2,hcur2⟩:∃ c,c=(cur1.toList.take ((i+(l.length - (i+1))) * 3)++(zeroP3++cur1.toList.drop ((i+(l.length - (i+1))) * 3+zeroP3.length))).toArray:=⟨_,rfl⟩
 have hc2s:cur2.size=cap * 3:=by
  rw [hcur2];have:cur1.toList.length=cap * 3:=by simp [hc1s]
  simp only [List.size_toArray,List.length_append,List.length_take,List.length_drop,this,show zeroP3.length=3 from rfl];omega
 have hfin:cur2.toList.take ((l.length - 1) * 3)=A++D:=by
  have e1:(i+(l.length - (i+1))) * 3=A.length+D.length:=by omega
  have e2:(l.length - 1) * 3=A.length+D.length:=by omega
  have e3:(cur1.toList.take (A.length+D.length)).length=A.length+D.length:=by
   rw [List.length_take];have:cur1.toList.length=cap * 3:=by simp [hc1s]
   omega
  rw [hcur2,e1,e2];simp only [List.toList_toArray];have:=List.take_left' (l₂:=zeroP3++cur1.toList.drop (A.length+D.length+zeroP3.length)) e3;rw [this,hc1];exact cut_plain zeroP3 hXl rfl
 have hzv:∀ w,(zeroValue 32).run Tryz.prog w=.ok (.agg #[.int .i64 0,.int .i64 0,.string { data:=#[] }]) w:=fun w=>by simp [zeroValue,typeInfo,hi0,hz0,go_sem]
 have hclr:∀ (W:World),W.heap=(w.setRow g cur1).heap->∀ ty c k,k=1->(Builtin.clear_ #[24] ty #[.slice (some ⟨g,(i+(l.length - (i+1))) * 3,none⟩) k c]).run Tryz.prog W=.ok (.tuple #[]) (W.setRow g cur2):=fun W hW ty c k hk=>by
  subst hk;rw [hcur2]
  exact run_clear_row W _ ty 32 _ hT hzv g _ c cur1 32 zeroP3 (by kernel_rfl) (by rw [hW];exact setRow_heap w g _ _ _ _ hg) (by rw [show zeroP3.length=3 from rfl];omega) (fun v hv=>by
   simp only [zeroP3,List.mem_cons,List.not_mem_nil,or_false] at hv
   rcases hv with rfl | rfl | rfl <;> rfl)
 have Hfin:=zh hfin;have HA:=zh hA;have HD:=zh hD;have Hg:=zh hg;have Hap:=zh hap;have Hclr:=zh hclr;have Hc2:=zh hc2s;have Hcap:=zh hcap;have Hl2:=zh hlen2;clear hfin hcur2 hc2s hcur1 hcur hc1 hc1s hR hA hD hX hAD htake hAl hDl hXl hRl hcs hcl hcell hD1 hsrc hap hclr hzv hg hcap hz0 hzs hzb hi0 hlen2
 generalize hnl:l.length=n at *
 have Hn:=zh hnl;clear hnl;have hz2:¬ ((i:Int)=(i:Int)+1):=by omega
 have hb1:(0:Int)<=(i:Int)+1:=by omega
 have hb2:(i:Int)+1<=(n:Int):=by omega
 have hb3:(n:Int)<=(cap:Int):=by omega
 have hb4:(i:Int)<=(n:Int):=by omega
 have hb5:(i:Int)<=(i:Int)+1:=by omega
 have hb6:((i:Int)+1).toNat=i+1:=by omega
 have hb7:¬ (cap=i+(n - (i+1))):=by omega
 have hb8:(i:Int)<=(cap:Int):=by omega
 have hb9:(i:Int)+1<=(cap:Int):=by omega
 go_enter Tryz.func59,Tryz.ntmps59
 have mixed:Tryz.prog.follows .mixedOrders=true:=by kernel_rfl
 go_wp2_with fail
 go_region_law_o (refine step_append_runI rfl (.tmp 22) (.tmp 25) 24 24 rfl (.slice (some ⟨g,0,none⟩) i cap) (.slice (some ad) (n - (i+1)) (cap - (i+1))) (by simp [Act.eval,Act.put]) (by simp [Act.eval,Act.put]) (Hap.out w.drew rfl _ _) ?_)
 have hc1:∀ ty c,(Builtin.clear_ #[24] ty #[.slice (some ⟨g,(i+(n - (i+1))) * 3,none⟩) (n - (i+(n - (i+1)))) c]).run Tryz.prog (w.drew.setRow g cur1)=.ok (.tuple #[]) ((w.drew.setRow g cur1).setRow g cur2):=fun ty c=>Hclr.out (w.drew.setRow g cur1) rfl ty c _ (by omega)
 go_wp2_with fail
 go_ret;refine ⟨⟨_,rfl,?_⟩,?_,?_⟩
 ·have hnl:=Hn.out;have e1:i+(n - (i+1))=n - 1:=by omega
  rw [e1];refine ⟨by rw [znR,Hl2.out],.inr ⟨g,cap,cur2,rfl,hBg,setRow_heap _ g cur1 _ _ _ (setRow_heap _ g cur _ _ _ Hg.out),by omega,Hcap.out,Hc2.out,?_⟩⟩;rw [Hfin.out,HA.out,HD.out,<- zox]
 ·exact Below.trans (b:=w.drew.setRow g cur1) (zoG (Below.refl B w).drew hBg _) (zoG (Below.refl B _) hBg _)
 ·exact zpK (b:=w.drew.setRow g cur1) (zpK (b:=w.drew) ⟨rfl,rfl,rfl,zr _,fun _ _ _=>rfl⟩ (zpJ w.drew g cur1)) (zpJ _ g cur2)
theorem delete_any {w:World} {B:Nat} {l:List Pt} {v:Value} (hown:w.ownsRow B 32 3 v l.length (znD l)) (hBw:B<=w.heap.size) (hl:l.length<=1000) {i:Nat} (hi:i < l.length) :
  Calls Tryz.prog 59 #[v,.int .i64 i,.int .i64 ((i:Int)+1)] w fun e w'=>(∃ v',e=.returned v'/\w'.ownsRow B 32 3 v' (l.take i++l.drop (i+1)).length (znD (l.take i++l.drop (i+1))))/\Below B w w'/\w.grownBy w' v.ownBlock:=by
 obtain ⟨h1,h2⟩:=hown;rcases h2 with ⟨rfl,h0⟩ | ⟨g,cap,cur,rfl,hg,hh,hn,hm,hs,ht⟩
 ·omega
 ·exact delete_at hh hg hBw hm hn hs ht hi hl

theorem erase_at {α:Type} {q:α->Bool}:∀ (l:List α) (k:Nat) (h:k < l.length),q l[k]=true->(l.take k).any q=false->l.take k++l.drop (k+1)=l.eraseP q:=by
 intro l
 induction l with
 | nil=>intro k h;simp at h
 | cons x r ih =>
  intro k h h1 h2
  cases k with
  | zero=>rw [List.eraseP_cons_of_pos (by exact h1)];rfl
  | succ k =>
   rw [List.take_succ_cons,List.any_cons,Bool.or_eq_false_iff] at h2;rw [List.take_succ_cons,List.drop_succ_cons,List.eraseP_cons_of_neg (by rw [h2.1];decide),List.cons_append];congr 1
   exact ih k (by simpa using h) (by simpa using h1) h2.2
def WdE (w w' : World) (ys : List Sys) (e : Ending) : Option Bk × Int -> Prop
  | (none, x) => e = .returned (.tuple #[zor, .int .i64 x]) /\ x ≠ 0
  | (some c, _) => ∃ us uc up, e = .returned (.tuple #[bkV c us uc up, .int .i64 0]) /\ BkOwn w.heap.size w' ys c us uc up
theorem wd_bad {base:Nat->Bool} {R:Int->List UInt8->Bool} {b:Bk} {p:Pt} (h:znM base R b=false):withdrawB base R b p=(none,2):=if_pos h
theorem wd_none {base:Nat->Bool} {R:Int->List UInt8->Bool} {b:Bk} {p:Pt} (h:znM base R b=true) (g:(b.pend.any fun x=>x.same p)=false):withdrawB base R b p=(none,6):=by
 unfold withdrawB;rw [if_neg (by rw [h];decide),if_pos g]
theorem wd_ok {base:Nat->Bool} {R:Int->List UInt8->Bool} {b:Bk} {p:Pt} (h:znM base R b=true) (g:(b.pend.any fun x=>x.same p)=true):withdrawB base R b p=(some { b with pend:=b.pend.eraseP fun x=>x.same p },0):=by
 unfold withdrawB;rw [if_neg (by rw [h];decide),if_neg (by rw [g];decide)]
theorem withdraw_any {w:World} {ys:List Sys} {b:Bk} {p:Pt} {vs vc vp:Value} (hG:Glob w) (hOk:BkOk ys b) (hB:BkIn w.heap.size w ys b vs vc vp) :
  Calls Tryz.prog 19 #[bkV b vs vc vp,.int .i64 p.tick,.int .i64 p.slot] w fun e w'=>WdE w w' ys e (withdrawB (znI ys) (rOf (errE ys)) b p)/\Below w.heap.size w w':=by
 obtain ⟨ay,cs,rfl,hcs1,hcs2⟩:=hB.sys.form;obtain ⟨ac,cc,rfl,hcc1,hcc2⟩:=hB.scr.form;obtain ⟨ap,cp,rfl,hcp1,hcp2⟩:=hB.pend.form;obtain ⟨W0,hW0,hb0,hX,hU,hs0⟩:=zqb w [.int .i64 b.tick,.slice ay ys.length cs,.slice ac b.scr.length cc,.slice ap b.pend.length cp] [.int .i64 0,.slice none 0 0,.slice none 0 0,.slice none 0 0] 26 26;have hs0a:W0.heap.size<=w.heap.size+2:=by omega
 have hs0b:w.heap.size+2<=W0.heap.size:=by omega
 clear hs0;have HVa:=zh (zri (hG.below hb0 hG.size) hOk ((hB.below hb0).mono (by omega)));have HB0:Hid (BkIn w.heap.size W0 ys b (.slice ay ys.length cs) (.slice ac b.scr.length cc) (.slice ap b.pend.length cp)):=zh (hB.below hb0);have HF:=zh (fun (W:World) (h:BkIn w.heap.size W ys b (.slice ay ys.length cs) (.slice ac b.scr.length cc) (.slice ap b.pend.length cp))=>zr7 (w:=W) (tick:=p.tick) (slot:=p.slot) (t:=b.tick) h.pend (Sl.isSl h.scr) (Sl.isSl h.sys) p.src);unfold bkV at HVa ⊢;obtain ⟨q,hq⟩:∃ q,znM (znI ys) (rOf (errE ys)) b=q:=⟨_,rfl⟩;have Hq:=zh hq;rw [hq] at HVa;obtain ⟨final,hfin⟩:∃ r,withdrawB (znI ys) (rOf (errE ys)) b p=r:=⟨_,rfl⟩;have Hfin:=zh hfin;rw [hfin];obtain ⟨x0,x1,x2,x3⟩:=yc4 hX;have HX:=zh hX;have HU:=zh hU;have Hb0:=zh hb0;have HW0:=zh hW0;clear hq hfin hG hOk hB hX hU hb0 hW0;go_enter Tryz.func19,Tryz.ntmps19
 go_upto_region 1 with (fail)
 rw [<- HW0.out];go_wp2_with fail
 go_at_call 15;refine HVa.out.mono ?_;rintro e1 w1 ⟨rfl,hb1⟩;have hs1:=hb1.size;have HX1:=zh (HX.out.below hb1 (zr _));have HU1:=zh (HU.out.below hb1 (zr _));have HB1:=zh (HB0.out.below (hb1.mono (by omega)));have Hb1:=zh (Hb0.out.trans (hb1.mono (by omega)));clear hb1 HX HU HB0 HVa x0 x1 x2 x3
 cases q with
 | false =>
  have Hf:Hid (final=(none,2)):=zh (by rw [<- Hfin.out];exact wd_bad Hq.out);obtain ⟨u0,u1,u2,u3⟩:=yc4 HU1.out;have uf:=HU1.out.free;obtain ⟨W9,hW9,hX9,hg9⟩:=set4 HU1.out (.int .i64 0) (.slice none 0 0) (.slice none 0 0) (.slice none 0 0);have HX9:=zh hX9;have HW9:=zh hW9;have Hb9:=zh (Hb1.out.trans (zbz (B:=w.heap.size) hg9 (by omega) (by omega)));clear hX9 hW9 hg9 Hfin Hq;go_wp2_with fail
  rw [<- HW9.out];obtain ⟨q0,q1,q2,q3⟩:=yc4 HX9.out;refine bodyPost_ret (v:=.tuple #[zor,.int .i64 2]) (by simp [results,Tryz.results19,go_sem,q0,q1,q2,q3,zor]) rfl ⟨?_,Hb9.out⟩;rw [Hf.out]
  exact ⟨rfl,by decide⟩
 | true =>
 obtain ⟨x0,x1,x2,x3⟩:=yc4 HX1.out;go_wp2_with fail
 go_at_call 53;refine (HF.out _ HB1.out).mono ?_;rintro e2 w2 ⟨⟨i,rfl,hi⟩,hb2⟩;have hs2:=hb2.size;have HX2:=zh (HX1.out.below hb2 (zr _));have HU2:=zh (HU1.out.below hb2 (zr _));have HB2:=zh (HB1.out.below (hb2.mono (by omega)));have Hb2:=zh (Hb1.out.trans (hb2.mono (by omega)));clear hb2 HX1 HU1 HB1 HF x0 x1 x2 x3 Hb1;rcases hi with ⟨rfl,hany⟩ | ⟨k,hk,rfl,hq1,hq2⟩
 ·have Hf:Hid (final=(none,6)):=zh (by rw [<- Hfin.out];exact wd_none Hq.out hany);obtain ⟨u0,u1,u2,u3⟩:=yc4 HU2.out;have uf:=HU2.out.free;obtain ⟨W9,hW9,hX9,hg9⟩:=set4 HU2.out (.int .i64 0) (.slice none 0 0) (.slice none 0 0) (.slice none 0 0);have HX9:=zh hX9;have HW9:=zh hW9;have Hb9:=zh (Hb2.out.trans (zbz (B:=w.heap.size) hg9 (by omega) (by omega)));clear hX9 hW9 hg9 Hfin Hq hany;go_wp2_with fail
  rw [<- HW9.out];obtain ⟨q0,q1,q2,q3⟩:=yc4 HX9.out;refine bodyPost_ret (v:=.tuple #[zor,.int .i64 6]) (by simp [results,Tryz.results19,go_sem,q0,q1,q2,q3,zor]) rfl ⟨?_,Hb9.out⟩;rw [Hf.out];exact ⟨rfl,by decide⟩
 ·have hany:(b.pend.any fun x=>x.same p)=true:=List.any_eq_true.2 ⟨b.pend[k],List.getElem_mem hk,hq1⟩;have HE:Hid (b.pend.take k++b.pend.drop (k+1)=b.pend.eraseP fun x=>x.same p):=zh (erase_at b.pend k hk hq1 hq2);have Hf:Hid (final=(some { b with pend:=b.pend.eraseP fun x=>x.same p },0)):=zh (by rw [<- Hfin.out];exact wd_ok Hq.out hany);have hv:=valid_iff.1 Hq.out;have hy16:=zph hv.sys;have hv1:=hv.many;have hv2:=hv.room;have HOw:=zh (zrn (HB2.out.mono (by omega)) (zr _) (by omega) (by omega) (by omega));unfold bkV at HOw;obtain ⟨x0,x1,x2,x3⟩:=yc4 HX2.out;have hk0:¬ (k:Int) < 0:=by omega
  clear Hfin Hq hv hany hq1 hq2;go_wp2_with fail
  go_at_call 55;refine HOw.out.mono ?_;rintro e5 w5 ⟨⟨us,uc,up,rfl,hO5⟩,hb5⟩;obtain ⟨a5,k5,rfl,-,-⟩:=Sl.form (Sl.of_own hO5.sys);obtain ⟨a6,k6,rfl,-,-⟩:=Sl.form (Sl.of_own hO5.scr);obtain ⟨a7,k7,rfl,-,-⟩:=Sl.form (Sl.of_own hO5.pend);have hs5:=hb5.size;have hbx:=HX2.out.below hb5 (zr _);obtain ⟨b0,b1,b2,b3⟩:=yc4 hbx;have bf:=hbx.free;obtain ⟨W6,hW6,hX6,hg6⟩:=set4 hbx (.int .i64 b.tick) (.slice a5 ys.length k5) (.slice a6 b.scr.length k6) (.slice a7 b.pend.length k7);have ho6:Only (fun k=>k=w.heap.size) w5 W6:=Only.of_grown hg6 (fun r e=>by cases e;rfl);have hs6:=ho6.size
  have HO6:Hid (BkOwn w2.heap.size W6 ys b (.slice a5 ys.length k5) (.slice a6 b.scr.length k6) (.slice a7 b.pend.length k7)):=zh
   ⟨ho6.row hO5.sys (fun g hg e=>by have:=(hO5.sys.lt g hg).1;omega),ho6.row hO5.scr (fun g hg e=>by have:=(hO5.scr.lt g hg).1;omega),ho6.row hO5.pend (fun g hg e=>by have:=(hO5.pend.lt g hg).1;omega)⟩
  have HX6:=zh hX6;have HU6:=zh (ho6.own (HU2.out.below hb5 (zr _)) (by omega));have Hb6:=zh (Hb2.out.trans ((hb5.mono (by omega)).trans (ho6.below (B:=w.heap.size) (fun k e=>by omega) (by omega))));have HW6:=zh hW6;clear hb5 hbx hO5 hW6 hX6 hg6 ho6 HU2 Hb2 x0 x1 x2 x3 HOw HX2;go_upto_region 7 with (fail)
  rw [<- HW6.out];clear b0 b1 b2 b3 bf;have HD:=zh (delete_any HO6.out.pend (by omega) (by omega) hk);have x3:=HX6.out.cell (i:=3) rfl;have hkw:IntKind.i64.wrap ((k:Int)+1)=(k:Int)+1:=by rw [IntKind.wrap_i64];omega
  go_wp2_with fail
  go_at_call 59;refine HD.out.mono ?_;rintro e9 w9 ⟨⟨v9,rfl,ho9⟩,hb9,hg9⟩;rw [HE.out] at ho9;obtain ⟨a9,k9,rfl,-,-⟩:=Sl.form (Sl.of_own ho9);have hs9:=hb9.size;have hX9:=zo8 HX6.out hg9 (fun e=>by have:=(HO6.out.pend.lt _ e).1;omega);have hU9:=zo8 HU6.out hg9 (fun e=>by have:=(HO6.out.pend.lt _ e).1;omega);have hS9:=zn3 hg9 HO6.out.sys (zpd HO6.out.sys HO6.out.pend (by decide));have hC9:=zn3 hg9 HO6.out.scr (zpd HO6.out.scr HO6.out.pend (by decide));have b3:=hX9.cell (i:=3) rfl;have bf:=hX9.free;obtain ⟨N,hN⟩:∃ N,(b.pend.eraseP fun x=>x.same p).length=N:=⟨_,rfl⟩;have HN:=zh hN;rw [hN] at ho9 ⊢;obtain ⟨W10,hW10,hX10,ho10⟩:∃ W10,W10=w9.setCell ⟨w.heap.size,3,none⟩ (.slice a9 N k9)/\OwnV W10 w.heap.size 26 [.int .i64 b.tick,.slice a5 ys.length k5,.slice a6 b.scr.length k6,.slice a9 N k9]/\Only (fun k=>k=w.heap.size) w9 W10:=⟨_,rfl,hX9.set 3 _,(Only.refl (fun k=>k=w.heap.size) w9).setIn rfl _⟩;have hs10:=ho10.size;have hb10:=Hb6.out.trans ((hb9.mono (by omega)).trans (ho10.below (B:=w.heap.size) (fun k e=>by omega) (by omega)));have hr1:=ho10.row hS9 (fun g hg e=>by have:=(hS9.lt g hg).1;omega);have hr2:=ho10.row hC9 (fun g hg e=>by have:=(hC9.lt g hg).1;omega);have hr3:=ho10.row ho9 (fun g hg e=>by have:=(ho9.lt g hg).1;omega);have hU10:=ho10.own hU9 (by omega);have HW10:=zh hW10;have HX10:=zh hX10;clear hW10 ho10 hb9 hg9 hS9 hC9 ho9 hX9 hU9 hX10 x3 hN;go_upto_region 8 with (fail)
  rw [<- HW10.out];clear b3 bf;obtain ⟨b0,b1,b2,b3⟩:=yc4 HX10.out;obtain ⟨u0,u1,u2,u3⟩:=yc4 hU10;have uf:=hU10.free;obtain ⟨W11,hW11,hU11,hg11⟩:=set4 hU10 (.int .i64 b.tick) (.slice a5 ys.length k5) (.slice a6 b.scr.length k6) (.slice a9 N k9);have ho11:Only (fun k=>k=w.heap.size+1) W10 W11:=Only.of_grown hg11 (fun r e=>by cases e;rfl);have Hr1:=zh (znE (ho11.row hr1 (fun g hg e=>by have:=(hr1.lt g hg).1;omega)) (B':=w.heap.size) (by omega));have Hr2:=zh (znE (ho11.row hr2 (fun g hg e=>by have:=(hr2.lt g hg).1;omega)) (B':=w.heap.size) (by omega));have Hr3:=zh (znE (ho11.row hr3 (fun g hg e=>by have:=(hr3.lt g hg).1;omega)) (B':=w.heap.size) (by omega));have Hb11:=zh (hb10.trans (ho11.below (B:=w.heap.size) (fun k e=>by omega) (by omega)));have HW11:=zh hW11;have HU11:=zh hU11;clear hW11 hU11 hb10 hg11 ho11 hr1 hr2 hr3 hU10;go_wp2_with fail
  rw [<- HW11.out];obtain ⟨q0,q1,q2,q3⟩:=yc4 HU11.out;refine bodyPost_ret (v:=.tuple #[.agg #[.int .i64 b.tick,.slice a5 ys.length k5,.slice a6 b.scr.length k6,.slice a9 N k9],.int .i64 0]) (by simp [results,Tryz.results19,go_sem,q0,q1,q2,q3]) rfl ⟨?_,Hb11.out⟩;rw [Hf.out];exact ⟨_,_,_,rfl,Hr1.out,Hr2.out,by rw [show (Bk.pend _).length=N from HN.out];exact Hr3.out⟩

theorem sl_nil (w:World) (sz:Nat):Sl w sz 0 [] (.slice none 0 0):=⟨none,0,rfl,zr _,by decide,(Nat.zero_mul _).symm,fun hn=>absurd hn (Nat.lt_irrefl 0)⟩
theorem zero_in (w:World) (B:Nat):BkIn B w [] ⟨0,[],[]⟩ (.slice none 0 0) (.slice none 0 0) (.slice none 0 0):=⟨sl_nil w 4,sl_nil w 1,sl_nil w 3,.inl rfl,.inl rfl,.inl rfl⟩
theorem same_zero (w:World):Calls Tryz.prog 21 #[zor,zor] w (zbe true w):=by
 have h:=sameBk_any (b:=⟨0,[],[]⟩) (zero_in w 0) (zero_in w 0);unfold bkV at h;exact h

theorem copyTxt_any {w:World} {l:List (List UInt8)} {v:Value} (h:Strs w l v) (hl:l.length<=1000000) :
  Calls Tryz.prog 16 #[v] w fun e w'=>(∃ v',e=.returned v'/\w'.ownsRow w.heap.size 9 1 v' l.length (l.map fun s=>Value.string (bstr s)))/\Below w.heap.size w w':=by
 have Hall:Hid ((l.map fun s=>Value.string (bstr s)).all (fun u=>u.oneCell')=true):=zh (zsK l);have HS:Hid (Sl w 1 l.length (l.map fun s=>Value.string (bstr s)) v):=zh h;obtain ⟨a,cap,rfl,hc1,hc2⟩:=Sl.form h;have HO:Hid (w.ownsRow w.heap.size 9 1 (.slice none 0 0) 0 []):=zh (World.ownsRow_nil _ _ _ _)
 generalize hcs:(l.map fun s=>Value.string (bstr s))=cs at *
 generalize hn:l.length=n at *
 clear h hcs hn;go_enter Tryz.func16,Tryz.ntmps16
 go_wp2_with (at_builtin;refine zn0 rfl (.tmp 4) (.tmp 5) 23 rfl HO.out zsT Tryz.underlying23 rfl (by decide) rfl HS.out rfl Hall.out (by unfold maxLen;omega) (by omega) (zr _) ?_;intro v0 w0 hown0 hg0 hb0 hat0;have Hown:=zh hown0;have Hb0:=zh hb0;clear hown0 hg0 hb0 hat0)
 go_ret;have ho:=Hown.out;rw [Nat.zero_add,List.nil_append] at ho;exact ⟨⟨_,rfl,ho⟩,Hb0.out⟩
theorem own_off {w:World} {g:Nat} {e:TypeId} {vs:List Value} (h:OwnV w g e vs) {B:Nat} {e':TypeId} {s n:Nat} {v:Value} {xs:List Value} (k:w.ownsRow B e' s v n xs) (hne:e≠e'):∀ g',v.ownBlock=some g'->¬ g'=g:=by
 rintro g' hg' rfl;rcases k.2 with ⟨rfl,_⟩ | ⟨g2,c2,cur2,rfl,_,kk,_⟩
 ·cases hg'
 ·have e2:g2=g':=by simpa [Value.ownBlock] using hg'
  subst e2;unfold OwnV at h;rw [h] at kk;cases kk;exact hne rfl

theorem apply_ok {P:List UInt8->Prop}:∀ (l:List Pt) (s:List (List UInt8)),(∀ p ∈ l,P p.src)->(∀ x ∈ s,P x)->∀ x ∈ zn4 s l,P x
  | [],_,_,h=>h
  | p :: r, s, hp, h => apply_ok r _ (fun q hq => hp q (List.mem_cons_of_mem _ hq)) (fun x hx => by
      rcases List.mem_or_eq_of_mem_set hx with h1 | h1
      · exact h x h1
      · rw [h1];exact hp p (List.mem_cons_self ..))
theorem adv_bkok {ys:List Sys} {b:Bk} {t:Int} (h:BkOk ys b) (ht:okI t):BkOk ys (advB t b):=
 ⟨h.sys,ht,apply_ok _ _ (fun p hp=>(h.pend p ((List.takeWhile_sublist _).subset hp)).2.2) h.scr,fun p hp=>h.pend p ((List.dropWhile_sublist _).subset hp)⟩
end Go.Proofs.YtdhikpkecmaplaaGreatDoor
