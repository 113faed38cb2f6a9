/- ParseSmall: written, walked. -/
import Derived.Test.YtoaojdobjinhfaaGreatDoorSmGQz
set_option linter.unusedSimpArgs false
set_option linter.unusedVariables false
set_option maxRecDepth 100000
set_option maxHeartbeats 16000000
namespace Go.Proofs.YtoaojdobjinhfaaGreatDoor
open Go.RowKit
theorem leaf2_new(w:World):∃W,W=(w.alloc (.cells #[.int .u8 1,.int .i64 1,.string { data:=#[] },.slice none 0 0] 29)).alloc (.cells #[.int .u8 2,.int .i64 0,.string { data:=#[97] },.slice none 0 0] 29)/\Leaf2 w W:=by
 obtain⟨d,f,j,g⟩:=newbox w 29 oneV;obtain⟨i,g1,g2,g3⟩:=newbox d 29 nameV;have l:d.heap.size=w.heap.size+1:=by rw[f];simp
 refine⟨i,by rw[g1,f];rfl,j.below g3 (zr _),by rw[<-l];exact g2,g.trans (g3.mono g.size)⟩
def Inner (w : World) (g b r : Nat) (W : World) : Prop := Leaf2 w W /\ OwnV W g 29 (nameV ++ oneV) /\ OwnV W b 29 [.int .u8 r, .int .i64 0, .string { data := #[] }, .slice (some ⟨g, 0, none⟩) 2 2]
theorem Inner.below{w W f:World}{g b r:Nat}(h:Inner w g b r W)(d:Below W.heap.size W f):Inner w g b r f:=⟨h.1.below d,h.2.1.below d (zr _),h.2.2.below d (zr _)⟩
theorem inner_new{w d:World}(h:Leaf2 w d)(r:Nat):∃W,W=(d.alloc (.cells #[.int .u8 2,.int .i64 0,.string { data:=#[97] },.slice none 0 0,.int .u8 1,.int .i64 1,.string { data:=#[] },.slice none 0 0] 29)).alloc (.cells #[.int .u8 r,.int .i64 0,.string { data:=#[] },.slice (some ⟨d.heap.size,0,none⟩) 2 2] 29)/\Inner w d.heap.size (d.heap.size+1) r W:=by
 obtain⟨f,g,j,l⟩:=newbox d 29 (nameV++oneV);obtain⟨i,g1,g2,g3⟩:=newbox f 29 [.int .u8 r,.int .i64 0,.string { data:=#[] },.slice (some ⟨d.heap.size,0,none⟩) 2 2];have m:f.heap.size=d.heap.size+1:=by rw[g];simp
 exact⟨i,by rw[g1,g];rfl,(h.below l).below g3,j.below g3 (zr _),by rw[<-m];exact g2⟩
def InY (w : World) (g b r y m : Nat) (n : Int) (W : World) : Prop := Inner w g b r W /\ OwnV W y 29 [.int .u8 r, .int .i64 n, .string { data := #[] }, .slice (some ⟨g, 0, none⟩) m 2]
theorem inY_put{w W4:World}{g b r y m:Nat}{e:TypeId}(h:Inner w g b r W4)(q:OwnV W4 y 29 [.int .u8 r,.int .i64 0,.string { data:=#[] },.slice (some ⟨g,0,none⟩) 2 2])(A:w.heap.size+1<y)(j:g≠y)(l:b≠y)(n a c d:Int):InY w g b r y m n (((W4.setCell ⟨y,3,none⟩ (.slice (some ⟨g,0,none⟩) m 2)).setCell ⟨y,1,none⟩ (.int .i64 n)).alloc (.cells #[.int .i64 a,.int .i64 c,.int .i64 d] e)):=by
 obtain⟨⟨i1,i2,u⟩,v,z⟩:=h;have f:Only (fun k=>k=y) W4 ((W4.setCell ⟨y,3,none⟩ (.slice (some ⟨g,0,none⟩) m 2)).setCell ⟨y,1,none⟩ (.int .i64 n)):=((Only.refl (fun k=>k=y) W4).setIn rfl _).setIn rfl _;refine⟨⟨⟨(f.own i1 (by show ¬w.heap.size=y;omega)).alloc _,(f.own i2 (by show ¬w.heap.size+1=y;omega)).alloc _,?_⟩,(f.own v j).alloc _,(f.own z l).alloc _⟩,((q.set 3 _).set 1 _).alloc _⟩;have i:=(u.setCell (p:=⟨y,3,none⟩) (by show w.heap.size<=y;omega) (.slice (some ⟨g,0,none⟩) m 2)).setCell (p:=⟨y,1,none⟩) (by show w.heap.size<=y;omega) (.int .i64 n);exact i.alloc i.size _
theorem two_new(w:World)(R X:List Value)(e:TypeId):∃W,W=(w.alloc (.cells R.toArray e)).alloc (.cells X.toArray e)/\OwnV W w.heap.size e R/\OwnV W (w.heap.size+1) e X/\Below w.heap.size w W:=by
 obtain⟨d,f,j,g⟩:=newbox w e R;obtain⟨i,g1,g2,g3⟩:=newbox d e X;have l:d.heap.size=w.heap.size+1:=by rw[f];simp
 exact⟨i,by rw[g1,f],j.below g3 (zr _),by rw[<-l];exact g2,g.trans (g3.mono g.size)⟩
theorem four_shows{w W:World}{g b r y m q k A B i:Nat}{n:Int}(v:InY w g b r y m n W)(D:m<=2)(P:n=0∨n=1∨n=11)(T:r<26)(S:q<26)(Q:k<3)(G:∀W,Below w.heap.size w W->Glob W)(E:OwnV W A 29 [.int .u8 r,.int .i64 n,.string { data:=#[] },.slice (some ⟨g,0,none⟩) m 2,.int .u8 1,.int .i64 1,.string { data:=#[] },.slice none 0 0])(F:OwnV W B 29 [.int .u8 r,.int .i64 n,.string { data:=#[] },.slice (some ⟨g,0,none⟩) m 2])(j:OwnV W i 29 [.int .u8 1,.int .i64 1,.string { data:=#[] },.slice none 0 0,.int .u8 r,.int .i64 n,.string { data:=#[] },.slice (some ⟨g,0,none⟩) m 2]) :
  (∀W',Below W.heap.size W W'->Calls Tryz.prog 20 #[.agg #[.int .u8 q,.int .i64 k,.string { data:=#[] },.slice (some ⟨A,0,none⟩) 2 2]] W' (YesE W'))/\(∀W',Below W.heap.size W W'->Calls Tryz.prog 20 #[.agg #[.int .u8 r,.int .i64 n,.string { data:=#[] },.slice (some ⟨g,0,none⟩) m 2]] W' (YesE W'))/\(∀W',Below W.heap.size W W'->Calls Tryz.prog 20 #[.agg #[.int .u8 q,.int .i64 k,.string { data:=#[] },.slice (some ⟨B,0,none⟩) 1 1]] W' (YesE W'))/\(∀W',Below W.heap.size W W'->Calls Tryz.prog 20 #[.agg #[.int .u8 q,.int .i64 k,.string { data:=#[] },.slice (some ⟨i,0,none⟩) 2 2]] W' (YesE W')):=by
 have l:=es_first v.1.2.1 v.1.2.1.lt D;have N:okI n:=by rcases P with rfl|rfl|rfl <;> exact⟨by decide,by decide⟩
 have O:okEs ([nameX,oneX].take m):=by
  have:m=0∨m=1∨m=2:=by omega
  rcases this with rfl|rfl|rfl <;> simp[nameX,oneX,okEs,okE,okI]
 have R:([nameX,oneX].take m).length=m:=by rw[List.length_take];exact Nat.min_eq_left D
 have z:okE (.mk r n [] ([nameX,oneX].take m)):=⟨by omega,N,by decide,O⟩;have C:okE oneX:=⟨by decide,⟨by decide,by decide⟩,by decide,trivial⟩;have f:okI (k:Int):=⟨by omega,by omega⟩;have K:okE (.mk q k [] [.mk r n [] ([nameX,oneX].take m),.mk 1 1 [] []]):=⟨by omega,f,by decide,z,C,trivial⟩;have L:okE (.mk q k [] [.mk r n [] ([nameX,oneX].take m)]):=⟨by omega,f,by decide,z,trivial⟩;have M:okE (.mk q k [] [.mk 1 1 [] [],.mk r n [] ([nameX,oneX].take m)]):=⟨by omega,f,by decide,C,z,trivial⟩;have u:=fun W' (d:Below W.heap.size W W')=>G W' (v.1.1.2.2.trans (d.mono v.1.1.2.2.size))
 have I:=es_two (m1:=[]) (m2:=[]) (a2:=[]) E E.lt l (EsL.nil _ _);have J:=es_one (m1:=[]) F F.lt l;have H:=es_two (m1:=[]) (m2:=[]) (a1:=[]) j j.lt (EsL.nil _ _) l;exact⟨fun W' d=>shows_any (name:=[]) K (I.low d) d.size (u W' d),fun W' d=>shows_any (name:=[]) z (l.low d) d.size (u W' d),fun W' d=>shows_any (name:=[]) L (J.low d) d.size (u W' d),fun W' d=>shows_any (name:=[]) M (H.low d) d.size (u W' d)⟩
theorem st_put{w:World}{p:Nat}{a0 a1 a2 l m a5:Value}(h:OwnV w p 56 [a0,a1,a2,l,m,a5])(d f b2 g i j:Value):∃W,W=(((((w.setCell ⟨p,0,none⟩ d).setCell ⟨p,1,none⟩ f).setCell ⟨p,2,none⟩ b2).setCell ⟨p,3,none⟩ g).setCell ⟨p,4,none⟩ i).setCell ⟨p,5,none⟩ j/\OwnV W p 56 [d,f,b2,g,i,j]/\Only (fun k=>k=p) w W:=
 ⟨_,rfl,(((((h.set 0 _).set 1 _).set 2 _).set 3 _).set 4 _).set 5 _,((((((Only.refl (fun k=>k=p) w).setIn rfl _).setIn rfl _).setIn rfl _).setIn rfl _).setIn rfl _).setIn rfl _⟩
theorem written_any {w:World} (hG:Glob w):Calls Tryz.prog 28 #[] w (YesE w):=by
 have bi:=hG.size;have HG:Hid (∀W,Below w.heap.size w W->Glob W):=zh (fun W hb=>hG.below hb bi);clear hG;go_enter Tryz.func28,Tryz.ntmps28
 obtain⟨W1,aO,aN⟩:=leaf2_new w;have bd:=zh aN;have aC:=zh aO;clear aO aN;go_upto_region 2 with(fail)
 rw[<-aC.out];clear aC;go_wp2_with fail
 go_loopw [0,3,4,5,6,7,8,9,10,17,18,19,20,21,22,23,24,25,26,27,28,29,30,31,32,33,34,35,36,37,38,39,40,41,42,43,44,45,46,47,48,49,50,51,52,53,54,55,56,57,58,59,60,61,62,63,64,65,66,67,68,69,70,71,72,73,74,75,76,77,78,79,80,81,82,83,84,85,86,87] (fun _ t3 _ _ _ _ _ _ _ _ _ _ _ _ _ _ _ _ _ _ _ _ _ _ _ _ _ _ _ _ _ _ _ _ _ _ _ _ _ _ _ _ _ _ _ _ _ _ _ _ _ _ _ _ _ _ _ _ _ _ _ _ _ _ _ _ _ _ _ _ _ _ _ _ _ _ _ _ _ _ wr=>∃i:Nat,i<=676/\t3=.int .i64 i/\Hid (Leaf2 w wr)) (fun _ t3 _ _ _ _ _ _ _ _ _ _ _ _ _ _ _ _ _ _ _ _ _ _ _ _ _ _ _ _ _ _ _ _ _ _ _ _ _ _ _ _ _ _ _ _ _ _ _ _ _ _ _ _ _ _ _ _ _ _ _ _ _ _ _ _ _ _ _ _ _ _ _ _ _ _ _ _ _ _ _=>676-(intOf t3).toNat)
 case atStart=>exact⟨0,by omega,by first|rfl|go_num,bd⟩
 case round =>
  obtain⟨i,hi,rfl,M⟩:=hrel;obtain⟨B,rfl⟩:∃B:World,B=wr:=⟨_,rfl⟩;by_cases L:i<676
  ·have Y:(i:Int) < 676:=by omega
   obtain⟨r,hr,ba⟩:∃r:Nat,(i:Int).tmod 26=(r:Int)/\r<26:=⟨i%26,by rw[Int.tmod_eq_emod_of_nonneg (by omega)];omega,by omega⟩;have br:IntKind.u8.wrap (r:Int)=(r:Int):=by simp[IntKind.wrap,IntKind.bits,IntKind.signed];omega
   obtain⟨x0,x1,x2,x3⟩:=yc4 M.out.1;obtain⟨y0,y1,y2,y3⟩:=yc4 M.out.2.1;obtain⟨W2,aP,aM⟩:=inner_new M.out r;have aD:=zh aP;have bc:=zh aM;have S:=zh L;have aK:=zh (IntWalk.wrap64_in ((i:Int)+1) (by omega));clear aP aM;go_upto_region 6 with(fail)
   rw[<-aD.out];obtain⟨q,hq⟩:∃q:Nat,q=i/26:=⟨_,rfl⟩;have a9:q<26:=by omega
   have Hq:Hid (IntKind.i64.wrap ((i:Int)/26)=(q:Int)):=zh (by rw[IntWalk.i64_in _ (by omega)];omega);have av:Hid (IntKind.u8.wrap (q:Int)=(q:Int)):=zh (by simp[IntKind.wrap,IntKind.bits,IntKind.signed];omega);clear aD hr br x0 x1 x2 x3 y0 y1 y2 y3 hq hi L Y;go_wp2_with fail
   go_loopw [0,5,6,7,8,9,10,28,29,30,31,32,33,34,35,36,37,38,39,40,41,42,43,44,45,46,47,48,49,50,51,52,53,54,55,56,57,58,59,60,61,62,63,64,65,66,67,68,69,70,71,72,73,74,75,76,77,78,79,80,81,82,83,84,85,86,87] (fun _ t5 _ _ _ _ _ _ _ _ _ _ _ _ _ _ _ _ _ _ _ _ _ _ _ _ _ _ _ _ _ _ _ _ _ _ _ _ _ _ _ _ _ _ _ _ _ _ _ _ _ _ _ _ _ _ _ _ _ _ _ _ _ _ _ _ _ wr=>∃m:Nat,m<=3/\t5=.int .i64 m/\Hid (Inner w B.heap.size (B.heap.size+1) r wr)) (fun _ t5 _ _ _ _ _ _ _ _ _ _ _ _ _ _ _ _ _ _ _ _ _ _ _ _ _ _ _ _ _ _ _ _ _ _ _ _ _ _ _ _ _ _ _ _ _ _ _ _ _ _ _ _ _ _ _ _ _ _ _ _ _ _ _ _ _ _=>3-(intOf t5).toNat)
   case atStart=>exact⟨0,by omega,by first|rfl|go_num,bc⟩
   case round =>
    obtain⟨m,hm,rfl,HI⟩:=hrel;by_cases bF:m<=2
    ·have bo:(m:Int)<=2:=by omega
     go_wp2_with fail
     go_loopw [0,6,7,8,9,10,32,33,34,35,36,37,38,39,40,41,42,43,44,45,46,47,48,49,50,51,52,53,54,55,56,57,58,59,60,61,62,63,64,65,66,67,68,69,70,71,72,73,74,75,76,77,78,79,80,81,82,83,84,85,86,87] (fun _ t6 _ _ _ _ _ _ _ _ _ _ _ _ _ _ _ _ _ _ _ _ _ _ _ _ _ _ _ _ _ _ _ _ _ _ _ _ _ _ _ _ _ _ _ _ _ _ _ _ _ _ _ _ _ _ _ _ _ _ _ _ wr=>∃k:Nat,k<=3/\t6=.int .i64 k/\Hid (Inner w B.heap.size (B.heap.size+1) r wr)) (fun _ t6 _ _ _ _ _ _ _ _ _ _ _ _ _ _ _ _ _ _ _ _ _ _ _ _ _ _ _ _ _ _ _ _ _ _ _ _ _ _ _ _ _ _ _ _ _ _ _ _ _ _ _ _ _ _ _ _ _ _ _ _ _=>3-(intOf t6).toNat)
     case atStart=>exact⟨0,by omega,by first|rfl|go_num,HI⟩
     case round =>
      obtain⟨k,hk,rfl,HI⟩:=hrel;obtain⟨wk,rfl⟩:∃wk:World,wk=wr:=⟨_,rfl⟩;by_cases ae:k<3
      ·have az:(k:Int)<3:=by omega
       obtain⟨x0,x1,x2,x3⟩:=yc4 HI.out.2.2;obtain⟨W4,aQ,aU,ay⟩:=newbox wk 29 [.int .u8 r,.int .i64 0,.string { data:=#[] },.slice (some ⟨B.heap.size,0,none⟩) 2 2];have aE:=zh aQ;have K:=zh aU;have bh:=zh ay;have ao:=zh (HI.out.below ay);clear aQ aU ay;go_upto_region 13 with(fail)
       rw[<-aE.out];clear aE x0 x1 x2 x3;have x3:=ao.out.2.2.cell (i:=3) rfl;have y1:=K.out.cell (i:=1) rfl;have y3:=K.out.cell (i:=3) rfl;have yf:=K.out.free;have yl:=K.out.lt;have a7:k=0∨k=1∨k=2:=by omega
       have bE:(0:Int)<=(m:Int):=by omega
       have bn:=M.out.2.1.lt;have bm:=HI.out.2.2.lt;have bj:=HI.out.2.1.lt;go_upto_region 14 with(fail)
       go_cut [] (fun wx=>∃n:Int,(n=0∨n=1∨n=11)/\InY w B.heap.size (B.heap.size+1) r wk.heap.size m n wx)
       case first =>
        have a8:=fun(n a c d:Int) (e:TypeId)=>inY_put (m:=m) (e:=e) ao.out K.out (by omega) (by omega) (by omega) n a c d
        have au:=zh a8;clear a8;rcases a7 with rfl|rfl|rfl
        all_goals
         go_wp2_with fail
         go_meet
         first
          | with_reducible exact⟨0,.inl rfl,au.out _ _ _ _ _⟩
          | with_reducible exact⟨1,.inr (.inl rfl),au.out _ _ _ _ _⟩
          | with_reducible exact⟨11,.inr (.inr rfl),au.out _ _ _ _ _⟩
       case rest =>
        obtain⟨n,hn,hY⟩:=hcut;have HY:=zh hY;clear hY K bh ao x3 y1 y3 yf yl a7 bn bm bj;obtain⟨z0,z1,z2,z3⟩:=yc4 HY.out.2;obtain⟨o0,o1,o2,o3⟩:=yc4 HY.out.1.1.1;obtain⟨W8,hW,hR,z,hb⟩:=two_new wc [.int .u8 r,.int .i64 n,.string { data:=#[] },.slice (some ⟨B.heap.size,0,none⟩) m 2,.int .u8 1,.int .i64 1,.string { data:=#[] },.slice none 0 0] [.int .u8 q,.int .i64 k,.string { data:=#[] },.slice (some ⟨wc.heap.size,0,none⟩) 2 2] 29;have HW:=zh hW;have Q:Hid (InY w B.heap.size (B.heap.size+1) r wk.heap.size m n W8):=zh ⟨HY.out.1.below hb,HY.out.2.below hb (zr _)⟩;have aA:=zh hR;have aq:=zh z;have bw:=zh hb;have aa:=Hq.out;have ab:=av.out;clear hW hR z hb;go_upto_region 16 with(fail)
        rw[<-HW.out];clear HW z0 z1 z2 z3 o0 o1 o2 o3 aa ab;obtain⟨z0,z1,z2,z3⟩:=yc4 Q.out.2;obtain⟨o0,o1,o2,o3⟩:=yc4 Q.out.1.1.1;obtain⟨aw,hW,hR,z,hb⟩:=two_new W8 [.int .u8 r,.int .i64 n,.string { data:=#[] },.slice (some ⟨B.heap.size,0,none⟩) m 2] [.int .u8 q,.int .i64 k,.string { data:=#[] },.slice (some ⟨W8.heap.size,0,none⟩) 1 1] 29;have HW:=zh hW;have D:Hid (InY w B.heap.size (B.heap.size+1) r wk.heap.size m n aw):=zh ⟨Q.out.1.below hb,Q.out.2.below hb (zr _)⟩;have af:=zh hR;have O:=zh z;have ah:=zh hb;have aa:=Hq.out;have ab:=av.out;clear hW hR z hb;go_upto_region 17 with(fail)
        rw[<-HW.out];clear HW z0 z1 z2 z3 o0 o1 o2 o3 aa ab;obtain⟨z0,z1,z2,z3⟩:=yc4 D.out.2;obtain⟨o0,o1,o2,o3⟩:=yc4 D.out.1.1.1;obtain⟨A,hW,hR,z,hb⟩:=two_new aw [.int .u8 1,.int .i64 1,.string { data:=#[] },.slice none 0 0,.int .u8 r,.int .i64 n,.string { data:=#[] },.slice (some ⟨B.heap.size,0,none⟩) m 2] [.int .u8 q,.int .i64 k,.string { data:=#[] },.slice (some ⟨aw.heap.size,0,none⟩) 2 2] 29;have HW:=zh hW;have P:Hid (InY w B.heap.size (B.heap.size+1) r wk.heap.size m n A):=zh ⟨D.out.1.below hb,D.out.2.below hb (zr _)⟩;have ag:=zh hR;have aG:=zh z;have R:=zh hb;have aa:=Hq.out;have ab:=av.out;clear hW hR z hb;go_upto_region 18 with(fail)
        rw[<-HW.out];clear HW z0 z1 z2 z3 o0 o1 o2 o3 aa ab;have Hb:=zh (ah.out.trans (R.out.mono ah.out.size));obtain⟨s1,s2,s3,s4⟩:=four_shows (q:=q) (k:=k) P.out (by omega) hn ba a9 ae HG.out (aA.out.below Hb.out (zr _)) (af.out.below R.out (zr _)) ag.out;have S1:=zh s1;have S2:=zh s2;have S3:=zh s3;have S4:=zh s4;replace aq:=zh (aq.out.below Hb.out (zr _));replace O:=zh (O.out.below R.out (zr _));clear s1 s2 s3 s4 aA af ag HY Q D;obtain⟨c0,c1,c2,c3⟩:=yc4 (aq.out.below (yR A.heap.size A) (zr _));go_wp2_with fail
        refine(S1.out _ (by exact yR _ _)).mono ?_;rintro ax bs⟨rfl,aj⟩;have H:Hid (Below A.heap.size A bs):=zh aj;clear aj c0 c1 c2 c3 S1;obtain⟨c0,c1,c2,c3⟩:=yc4 (P.out.2.below H.out (zr _));go_wp2_with fail
        refine(S2.out _ (by exact H.out)).mono ?_;rintro bz bt⟨rfl,ak⟩;have I:Hid (Below A.heap.size A bt):=zh (H.out.trans (ak.mono H.out.size));clear ak c0 c1 c2 c3 S2;obtain⟨c0,c1,c2,c3⟩:=yc4 (O.out.below I.out (zr _));go_wp2_with fail
        refine(S3.out _ (by exact I.out)).mono ?_;rintro bA bu⟨rfl,am⟩;have J:Hid (Below A.heap.size A bu):=zh (I.out.trans (am.mono I.out.size));clear am c0 c1 c2 c3 S3;obtain⟨c0,c1,c2,c3⟩:=yc4 (aG.out.below J.out (zr _));go_wp2_with fail
        refine(S4.out _ (by exact J.out)).mono ?_;rintro bC bv⟨rfl,an⟩;have aI:Hid (Below A.heap.size A bv):=zh (J.out.trans (an.mono J.out.size));clear an c0 c1 c2 c3 S4;go_wp2_with fail
        exact⟨⟨k+1,by omega,congrArg _ (by omega),zh (P.out.1.below aI.out)⟩,by simp[intOf];omega⟩
      ·have az:¬(k:Int)<3:=by omega
       go_wp2_with fail
       exact⟨⟨m+1,by omega,congrArg _ (by omega),HI⟩,by simp[intOf];omega⟩
    ·have bo:¬(m:Int)<=2:=by omega
     go_wp2_with fail
     exact⟨⟨i+1,by have:=S.out;omega,congrArg _ (by rw[aK.out];omega),zh HI.out.1⟩,by rw[aK.out];have:=S.out;simp[intOf];omega⟩
  ·have Y:¬ (i:Int) < 676:=by omega
   go_wp2_with fail
   clear Y L hi;go_loopw [0,11,12,13,14,88,89,90,91,92,93,94,95,96,97,98,99,100,101,102,103,104,105,106,107,108,109,110,111,112,113,114,115,116,117,118,119,120,121,122,123,124,125,126,127,128,129,130,131,132,133,134,135,136,137,138,139,140,141,142,143,144,145,146,147,148,149,150,151,152,153,154] (fun _ t11 _ _ _ _ _ _ _ _ _ _ _ _ _ _ _ _ _ _ _ _ _ _ _ _ _ _ _ _ _ _ _ _ _ _ _ _ _ _ _ _ _ _ _ _ _ _ _ _ _ _ _ _ _ _ _ _ _ _ _ _ _ _ _ _ _ _ _ _ _ _ wr=>∃i:Nat,i<=225/\t11=.int .i64 i/\Hid (Leaf2 w wr)) (fun _ t11 _ _ _ _ _ _ _ _ _ _ _ _ _ _ _ _ _ _ _ _ _ _ _ _ _ _ _ _ _ _ _ _ _ _ _ _ _ _ _ _ _ _ _ _ _ _ _ _ _ _ _ _ _ _ _ _ _ _ _ _ _ _ _ _ _ _ _ _ _ _ _=>225-(intOf t11).toNat)
   case atStart=>exact⟨0,by omega,by first|rfl|go_num,M⟩
   case round =>
    obtain⟨i,hi,rfl,M⟩:=hrel;obtain⟨B,rfl⟩:∃B:World,B=wr:=⟨_,rfl⟩;by_cases L:i<225
    ·have Y:(i:Int) < 225:=by omega
     go_upto_region 23 with(fail)
     obtain⟨a,ha⟩:∃a,a=i%9:=⟨_,rfl⟩;obtain⟨b,hb⟩:∃a,a=i/9:=⟨_,rfl⟩;obtain⟨c,hc⟩:∃a,a=b%5:=⟨_,rfl⟩;obtain⟨d,hd⟩:∃a,a=c%2:=⟨_,rfl⟩;obtain⟨f,hf⟩:∃a,a=i/45:=⟨_,rfl⟩;obtain⟨e,he⟩:∃a,a=f%4:=⟨_,rfl⟩;have q0:(i:Int).tmod 9=(a:Int):=by rw[Int.tmod_eq_emod_of_nonneg (by omega)];omega
     have q1:IntKind.i64.wrap ((i:Int)/9)=(b:Int):=by rw[IntWalk.i64_in _ (by omega)];omega
     have q2:(b:Int).tmod 5=(c:Int):=by rw[Int.tmod_eq_emod_of_nonneg (by omega)];omega
     have q3:(c:Int).tmod 2=(d:Int):=by rw[Int.tmod_eq_emod_of_nonneg (by omega)];omega
     have q4:IntKind.i64.wrap ((i:Int)/45)=(f:Int):=by rw[IntWalk.i64_in _ (by omega)];omega
     have q5:(f:Int).tmod 4=(e:Int):=by rw[Int.tmod_eq_emod_of_nonneg (by omega)];omega
     have q6:IntKind.i64.wrap ((d:Int)*10)=(d:Int)*10:=IntWalk.i64_in _ (by omega);have q7:IntKind.u8.wrap (a:Int)=(a:Int):=by simp[IntKind.wrap,IntKind.bits,IntKind.signed];omega
     have aY:c<5:=by omega
     have a6:e<4:=by omega
     have aV:a<9:=by omega
     have aZ:d<2:=by omega
     clear ha hb hc hd hf he;refine zoO [some (.int .i64 i),some (.int .i64 a),some (.int .u8 a),some (.int .i64 i),some (.int .i64 b),some (.int .i64 c),some (.int .i64 d),some (.int .i64 ((d:Int)*10)),none,some (.int .i64 i),some (.int .i64 b),some (.int .i64 c),none,none,some (.agg #[.int .u8 1,.int .i64 1,.string { data:=#[] },.slice none 0 0]),some (.agg #[.int .u8 2,.int .i64 0,.string { data:=#[97] },.slice none 0 0]),some (.agg #[.int .u8 1,.int .i64 1,.string { data:=#[] },.slice none 0 0]),none,some (.int .i64 i),some (.int .i64 f),some (.int .i64 e),none,none,none,none] (phW w.heap.size c e a ((d:Int)*10)) (gW w.heap.size) (Leaf2 w) (by kernel_rfl) (by kernel_rfl) rfl (M.out.below (yR _ _).drew) gW_H (fun i j X w w' hij hp _ hg=>phW_st i j X w w' hij hp hg) ?hloc ?hconst ?hs ?hf
     case hloc =>
      intro i j X v w hij bp hp;refine phW_loc (fun e1 e2=>?_) X v w hij hp;subst e1;subst e2;have e:false=true:=(bp _ rfl).symm.trans (by kernel_rfl);cases e
     case hconst =>
      intro j X w h;unfold phW;split
      all_goals first|trivial|(simp at h)
     case hs =>
      simp only[zfb,zos,zob,zoc,zot,Nat.reduceAdd,Act.put,zs1,zs3,zs2];refine stepsG.cons ?_ (stepsG.cons ?_ (stepsG.cons ?_ (stepsG.cons ?_ (stepsG.cons ?_ (stepsG.cons ?_ (stepsG.cons ?_ (stepsG.cons ?_ (stepsG.cons ?_ (stepsG.cons ?_ (stepsG.cons ?_ (stepsG.cons ?_ (stepsG.cons ?_ (stepsG.cons ?_ (stepsG.cons ?_ (stepsG.cons ?_ (stepsG.cons ?_ (stepsG.cons ?_ (stepsG.cons ?_ (stepsG.cons ?_ (stepsG.cons ?_ (stepsG.cons ?_ (stepsG.cons ?_ (stepsG.cons ?_ (stepsG.cons ?_ (stepsG.nil)))))))))))))))))))))))))
      ·intro X w2 l u;clear u l;go_wp2_with fail
       exact⟨⟨_,rfl,rfl⟩,yR _ _⟩
      ·intro X w2 l u;clear u l;go_wp2_with fail
       exact⟨⟨_,rfl,rfl⟩,yR _ _⟩
      ·intro X w2 l u;clear u l;go_wp2_with fail
       exact⟨⟨_,rfl,rfl⟩,yR _ _⟩
      ·intro X w2 l u;clear u l;go_wp2_with fail
       exact⟨⟨_,rfl,rfl⟩,yR _ _⟩
      ·intro X w2 l u;clear u l;go_wp2_with fail
       exact⟨⟨_,rfl,rfl⟩,yR _ _⟩
      ·intro X w2 l u;clear u l;go_wp2_with fail
       exact⟨⟨_,rfl,rfl⟩,yR _ _⟩
      ·intro X w2 l u;clear u l;go_wp2_with fail
       exact⟨⟨_,rfl,rfl⟩,yR _ _⟩
      ·intro X w2 l u;clear u l;go_wp2_with fail
       exact⟨⟨_,rfl,rfl⟩,yR _ _⟩
      ·intro X w2 l u;clear u l;go_wp2_with fail
       exact⟨⟨_,rfl,_,rfl,OwnV.new _ _ _⟩,(yR _ _).alloc (zr _) _⟩
      ·intro X w2 l u;clear u l;go_wp2_with fail
       exact⟨⟨_,rfl,rfl⟩,yR _ _⟩
      ·intro X w2 l u;clear u l;go_wp2_with fail
       exact⟨⟨_,rfl,rfl⟩,yR _ _⟩
      ·intro X w2 l u;clear u l;go_wp2_with fail
       exact⟨⟨_,rfl,rfl⟩,yR _ _⟩
      ·intro X w2 l u;obtain⟨g,T,C⟩:=u 8 (by kernel_rfl);rw[T];have HO:=zh C;clear u l C T;go_wp2_with fail
       exact⟨⟨_,rfl,g,by first|rfl|simp,HO.out⟩,yR _ _⟩
      ·intro X w2 l u;obtain⟨g,T,C⟩:=u 12 (by kernel_rfl);rw[T];obtain⟨s,hs,y0⟩:=five_at C aY;have Hs:=zh hs;clear u l C T hs;go_wp2_with fail
       exact⟨⟨_,rfl,s,rfl,Hs.out⟩,yR _ _⟩
      ·intro X w2 l u;obtain⟨y0,y1,y2,y3⟩:=yc4 l.1;clear u l;go_wp2_with fail
       exact⟨⟨_,rfl,rfl⟩,yR _ _⟩
      ·intro X w2 l u;obtain⟨y0,y1,y2,y3⟩:=yc4 l.2.1;clear u l;go_wp2_with fail
       exact⟨⟨_,rfl,rfl⟩,yR _ _⟩
      ·intro X w2 l u;obtain⟨y0,y1,y2,y3⟩:=yc4 l.1;clear u l;go_wp2_with fail
       exact⟨⟨_,rfl,rfl⟩,yR _ _⟩
      ·intro X w2 l u;clear u l;go_wp2_with fail
       exact⟨⟨_,rfl,_,rfl,OwnV.new _ _ _⟩,(yR _ _).alloc (zr _) _⟩
      ·intro X w2 l u;clear u l;go_wp2_with fail
       exact⟨⟨_,rfl,rfl⟩,yR _ _⟩
      ·intro X w2 l u;clear u l;go_wp2_with fail
       exact⟨⟨_,rfl,rfl⟩,yR _ _⟩
      ·intro X w2 l u;clear u l;go_wp2_with fail
       exact⟨⟨_,rfl,rfl⟩,yR _ _⟩
      ·intro X w2 l u;obtain⟨g,T,C⟩:=u 17 (by kernel_rfl);rw[T];have HO:=zh C;clear u l C T;go_wp2_with fail
       exact⟨⟨_,rfl,g,by first|rfl|simp,HO.out⟩,yR _ _⟩
      ·intro X w2 l u;obtain⟨s,ax,hs⟩:=u 13 (by kernel_rfl);obtain⟨g,T,C⟩:=u 21 (by kernel_rfl);rw[T,ax];have HO:=zh C;have Hs:=zh hs;clear u l C hs T ax;go_wp2_with fail
       exact⟨⟨_,rfl,g,s,rfl,Hs.out,HO.out⟩,yR _ _⟩
      ·intro X w2 l u;have HS:=zh l.2.2.size;clear u l;go_wp2_with fail
       exact⟨⟨_,rfl,_,rfl,HS.out,_,_,_,_,_,_,OwnV.new _ _ _⟩,(yR _ _).alloc (zr _) _⟩
      ·intro X w2 l u;obtain⟨p,E,U,a0,a1,a2,a3,a4,a5,z⟩:=u 23 (by kernel_rfl);obtain⟨g,s,aL,hs,C⟩:=u 22 (by kernel_rfl);rw[E,aL];obtain⟨y0,y1,y2,y3,y4,y5⟩:=yc6 z;have yf:=z.free;obtain⟨W6,aR,V,Z⟩:=st_put z (.int .u8 a) (.int .i64 ((d:Int)*10)) (.string s) (.slice (some ⟨g,0,none⟩) e 3) (.slice none 0 0) (.slice none 0 0);have HK:=zh (And.intro E (And.intro U (And.intro hs (And.intro (C.other z (by decide) Z) (And.intro z (And.intro V Z))))));have be:=zh aR;clear u l U hs C z V Z aR E aL;go_wp2_with fail
       rw[<-be.out];obtain⟨E,U,hs,C,z,V,Z⟩:=HK.out;exact⟨⟨undef,rfl,p,g,s,E,U,hs,V,C⟩,p,U,⟨_,_,_,_,_,_,z⟩,Z,_,_,_,_,_,_,V⟩
     case hf =>
      intro X w2 l hp;obtain⟨p,g,s,E,U,hs,z,C⟩:=hp 24 (Nat.le_of_ble_eq_true (by kernel_rfl));simp only[zfb,zos,zob,zoc,zot,Nat.reduceAdd,Act.put,zs1,zs3,zs2];rw[E];have ap:=zh l;have N:=zh z;have HE:=zh (eo_three C a6);have HB:=zh U;have Hs:=zh hs;have bq:=z.lt;have S:=zh L;have Hd:=zh aZ;have Ha:=zh aV;clear hp U hs C z l E M aZ aV a6 aY L hi;go_upto_if 117 with(fail)
      go_cut [] (fun wx=>Z4 w p a ((d:Int)*10) s wx)
      case first =>
       by_cases bD:(f:Int)=4
       ·have y3:=N.out.cell (i:=3) rfl;have yf:=N.out.free;have F:=zh (z4_neg ap.out HB.out N.out);go_wp2_with fail
        go_meet;exact F.out
       ·go_wp2_with fail
        go_meet;exact⟨ap.out,HB.out,_,HE.out,N.out⟩
      case rest =>
       have F:=zh hcut;clear hcut ap N HE HB bq q0 q1 q2 q3 q4 q5 q6 q7;obtain⟨hL,U,v,hE,z⟩:=F.out;obtain⟨W7,aS,ac,aX⟩:=bods_new (m:=p+1) (Nat.succ_le_of_lt z.lt);have aF:=zh aS;have bg:Hid (Z5 w p (wc.heap.size+6) wc.heap.size a ((d:Int)*10) s v W7):=zh ⟨hL.below ac,U,hE.below ac,aX,_,_,z.below ac (zr _)⟩;obtain⟨x0,x1,x2,x3⟩:=yc4 hL.1;obtain⟨z0,z1,z2,z3⟩:=yc4 hL.2.1;have l0:=hL.1.lt;have l1:=hL.2.1.lt;clear aS ac aX hL U hE z F;go_upto_region 27 with(fail)
       rw[<-aF.out]
       generalize wc.heap.size+1+1+1+1+1+1=G at *
       generalize wc.heap.size=h at *
       clear aF x0 x1 x2 x3 z0 z1 z2 z3 l0 l1;go_wp2_with fail
       go_loopw [0,14,135,136,137,138,139,140,141,142,143,144,145,146,147,148,149,150,151,152,153,154] (fun _ t14 _ _ _ _ _ _ _ _ _ _ _ _ _ _ _ _ _ _ _ _ wr=>∃k:Nat,k<=25/\t14=.int .i64 k/\Hid (Z5 w p G h a ((d:Int)*10) s v wr)) (fun _ t14 _ _ _ _ _ _ _ _ _ _ _ _ _ _ _ _ _ _ _ _ _=>25-(intOf t14).toNat)
       case atStart=>exact⟨0,by omega,by first|rfl|go_num,bg⟩
       case round =>
        obtain⟨k,hk,rfl,F⟩:=hrel;by_cases ae:k<25
        ·have az:(k:Int)<25:=by omega
         obtain⟨wk,rfl⟩:∃wk:World,wk=wr:=⟨_,rfl⟩;obtain⟨r,hr⟩:∃r,r=k%5:=⟨_,rfl⟩;obtain⟨q,hq⟩:∃q,q=k/5:=⟨_,rfl⟩;have q0:(k:Int).tmod 5=(r:Int):=by rw[Int.tmod_eq_emod_of_nonneg (by omega)];omega
         have q1:IntKind.i64.wrap ((k:Int)/5)=(q:Int):=by rw[IntWalk.i64_in _ (by omega)];omega
         have r5:(r:Int)<5:=by omega
         have q5:(q:Int)<5:=by omega
         obtain⟨xa,xn,xc,hx,c0⟩:=F.out.2.2.2.1.cell (j:=r) (by omega);obtain⟨ya,yn,yc,hy,c1⟩:=F.out.2.2.2.1.cell (j:=q) (by omega);obtain⟨v4,v5,z⟩:=F.out.2.2.2.2;have y4:=z.cell (i:=4) rfl;have y5:=z.cell (i:=5) rfl;have yf:=z.free;have yl:=z.lt;have g1:G≠p:=F.out.2.2.2.1.1.neq z (by decide);have g2:p≠G:=g1.symm;have N:=zh z;have Hx:=zh hx;have Hy:=zh hy;have aJ:=zh ae;clear z hx hy hr hq ae hk;go_upto_region 30 with(fail)
         go_cut [] (fun wx=>Z6 w p G h a ((d:Int)*10) s v wx)
         case first =>
          go_region_with (fail)
          go_wp2_with fail
          all_goals
           go_meet
           first
            | with_reducible exact z6_put F.out Hx.out Hy.out ((N.out.set 4 _).set 5 _)
            | with_reducible exact z6_put F.out Hx.out Hy.out ((N.out.set 5 _).set 4 _)
            | exact z6_put F.out Hx.out Hy.out ((N.out.set 4 _).set 5 _)
            | exact z6_put F.out Hx.out Hy.out ((N.out.set 5 _).set 4 _)
         case rest =>
          have HC:=zh hcut;clear hcut N Hx Hy c0 c1 y4 y5 yf yl q0 q1 r5 q5 g1 g2 F;obtain⟨hZ,x,y,hx,hy,z⟩:=HC.out;obtain⟨xa,xn,xc,rfl⟩:=hx.form;obtain⟨ya,yn,yc,rfl⟩:=hy.form;obtain⟨W9,aT,h9,ad⟩:=newbox wc 56 [.int .u8 a,.int .i64 ((d:Int)*10),.string s,v,.slice xa xn xc,.slice ya yn yc];have ar:=zh (hZ.below ad);have HS:=zh (z5_call ar.out (by have:=Ha.out;omega) ⟨by omega,by have:=Hd.out;omega⟩ Hs.out (hx.below ad) (hy.below ad) h9 (HG.out _ ar.out.1.2.2));have bf:=zh aT;obtain⟨y0,y1,y2,y3,y4,y5⟩:=yc6 z;clear aT h9 ad z hx hy hZ HC;go_wp2_with fail
          rw[<-bf.out];refine HS.out.mono ?_;rintro bx bG⟨rfl,ai⟩;have aH:=zh (ar.out.below ai);clear ai HS y0 y1 y2 y3 y4 y5;go_wp2_with fail
          exact⟨⟨k+1,aJ.out,congrArg _ (by omega),aH⟩,by have:=aJ.out;simp[intOf];omega⟩
        ·have az:¬(k:Int)<25:=by omega
         go_wp2_with fail
         exact⟨⟨i+1,by have:=S.out;omega,congrArg _ (by omega),zh F.out.1⟩,by have:=S.out;simp[intOf];omega⟩
    ·have Y:¬(i:Int)<225:=by omega
     have HD:=zh (deep_any (HG.out _ M.out.2.2));go_wp2_with fail
     refine HD.out.mono ?_;rintro e3 w3⟨rfl,aW⟩;have bb:=zh (M.out.2.2.trans (aW.mono M.out.2.2.size));clear aW HD;go_wp2_with fail
     go_ret;exact⟨rfl,bb.out⟩
end Go.Proofs.YtoaojdobjinhfaaGreatDoor
