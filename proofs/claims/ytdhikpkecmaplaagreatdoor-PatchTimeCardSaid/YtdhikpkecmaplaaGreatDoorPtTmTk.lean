/- The statement PatchTime, walked. -/
import Derived.Test.YtdhikpkecmaplaaGreatDoorAwSMk
import Derived.Test.YtdhikpkecmaplaaGreatDoorPtSmTk
set_option linter.unusedSimpArgs false
set_option linter.unusedVariables false
set_option maxRecDepth 100000
set_option maxHeartbeats 4000000
namespace Go.Proofs.YtdhikpkecmaplaaGreatDoor
open Go.RowKit

def AdvOk (ys : List Sys) (c : Bk) (l : List Pt) (t : Int) (w' : World) (e : Ending) : Prop := ∃ us uc up ul, e = .returned (.tuple #[.agg #[.int .i64 t, us, uc, up], ul, .int .i64 0]) /\ BkIn w'.heap.size w' ys c us uc up /\ Pts w' l ul
theorem adv_ok {w:World} {ys:List Sys} {b c:Bk} {l:List Pt} {t tc:Int} {vs vc vp:Value} (hG:Glob w) (hOk:BkOk ys b) (hB:BkIn w.heap.size w ys b vs vc vp) (h:zoe (znI ys) (rOf (errE ys)) b t=(some (c,l),0)) (hc:c.tick=tc) :
  Calls Tryz.prog 20 #[.agg #[.int .i64 b.tick,vs,vc,vp],.int .i64 t] w fun e w'=>AdvOk ys c l tc w' e/\Below w.heap.size w w':=by
 subst hc;refine (zq4 (t:=t) hG hOk hB).mono ?_;rw [h];rintro e w' ⟨⟨us,uc,up,ul,rfl,h1,h2,h3,h4⟩,hb⟩;exact ⟨⟨us,uc,up,ul,rfl,adv_bk h1 h2 h3,Sl.of_own h4⟩,hb⟩
theorem adv_fails {w:World} {ys:List Sys} {b:Bk} {t x:Int} {vs vc vp:Value} (hG:Glob w) (hOk:BkOk ys b) (hB:BkIn w.heap.size w ys b vs vc vp) (h:zoe (znI ys) (rOf (errE ys)) b t=(none,x)) :
  Calls Tryz.prog 20 #[.agg #[.int .i64 b.tick,vs,vc,vp],.int .i64 t] w fun e w'=>e=.returned (.tuple #[.agg #[.int .i64 0,.slice none 0 0,.slice none 0 0,.slice none 0 0],.slice none 0 0,.int .i64 x])/\Below w.heap.size w w':=by
 refine (zq4 (t:=t) hG hOk hB).mono ?_;rw [h];exact fun e w' h=>⟨h.1.1,h.2⟩
theorem apply_ok {P:List UInt8->Prop}:∀ (l:List Pt) (s:List (List UInt8)),(∀ p ∈ l,P p.src)->(∀ x ∈ s,P x)->∀ x ∈ zn4 s l,P x
  | [],_,_,h=>h
  | p :: r, s, hp, h => apply_ok r _ (fun q hq => hp q (List.mem_cons_of_mem _ hq)) (fun x hx => by
      rcases List.mem_or_eq_of_mem_set hx with h1 | h1
      · exact h x h1
      · rw [h1];exact hp p (List.mem_cons_self ..))
theorem adv_bkok {ys:List Sys} {b:Bk} {t:Int} (h:BkOk ys b) (ht:okI t):BkOk ys (advB t b):=
 ⟨h.sys,ht,apply_ok _ _ (fun p hp=>(h.pend p ((List.takeWhile_sublist _).subset hp)).2.2) h.scr,fun p hp=>h.pend p ((List.dropWhile_sublist _).subset hp)⟩
theorem adv_back {ys:List Sys} {b:Bk} {t s:Int} (h:s < t) (hl:b.tick=0∨zoe (znI ys) (rOf (errE ys)) (advB t b) s=(none,400)):∃ x,zoe (znI ys) (rOf (errE ys)) (advB t b) s=(none,x)/\(b.tick=0∨x=400):=by
 unfold zoe at hl ⊢;split
 ·exact ⟨2,rfl,by rename_i h1;rw [if_pos h1] at hl;rcases hl with hl | hl;exact .inl hl;cases hl⟩
 ·split
  ·exact ⟨400,rfl,.inr rfl⟩
  ·rename_i h2;exact absurd h h2
theorem wpList_append_g {P:Program} {ops:Array Oper} {rest:List Oper} {o:Oper} {a:Act} {Q:Exit->Act->World->Prop} {w:World} (hgd:Region.wanted o (yielded ops a.tmps)=true) (s x:Operand) (t:TypeId)
  (ho:o.op=.call { callee:=.builtin .append,args:=#[s,x],argTypes:=#[t,t] })
  {base:Nat} {e:TypeId} {size:Nat} {v:Value} {n:Nat} {xs:List Value} (hown:w.ownsRow base e size v n xs) {z:Value} {bytes:Nat}
  (hi:(P.info? e).map (fun i=>(i.zero,i.size,i.bytes))=some (some z,size,bytes)) (ht:P.underlying t=some (.slice e)) (hzs:z.cells.size=size) (hsz:0 < size)
  (hs:a.eval s=v) {m:Nat} {cs:List Value} {v2:Value} (hsl:Sl w size m cs v2) (hx:a.eval x=v2) (h1:cs.all (fun u=>u.oneCell')=true)
  (h63:n+m<=maxLen) (hbytes:(n+m) * bytes<=140737488355328) (hbase:base<=w.heap.size)
  (h:∀ v' w',w'.ownsRow base e size v' (n+m) (xs++cs)->w.grownBy w' v.ownBlock->Below base w w'->(v'.ownBlock=v.ownBlock∨∃ g,v'.ownBlock=some g/\w.heap.size<=g)->wpList P ops Q rest (a.put o.dst v') w'):wpList P ops Q (o :: rest) a w:=by
 have k:=zaR (o:={ o with guard:=none }) (ops:=ops) (E:=False) (Q:=Q) rfl s x t ho hown hi ht hzs hsz hs hsl hx h1 h63 hbytes hbase h;rw [if_pos (by simp [Region.wanted])] at k;unfold wpList;rw [if_pos hgd];exact .inl k
theorem row_none (w:World) (e:TypeId) (sz:Nat):(w.alloc (.cells #[] e)).ownsRow w.heap.size e sz (.slice (some ⟨w.heap.size,0,none⟩) 0 0) 0 []:=
 ⟨by simp,.inr ⟨w.heap.size,0,#[],rfl,zr _,heap_alloc_new w _,zr _,by decide,by simp,by simp⟩⟩
theorem patchTime_any {w:World} {ys:List Sys} {b:Bk} {vs vc vp:Value} (hG:Glob w) (hOk:BkOk ys b) (hB:BkIn w.heap.size w ys b vs vc vp) (m n:Int) (hm:0<=m/\m<=65535) (hn:0<=n/\n<=65535):Calls Tryz.prog 6 #[bkV b vs vc vp,.int .u16 m,.int .u16 n] w (zbe true w):=by
 obtain ⟨hm0,hm1⟩:=hm;obtain ⟨hn0,hn1⟩:=hn;obtain ⟨ay,cy,rfl,-,-⟩:=hB.sys.form;obtain ⟨ac,cc,rfl,-,-⟩:=hB.scr.form;obtain ⟨ap,cp,rfl,-,-⟩:=hB.pend.form;have HG:Hid (∀ W,Below w.heap.size w W->Glob W):=zh (fun W hb=>hG.below hb hG.size);have HB:Hid (∀ W,Below w.heap.size w W->BkIn W.heap.size W ys b (.slice ay ys.length cy) (.slice ac b.scr.length cc) (.slice ap b.pend.length cp)):=zh (fun W hb=>(hB.below hb).mono hb.size);have Hok:=zh hOk;have HSm:Hid (∀ W,Below w.heap.size w W->Calls Tryz.prog 14 #[.agg #[.int .i64 b.tick,.slice ay ys.length cy,.slice ac b.scr.length cc,.slice ap b.pend.length cp]] W fun e w'=>SmallE ys.length b.scr.length b.pend.length e/\Below W.heap.size W w'):=zh (fun W hb=>small_any (zr _) (HB.out W hb) hOk);have HVl:Hid (∀ W,Below w.heap.size w W->Calls Tryz.prog 15 #[.agg #[.int .i64 b.tick,.slice ay ys.length cy,.slice ac b.scr.length cc,.slice ap b.pend.length cp]] W (zbe (znM (znI ys) (rOf (errE ys)) b) W)):=zh (fun W hb=>zri (HG.out W hb) hOk (HB.out W hb));have htk:=hOk.tick;obtain ⟨W0,hW0,hb0,hX,hs0⟩:=box1 w [.int .i64 b.tick,.slice ay ys.length cy,.slice ac b.scr.length cc,.slice ap b.pend.length cp] 26;have HAw:=zh (zqE (HG.out W0 hb0));have HW0:=zh hW0;have HX0:=zh hX;have Hb0:=zh hb0;unfold bkV;clear hG hOk hB hW0 hX hb0;go_enter Tryz.func6,Tryz.ntmps6
 go_upto_region 1 with (fail)
 rw [<- HW0.out];go_wp2_with fail
 go_at_call 13;refine HAw.out.mono ?_;rintro e1 w1 ⟨rfl,hb1⟩;have Hb1:=zh (Hb0.out.trans (hb1.mono Hb0.out.size));have HX1:=zh (HX0.out.below hb1 (zr _));clear hb1 HX0 Hb0 HAw;obtain ⟨x0,x1,x2,x3⟩:=yc4 HX1.out;go_wp2_with fail
 refine (HSm.out _ Hb1.out).mono ?_;rintro e2 w2 ⟨⟨q,rfl,hq⟩,hb2⟩;have Hb2:=zh (Hb1.out.trans (hb2.mono Hb1.out.size));have HX2:=zh (HX1.out.below hb2 (zr _));clear hb2 HX1 Hb1 HSm x0 x1 x2 x3;obtain ⟨x0,x1,x2,x3⟩:=yc4 HX2.out
 cases q with
 | false =>
  go_wp2_with fail
  go_ret
  exact ⟨rfl,Hb2.out⟩
 | true =>
 obtain ⟨hq1,hq2,hq3⟩:=hq rfl;clear hq;go_wp2_with fail
 refine (HVl.out _ Hb2.out).mono ?_;rintro e3 w3 ⟨rfl,hb3⟩;have Hb3:=zh (Hb2.out.trans (hb3.mono Hb2.out.size));have HX3:=zh (HX2.out.below hb3 (zr _));clear hb3 HX2 Hb2 HVl x0 x1 x2 x3;obtain ⟨x0,x1,x2,x3⟩:=yc4 HX3.out;obtain ⟨q,hq⟩:∃ q,znM (znI ys) (rOf (errE ys)) b=q:=⟨_,rfl⟩;rw [hq]
 cases q with
 | false =>
  go_wp2_with fail
  go_ret
  exact ⟨rfl,Hb3.out⟩
 | true =>
 have hV:=zh (valid_iff.1 hq);clear hq;by_cases ht:b.tick > 1073610752
 ·go_wp2_with fail
  go_ret;exact ⟨rfl,Hb3.out⟩
 have ht0:0<=b.tick:=hV.out.lo;obtain ⟨M,rfl⟩:∃ M:Nat,m=M:=⟨m.toNat,by omega⟩;obtain ⟨N,rfl⟩:∃ N:Nat,n=N:=⟨n.toNat,by omega⟩;obtain ⟨t1,t2,t3,t4,t5,t6⟩:=time_law hV.out M N (by omega) (by omega) (by omega);obtain ⟨xb,t6,t7⟩:=adv_back (by omega) t6;have T1:=zh t1;have T2:=zh t2;have T3:=zh t3;have T4:=zh t4;have T5:=zh t5;have T6:=zh t6;have T7:=zh t7;have O1:=zh (adv_bkok (t:=b.tick+M) Hok.out ⟨by omega,by omega⟩);have O2:=zh (adv_bkok (t:=b.tick+M+N) Hok.out ⟨by omega,by omega⟩);clear t1 t2 t3 t4 t5 t6 t7;go_wp2_with fail
 have HX:=HX3;have hlt3:=HX3.out.lt;clear HX3;refine (adv_ok (tc:=b.tick+M) (HG.out _ Hb3.out) Hok.out (HB.out _ Hb3.out) T1.out rfl).mono ?_;rintro e5 w5 ⟨⟨us5,uc5,up5,ul5,rfl,hx,hl⟩,hb⟩;obtain ⟨ya5,yc5,rfl,-,-⟩:=hx.sys.form;obtain ⟨sa5,sc5,rfl,-,-⟩:=hx.scr.form;obtain ⟨pa5,pc5,rfl,-,-⟩:=hx.pend.form;obtain ⟨la5,lc5,rfl,-,-⟩:=hl.form;have HB5:Hid (∀ W,Below w5.heap.size w5 W->BkIn W.heap.size W ys (advB (b.tick+M) b) _ _ _):=zh (fun W hb=>(hx.below hb).mono hb.size);have HL5:Hid (∀ W,Below w5.heap.size w5 W->Pts W (upTo (b.tick+M) b.pend) _):=zh (fun W hb=>hl.below hb (zr _));obtain ⟨W5,hW,hb2,hY,hs⟩:=box1 w5 [.int .i64 (b.tick+M),.slice ya5 ys.length yc5,.slice sa5 (advB (b.tick+M) b).scr.length sc5,.slice pa5 (advB (b.tick+M) b).pend.length pc5] 26;have HW5:=zh hW;have Hb5:=zh ((Hb3.out.trans (hb.mono Hb3.out.size)).trans (hb2.mono (Nat.le_trans Hb3.out.size hb.size)));have HQ5:=zh hY;have Hx55:=zh hb2;have hn5:w5.heap.size+1<=W5.heap.size:=by omega
 have HX:=zh ((HX.out.below hb (zr _)).below hb2 (zr _));have hlt5:w.heap.size < w5.heap.size:=by have:=hb.size;omega
 clear hx hl hW hb hb2 hY hs Hb3;clear x0 x1 x2 x3;go_upto_region 6 with (fail)
 rw [<- HW5.out];obtain ⟨x0,x1,x2,x3⟩:=yc4 HX.out;obtain ⟨y0,y1,y2,y3⟩:=yc4 HQ5.out;go_wp2_with fail
 refine (adv_ok (b:=advB (b.tick+M) b) (tc:=b.tick+M+N) (HG.out _ Hb5.out) O1.out (HB5.out _ Hx55.out) T2.out rfl).mono ?_;rintro e6 w6 ⟨⟨us6,uc6,up6,ul6,rfl,hx,hl⟩,hb⟩;obtain ⟨ya6,yc6,rfl,-,-⟩:=hx.sys.form;obtain ⟨sa6,sc6,rfl,-,-⟩:=hx.scr.form;obtain ⟨pa6,pc6,rfl,-,-⟩:=hx.pend.form;obtain ⟨la6,lc6,rfl,-,-⟩:=hl.form;have HB6:Hid (∀ W,Below w6.heap.size w6 W->BkIn W.heap.size W ys (advB (b.tick+M+N) b) _ _ _):=zh (fun W hb=>(hx.below hb).mono hb.size);have HL6:Hid (∀ W,Below w6.heap.size w6 W->Pts W (upTo (b.tick+M+N) (znZ (b.tick+M) b.pend)) _):=zh (fun W hb=>hl.below hb (zr _));obtain ⟨W6,hW,hb2,hY,hs⟩:=box1 w6 [.int .i64 (b.tick+M+N),.slice ya6 ys.length yc6,.slice sa6 (advB (b.tick+M+N) b).scr.length sc6,.slice pa6 (advB (b.tick+M+N) b).pend.length pc6] 26;have HW6:=zh hW;have Hb6:=zh ((Hb5.out.trans (hb.mono Hb5.out.size)).trans (hb2.mono (Nat.le_trans Hb5.out.size hb.size)));have HQ6:=zh hY;have Hx66:=zh hb2;have hn6:w6.heap.size+1<=W6.heap.size:=by omega
 have Hx56:=zh ((Hx55.out.trans (hb.mono Hx55.out.size)).trans (hb2.mono (Nat.le_trans Hx55.out.size hb.size)));have HQ5:=zh ((HQ5.out.below hb (zr _)).below hb2 (zr _));have HX:=zh ((HX.out.below hb (zr _)).below hb2 (zr _));have hlt6:w.heap.size < w6.heap.size:=by have:=hb.size;omega
 have hg56:w5.heap.size+1<=w6.heap.size:=by have:=hb.size;omega
 clear hx hl hW hb hb2 hY hs Hb5;clear x0 x1 x2 x3 y0 y1 y2 y3;go_upto_region 7 with (fail)
 rw [<- HW6.out];obtain ⟨x0,x1,x2,x3⟩:=yc4 HX.out;go_wp2_with fail
 refine (adv_ok (tc:=b.tick+M+N) (HG.out _ Hb6.out) Hok.out (HB.out _ Hb6.out) T3.out rfl).mono ?_;rintro e7 w7 ⟨⟨us7,uc7,up7,ul7,rfl,hx,hl⟩,hb⟩;obtain ⟨ya7,yc7,rfl,-,-⟩:=hx.sys.form;obtain ⟨sa7,sc7,rfl,-,-⟩:=hx.scr.form;obtain ⟨pa7,pc7,rfl,-,-⟩:=hx.pend.form;obtain ⟨la7,lc7,rfl,-,-⟩:=hl.form;have HB7:Hid (∀ W,Below w7.heap.size w7 W->BkIn W.heap.size W ys (advB (b.tick+M+N) b) _ _ _):=zh (fun W hb=>(hx.below hb).mono hb.size);have HL7:Hid (∀ W,Below w7.heap.size w7 W->Pts W (upTo (b.tick+M+N) b.pend) _):=zh (fun W hb=>hl.below hb (zr _));obtain ⟨W7,hW,hb2,hY,hs⟩:=box1 w7 [.int .i64 (b.tick+M+N),.slice ya7 ys.length yc7,.slice sa7 (advB (b.tick+M+N) b).scr.length sc7,.slice pa7 (advB (b.tick+M+N) b).pend.length pc7] 26;have HW7:=zh hW;have Hb7:=zh ((Hb6.out.trans (hb.mono Hb6.out.size)).trans (hb2.mono (Nat.le_trans Hb6.out.size hb.size)));have HQ7:=zh hY;have Hx77:=zh hb2;have hn7:w7.heap.size+1<=W7.heap.size:=by omega
 have Hx57:=zh ((Hx56.out.trans (hb.mono Hx56.out.size)).trans (hb2.mono (Nat.le_trans Hx56.out.size hb.size)));have HQ5:=zh ((HQ5.out.below hb (zr _)).below hb2 (zr _));have Hx67:=zh ((Hx66.out.trans (hb.mono Hx66.out.size)).trans (hb2.mono (Nat.le_trans Hx66.out.size hb.size)));have HQ6:=zh ((HQ6.out.below hb (zr _)).below hb2 (zr _));have HX:=zh ((HX.out.below hb (zr _)).below hb2 (zr _));have hlt7:w.heap.size < w7.heap.size:=by have:=hb.size;omega
 have hg57:w5.heap.size+1<=w7.heap.size:=by have:=hb.size;omega
 have hg67:w6.heap.size+1<=w7.heap.size:=by have:=hb.size;omega
 clear hx hl hW hb hb2 hY hs Hb6;clear x0 x1 x2 x3;go_upto_region 8 with (fail)
 rw [<- HW7.out];obtain ⟨x0,x1,x2,x3⟩:=yc4 HX.out;obtain ⟨y0,y1,y2,y3⟩:=yc4 HQ5.out;go_wp2_with fail
 refine (adv_fails (b:=advB (b.tick+M) b) (HG.out _ Hb7.out) O1.out (HB5.out _ Hx57.out) T6.out).mono ?_;rintro e8 w8 ⟨rfl,hb⟩;obtain ⟨W8,hW,hb2,hY,hs⟩:=box1 w8 [.int .i64 0,.slice none 0 0,.slice none 0 0,.slice none 0 0] 26;have HW8:=zh hW;have Hb8:=zh ((Hb7.out.trans (hb.mono Hb7.out.size)).trans (hb2.mono (Nat.le_trans Hb7.out.size hb.size)));have hn8:w8.heap.size+1<=W8.heap.size:=by omega
 have Hx58:=zh ((Hx57.out.trans (hb.mono Hx57.out.size)).trans (hb2.mono (Nat.le_trans Hx57.out.size hb.size)));have Hx68:=zh ((Hx67.out.trans (hb.mono Hx67.out.size)).trans (hb2.mono (Nat.le_trans Hx67.out.size hb.size)));have Hx78:=zh ((Hx77.out.trans (hb.mono Hx77.out.size)).trans (hb2.mono (Nat.le_trans Hx77.out.size hb.size)));have HQ6:=zh ((HQ6.out.below hb (zr _)).below hb2 (zr _));have HQ7:=zh ((HQ7.out.below hb (zr _)).below hb2 (zr _));have HX:=zh ((HX.out.below hb (zr _)).below hb2 (zr _));clear hW hb hb2 hY hs x0 x1 x2 x3 y0 y1 y2 y3 HQ5;go_upto_region 9 with (fail)
 rw [<- HW8.out];obtain ⟨y0,y1,y2,y3⟩:=yc4 HQ6.out;obtain ⟨z0,z1,z2,z3⟩:=yc4 HQ7.out;go_wp2_with fail
 refine (sameBk_any (b:=advB (b.tick+M+N) b) (HB6.out _ Hx68.out) (HB7.out _ Hx78.out)).mono ?_;rintro e9 w9 ⟨rfl,hb⟩;have Hb9:=zh (Hb8.out.trans (hb.mono Hb8.out.size));have Hx59:=zh (Hx58.out.trans (hb.mono Hx58.out.size));have Hx69:=zh (Hx68.out.trans (hb.mono Hx68.out.size));have Hx79:=zh (Hx78.out.trans (hb.mono Hx78.out.size));have HQ7:=zh (HQ7.out.below hb (zr _));have HX:=zh (HX.out.below hb (zr _));clear hb y0 y1 y2 y3 z0 z1 z2 z3;have hlen1:(upTo (b.tick+M) b.pend).length<=40:=Nat.le_trans (List.takeWhile_sublist _).length_le hq3;have hlen2:(upTo (b.tick+M+N) (znZ (b.tick+M) b.pend)).length<=40:=Nat.le_trans (List.takeWhile_sublist _).length_le (Nat.le_trans (List.dropWhile_sublist _).length_le hq3);have HN:=zh (row_none w9 32 3);have hba:Below w9.heap.size w9 (w9.alloc (.cells #[] 32)):=(Below.refl _ _).alloc (zr _) _;have HS1:=zh (HL5.out _ (Hx59.out.trans (hba.mono Hx59.out.size)));have Hba:=zh hba;clear hba
 go_wp2_with (first
  | (at_builtin;refine wpList_append_g (by rfl) (.tmp 98) (.tmp 99) 24 rfl HN.out zpt Tryz.underlying24 rfl (by decide) rfl HS1.out rfl (zpq _) (by unfold maxLen;omega) (by omega) (by simp) ?_;intro v10 w10 ho10 hg10 hb10 ha10;have Ho10:=zh ho10;have Hb10:=zh (Hba.out.trans hb10);clear ho10 hg10 hb10 ha10;have HS2:=zh (HL6.out _ (Hx69.out.trans (Hb10.out.mono Hx69.out.size)));have hw10:=Hb10.out.size)
  | (at_builtin;refine wpList_append_g (by rfl) (.tmp 100) (.tmp 101) 24 rfl Ho10.out zpt Tryz.underlying24 rfl (by decide) rfl HS2.out rfl (zpq _) (by unfold maxLen;omega) (by omega) hw10 ?_;intro v11 w11 ho11 hg11 hb11 ha11;have Ho11:=zh ho11;have Hb11:=zh (Hb10.out.trans hb11);clear ho11 hg11 hb11 ha11))
 have hA:Pts w11 (upTo (b.tick+M+N) b.pend) v11:=by
  have h:=Sl.of_own Ho11.out;rw [<- T4.out];unfold Pts;rw [zox,List.length_append];simpa using h
 have hw11:Below w9.heap.size w9 w11:=Hb11.out;refine (samePts_any hA (HL7.out _ (Hx79.out.trans (hw11.mono Hx79.out.size)))).mono ?_;rintro e12 w12 ⟨rfl,hb⟩;have Hb12:=zh ((Hb9.out.trans (hw11.mono Hb9.out.size)).trans (hb.mono (Nat.le_trans Hb9.out.size hw11.size)));have HX:=zh ((HX.out.below hw11 (zr _)).below hb (zr _));have HQ7:=zh ((HQ7.out.below hw11 (zr _)).below hb (zr _));have h5:(upTo (b.tick+M+N) b.pend).length+(advB (b.tick+M+N) b).pend.length=b.pend.length:=T5.out;have h6:(((upTo (b.tick+M+N) b.pend).length:Int)+((advB (b.tick+M+N) b).pend.length:Int) == (b.pend.length:Int))=true:=by rw [beq_iff_eq];omega
 have h7:((upTo (b.tick+M+N) b.pend).length:Int)<=40:=by omega
 have h8:((advB (b.tick+M+N) b).pend.length:Int)<=40:=by omega
 clear hA hw11 hb h5;have x0:=HX.out.cell (i:=0) rfl;have x3:=HX.out.cell (i:=3) rfl;have z3:=HQ7.out.cell (i:=3) rfl;by_cases h0:b.tick=0
 ·have h0b:(b.tick == 0)=true:=by rw [beq_iff_eq];exact h0
  clear h0;go_wp2_with fail
  go_ret;exact ⟨rfl,Hb12.out⟩
 ·have h0b:(b.tick == 0)=false:=by rw [beq_eq_false_iff_ne];exact h0
  obtain rfl:xb=400:=T7.out.resolve_left h0;clear h0;go_wp2_with fail
  go_ret;exact ⟨rfl,Hb12.out⟩
end Go.Proofs.YtdhikpkecmaplaaGreatDoor
