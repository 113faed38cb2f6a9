/- The statement PatchMasks, walked. -/
import Derived.Test.YtdhikpkecmaplaaGreatDoorAwSMk
set_option linter.unusedSimpArgs false
set_option linter.unusedVariables false
set_option maxRecDepth 100000
set_option maxHeartbeats 4000000
namespace Go.Proofs.YtdhikpkecmaplaaGreatDoor
open Go.RowKit

theorem shl3 (x:BitVec 32):w32 x * 8 % 4294967296=w32 (x <<< 3):=by
 unfold w32;rw [BitVec.toNat_shiftLeft,Nat.shiftLeft_eq];omega
theorem w32_eq {x y:BitVec 32}:(w32 x=w32 y) ↔ x=y:=by
 unfold w32;constructor
 ·intro h;exact BitVec.eq_of_toNat_eq (by omega)
 ·rintro rfl;rfl
def phM (b : Nat) (n a1 a2 p : Value) : Nat -> (Nat -> Value) -> World -> Prop
  | 10, _, w => ∃ u, OwnV w b 61 [n, a1, u, p]
  | 12, _, w => ∃ u, OwnV w b 61 [n, u, a2, p]
  | _, _, _ => True
def gM (b : Nat) (n a1 a2 p : Value) : Nat -> World -> World -> Prop
  | 10, w, w' => Only (fun k => k = b) w w' /\ ∀ u v, OwnV w b 61 [n, u, v, p] -> OwnV w' b 61 [n, a1, v, p]
  | 12, w, w' => Only (fun k => k = b) w w' /\ ∀ u v, OwnV w b 61 [n, u, v, p] -> OwnV w' b 61 [n, u, a2, p]
  | _, w, w' => w' = w
def hM (W : World) (b : Nat) (n p : Value) (w : World) : Prop := Only (fun k => k = b) W w /\ ∃ u v, OwnV w b 61 [n, u, v, p]
theorem zrD {W:World} {b:Nat} {n a1 a2 p:Value} (i:Nat) (w w':World) (h:hM W b n p w) (g:gM b n a1 a2 p i w w'):hM W b n p w':=by
 obtain ⟨h1,u,v,h2⟩:=h;unfold gM at g;split at g
 ·exact ⟨h1.trans' g.1,_,_,g.2 _ _ h2⟩
 ·exact ⟨h1.trans' g.1,_,_,g.2 _ _ h2⟩
 ·rw [g];exact ⟨h1,u,v,h2⟩
theorem zqO {W:World} {b:Nat} {n a1 a2 p:Value} (i j:Nat) (X:Nat->Value) (w w':World) (hij:i≠j) (hp:phM b n a1 a2 p j X w) (_:hM W b n p w) (g:gM b n a1 a2 p i w w'):phM b n a1 a2 p j X w':=by
 unfold phM at hp ⊢;split at hp
 ·obtain ⟨u,h⟩:=hp;unfold gM at g;split at g
  ·exact ⟨_,g.2 _ _ h⟩
  ·exact ⟨_,g.2 _ _ h⟩
  ·rw [g];exact ⟨u,h⟩
 ·obtain ⟨u,h⟩:=hp;unfold gM at g;split at g
  ·exact ⟨_,g.2 _ _ h⟩
  ·exact ⟨_,g.2 _ _ h⟩
  ·rw [g];exact ⟨u,h⟩
 ·trivial
theorem zpY {b:Nat} {n a1 a2 p:Value} {X:Nat->Value} {w:World} (h:phM b n a1 a2 p 10 X w) (k:phM b n a1 a2 p 12 X w):OwnV w b 61 [n,a1,a2,p]:=by
 obtain ⟨u,h⟩:=h;obtain ⟨v,k⟩:=k;unfold OwnV at h k ⊢;rw [h] at k;cases k;exact h
theorem ztG {w:World} (hG:Glob w) (r m more:BitVec 32) (y:Sys):Calls Tryz.prog 8 #[.int .u32 (w32 r),.int .u32 (w32 m),y.val,.int .u32 (w32 more)] w (zbe true w):=by
 have HF1:=zh (fun W=>zoR ⟨[],0,r,m⟩ y (.slice none 0 0) W ⟨_,_,_,rfl⟩);have HF2:=zh (fun W=>zoR ⟨[],0,r,m⟩ { y with rd:=y.rd ||| more,wr:=y.wr ||| (more <<< 3) } (.slice none 0 0) W ⟨_,_,_,rfl⟩);have HF3:=zh (fun W=>zoR ⟨[],0,0,0⟩ y (.slice none 0 0) W ⟨_,_,_,rfl⟩);have HF4:=zh (fun W=>zoR ⟨[],0,r,m⟩ ⟨{ data:=#[] },r,m,0⟩ (.slice none 0 0) W ⟨_,_,_,rfl⟩);simp only [zsd] at HF3;rw [zsV r m ⟨{ data:=#[] },r,m,0⟩ rfl rfl] at HF4;have hfw:=fun h=>zsc (r:=r) (m:=m) (a:=more) (b:=more <<< 3) (y:=y) h
 have hfi:=zqe r m y;obtain ⟨nm,rd,wr,pg⟩:=y;simp only at HF1 HF2 HF3 hfw hfi;unfold Sys.val zow at HF1 HF2 HF3 HF4;unfold Sys.val;simp only [show w32 0=0 from rfl] at HF1 HF2 HF3 HF4;have h1:=zoE rd wr;have h2:=zp2 r (rd ||| wr);have h3:=zp2 m wr;have h4:=zoE rd more;have h5:=zoE wr (more <<< 3);have h6:=shl3 more;obtain ⟨f,hf⟩:∃ f,zn9 r m ⟨nm,rd,wr,pg⟩=f:=⟨_,rfl⟩;have hx:(r &&& (rd ||| wr)=r) ↔ (w32 (r &&& (rd ||| wr))=w32 r):=w32_eq.symm;have hz:(m &&& wr=m) ↔ (w32 (m &&& wr)=w32 m):=w32_eq.symm
 have hfx:f=(decide (w32 (r &&& (rd ||| wr))=w32 r) && decide (w32 (m &&& wr)=w32 m)):=by
  rw [<- hf,hfi,Bool.eq_iff_iff];simp only [Bool.and_eq_true,beq_iff_eq,decide_eq_true_eq,hx,hz]
 rw [hf] at HF1 hfw;clear hf hfi hx hz
 generalize w32 (r &&& (rd ||| wr))=x at *
 generalize w32 (m &&& wr)=z at *
 generalize w32 (rd ||| wr)=ow at *
 obtain ⟨W1,hW1,hb1,hX1,hs1⟩:=box1 w [.string nm,.int .u32 (w32 rd),.int .u32 (w32 wr),.int .i64 pg] 61;have HAw:=zh (zqE (hG.below hb1 hG.size));have hs1a:W1.heap.size<=w.heap.size+1:=by omega
 have hs1b:w.heap.size+1<=W1.heap.size:=by omega
 have HW1:=zh hW1;have HX1:=zh hX1;have Hb1:=zh hb1;have H1:=zh h1;have H2:=zh h2;have H3:=zh h3;have H4:=zh h4;have H5:=zh h5;have H6:=zh h6;have Hfw:=zh hfw;have Hfx:=zh hfx;clear hG hW1 hX1 hb1 hs1 h1 h2 h3 h4 h5 h6 hfw hfx;go_enter Tryz.func8,Tryz.ntmps8
 go_upto_region 1 with (fail)
 rw [<- HW1.out];go_wp2_with fail
 go_at_call 13;refine HAw.out.mono ?_;rintro e2 w2 ⟨rfl,hb2⟩;have hs2:=hb2.size;obtain ⟨W3,hW3,hb3,hX3,hs3⟩:=box1 w2 [.slice none 0 0,.int .i64 0,.int .u32 (w32 r),.int .u32 (w32 m)] 59;have hY3:=(HX1.out.below hb2 (zr _)).below hb3 (zr _);obtain ⟨y0,y1,y2,y3⟩:=yc4 hY3;have hs3a:W3.heap.size<=w2.heap.size+1:=by omega
 have hs3b:w2.heap.size+1<=W3.heap.size:=by omega
 have HW3:=zh hW3;have HX3:=zh hX3;have HY3:=zh hY3;have Hb3:=zh ((Hb1.out.trans (hb2.mono (by omega))).trans (hb3.mono (by omega)));clear hW3 hX3 hY3 hb3 hs3 hb2 HAw HX1 Hb1 HW1;go_upto_region 4 with (fail)
 rw [<- HW3.out];have h1:=H1.out;have h2:=H2.out;have h3:=H3.out;have hfx:=Hfx.out
 have hc:f=true/\x=w32 r/\z=w32 m∨f=false/\(x == w32 r)=false∨f=false/\x=w32 r/\(z == w32 m)=false:=by
  rw [hfx];by_cases hx:x=w32 r
  ·by_cases hz:z=w32 m
   ·exact .inl ⟨by simp [hx,hz],hx,hz⟩
   ·exact .inr (.inr ⟨by simp [hz],hx,by simpa using hz⟩)
  ·exact .inr (.inl ⟨by simp [hx],by simpa using hx⟩)
 clear hfx;rcases hc with ⟨rfl,hx,hz⟩ | ⟨rfl,hx2⟩ | ⟨rfl,hx,hz2⟩
 all_goals
  try rw [hx] at h2
  try rw [hz] at h3
  try clear hx
  try clear hz
  obtain ⟨W5,hW5,hb5,hX5,hs5⟩:=box1 W3 [.string nm,.int .u32 (w32 rd),.int .u32 (w32 wr),.int .i64 pg] 61;have hs5a:W5.heap.size<=W3.heap.size+1:=by omega
  have hs5b:W3.heap.size+1<=W5.heap.size:=by omega
  have HW5:=zh hW5;have HX5:=zh hX5;have HY5:=zh (HY3.out.below hb5 (zr _));have HP5:=zh (HX3.out.below hb5 (zr _));have Hb5:=zh (Hb3.out.trans (hb5.mono (by omega)));clear hW5 hX5 hb5 hs5 HW3 HX3 HY3 Hb3;go_upto_region 5 with (fail)
  clear h1 h2 h3;try clear hx2
  try clear hz2
  go_upto_region 6 with (fail)
  rw [<- HW5.out];clear y0 y1 y2 y3 HW5;refine zoO [some (.pointer (some ⟨w.heap.size,1,none⟩)),some (.int .u32 (w32 rd)),some (.int .u32 (w32 more)),some (.int .u32 (w32 (rd ||| more))),some (.pointer (some ⟨w.heap.size,2,none⟩)),some (.int .u32 (w32 wr)),some (.int .u32 (w32 more)),some (.int .u32 (w32 (more <<< 3))),some (.int .u32 (w32 (wr ||| (more <<< 3)))),some (.pointer (some ⟨W3.heap.size,1,none⟩)),none,some (.pointer (some ⟨W3.heap.size,2,none⟩)),none] (phM W3.heap.size (.string nm) (.int .u32 (w32 (rd ||| more))) (.int .u32 (w32 (wr ||| (more <<< 3)))) (.int .i64 pg)) (gM W3.heap.size (.string nm) (.int .u32 (w32 (rd ||| more))) (.int .u32 (w32 (wr ||| (more <<< 3)))) (.int .i64 pg)) (hM W5 W3.heap.size (.string nm) (.int .i64 pg)) (by kernel_rfl) (by kernel_rfl) rfl ⟨(Only.refl _ _).drew,_,_,HX5.out⟩ zrD zqO (fun i j X v w hij _ hp=>by unfold phM at hp ⊢;split at hp <;> first | exact hp | trivial) (fun j X w h=>by unfold phM;split <;> first | trivial | (simp at h)) ?_ ?_
  ·simp only [zfb,zos,zob,zoc,zot,Nat.reduceAdd,Act.put,zs1,zs3,zs2];refine stepsG.cons ?_ (stepsG.cons ?_ (stepsG.cons ?_ (stepsG.cons ?_ (stepsG.cons ?_ (stepsG.cons ?_ (stepsG.cons ?_ (stepsG.cons ?_ (stepsG.cons ?_ (stepsG.cons ?_ (stepsG.cons ?_ (stepsG.cons ?_ (stepsG.cons ?_ (stepsG.nil)))))))))))))
   ·intro X w4 hH hw;clear hw;clear hH;go_wp2_with fail
    exact ⟨⟨_,rfl,rfl⟩,rfl⟩
   ·intro X w4 hH hw;clear hw;have y0:=(hH.1.own HY5.out (show ¬ w.heap.size=W3.heap.size by omega)).cell (i:=1) rfl;clear hH;go_wp2_with fail
    exact ⟨⟨_,rfl,rfl⟩,rfl⟩
   ·intro X w4 hH hw;clear hw;clear hH;go_wp2_with fail
    exact ⟨⟨_,rfl,rfl⟩,rfl⟩
   ·intro X w4 hH hw;clear hw;clear hH;have h4:=H4.out;go_wp2_with fail
    exact ⟨⟨_,rfl,rfl⟩,rfl⟩
   ·intro X w4 hH hw;clear hw;clear hH;go_wp2_with fail
    exact ⟨⟨_,rfl,rfl⟩,rfl⟩
   ·intro X w4 hH hw;clear hw;have y0:=(hH.1.own HY5.out (show ¬ w.heap.size=W3.heap.size by omega)).cell (i:=2) rfl;clear hH;go_wp2_with fail
    exact ⟨⟨_,rfl,rfl⟩,rfl⟩
   ·intro X w4 hH hw;clear hw;clear hH;go_wp2_with fail
    exact ⟨⟨_,rfl,rfl⟩,rfl⟩
   ·intro X w4 hH hw;clear hw;clear hH;go_wp2_with fail
    exact ⟨⟨_,rfl,congrArg (Value.int IntKind.u32) H6.out⟩,rfl⟩
   ·intro X w4 hH hw;clear hw;clear hH;have h5:=H5.out;go_wp2_with fail
    exact ⟨⟨_,rfl,rfl⟩,rfl⟩
   ·intro X w4 hH hw;clear hw;clear hH;go_wp2_with fail
    exact ⟨⟨_,rfl,rfl⟩,rfl⟩
   ·intro X w4 hH hw;clear hw;obtain ⟨-,u,v,hX⟩:=hH;have y0:=hX.cell (i:=1) rfl;have yf:=hX.free;obtain ⟨W6,hW6,hg6⟩:∃ W6,W6=w4.setCell ⟨W3.heap.size,1,none⟩ (.int .u32 (w32 (rd ||| more)))/\gM W3.heap.size (.string nm) (.int .u32 (w32 (rd ||| more))) (.int .u32 (w32 (wr ||| (more <<< 3)))) (.int .i64 pg) 10 w4 W6:=⟨_,rfl,(Only.refl (fun k=>k=W3.heap.size) w4).setIn rfl _,fun u v h=>h.set 1 _⟩;have HX6:=zh (hg6.2 _ _ hX);have HG6:=zh hg6;have HW6:=zh hW6;clear hX hg6 hW6;go_wp2_with fail
    rw [<- HW6.out];exact ⟨⟨undef,rfl,⟨_,HX6.out⟩⟩,HG6.out⟩
   ·intro X w4 hH hw;clear hw;clear hH;go_wp2_with fail
    exact ⟨⟨_,rfl,rfl⟩,rfl⟩
   ·intro X w4 hH hw;clear hw;obtain ⟨-,u,v,hX⟩:=hH;have y0:=hX.cell (i:=2) rfl;have yf:=hX.free;obtain ⟨W6,hW6,hg6⟩:∃ W6,W6=w4.setCell ⟨W3.heap.size,2,none⟩ (.int .u32 (w32 (wr ||| (more <<< 3))))/\gM W3.heap.size (.string nm) (.int .u32 (w32 (rd ||| more))) (.int .u32 (w32 (wr ||| (more <<< 3)))) (.int .i64 pg) 12 w4 W6:=⟨_,rfl,(Only.refl (fun k=>k=W3.heap.size) w4).setIn rfl _,fun u v h=>h.set 2 _⟩;have HX6:=zh (hg6.2 _ _ hX);have HG6:=zh hg6;have HW6:=zh hW6;clear hX hg6 hW6;go_wp2_with fail
    rw [<- HW6.out];exact ⟨⟨undef,rfl,⟨_,HX6.out⟩⟩,HG6.out⟩
  ·intro X w6 hH hp;have hM6:=zpY (hp 10 (Nat.le_of_ble_eq_true (by kernel_rfl))) (hp 12 (Nat.le_of_ble_eq_true (by kernel_rfl)));simp only [zfb,zos,zob,zoc,zot,Nat.reduceAdd,Act.put,zs1,zs3,zs2];have hs6:=hH.1.size;obtain ⟨W7,hW7,hb7,hX7,hs7⟩:=box1 w6 [.string { data:=#[] },.int .u32 (w32 r),.int .u32 (w32 m),.int .i64 0] 61;have HW7:=zh hW7;have HO:=zh hX7;have HM:=zh (hM6.below hb7 (zr _));have HY:=zh ((hH.1.own HY5.out (show ¬ w.heap.size=W3.heap.size by omega)).below hb7 (zr _));have HP:=zh ((hH.1.own HP5.out (show ¬ w2.heap.size=W3.heap.size by omega)).below hb7 (zr _));have Hb:=zh ((Hb5.out.trans (hH.1.below (B:=w.heap.size) (fun k e=>by omega) (by omega))).trans (hb7.mono (by omega)));have hs7a:W7.heap.size<=w6.heap.size+1:=by omega
   have hs7b:w6.heap.size+1<=W7.heap.size:=by omega
   clear hH hp hM6 hW7 hb7 hX7 hs7 HX5 HY5 HP5 Hb5;go_upto_region 8 with (fail)
   rw [<- HW7.out];obtain ⟨cP0,cP1,cP2,cP3⟩:=yc4 HP.out;obtain ⟨cY0,cY1,cY2,cY3⟩:=yc4 HY.out;go_wp2_with fail
   go_at_call 26;refine (HF1.out _).mono ?_;rintro e8 w8 ⟨rfl,hb8⟩;have hs8:=hb8.size;replace HP:=zh (HP.out.below hb8 (zr _));replace HY:=zh (HY.out.below hb8 (zr _));replace HM:=zh (HM.out.below hb8 (zr _));replace HO:=zh (HO.out.below hb8 (zr _));replace Hb:=zh (Hb.out.trans (hb8.mono Hb.out.size));clear hb8 cP0 cP1 cP2 cP3 cY0 cY1 cY2 cY3
   try
    have HF2:=zh (fun W=>by have:=HF2.out W;rw [Hfw.out (by first | rfl | trivial)] at this;exact this);obtain ⟨cP0,cP1,cP2,cP3⟩:=yc4 HP.out;obtain ⟨cM0,cM1,cM2,cM3⟩:=yc4 HM.out;go_wp2_with fail
    go_at_call 26;refine (HF2.out _).mono ?_;rintro e8 w8 ⟨rfl,hb8⟩;have hs8:=hb8.size;replace HP:=zh (HP.out.below hb8 (zr _));replace HY:=zh (HY.out.below hb8 (zr _));replace HM:=zh (HM.out.below hb8 (zr _));replace HO:=zh (HO.out.below hb8 (zr _));replace Hb:=zh (Hb.out.trans (hb8.mono Hb.out.size));clear hb8 cP0 cP1 cP2 cP3 cM0 cM1 cM2 cM3
   obtain ⟨cY0,cY1,cY2,cY3⟩:=yc4 HY.out;go_wp2_with fail
   go_at_call 26;refine (HF3.out _).mono ?_;rintro e8 w8 ⟨rfl,hb8⟩;have hs8:=hb8.size;replace HP:=zh (HP.out.below hb8 (zr _));replace HY:=zh (HY.out.below hb8 (zr _));replace HM:=zh (HM.out.below hb8 (zr _));replace HO:=zh (HO.out.below hb8 (zr _));replace Hb:=zh (Hb.out.trans (hb8.mono Hb.out.size));clear hb8 cY0 cY1 cY2 cY3;obtain ⟨cP0,cP1,cP2,cP3⟩:=yc4 HP.out;obtain ⟨cO0,cO1,cO2,cO3⟩:=yc4 HO.out;go_wp2_with fail
   go_at_call 26;refine (HF4.out _).mono ?_;rintro e8 w8 ⟨rfl,hb8⟩;have hs8:=hb8.size;replace HP:=zh (HP.out.below hb8 (zr _));replace HY:=zh (HY.out.below hb8 (zr _));replace HM:=zh (HM.out.below hb8 (zr _));replace HO:=zh (HO.out.below hb8 (zr _));replace Hb:=zh (Hb.out.trans (hb8.mono Hb.out.size));clear hb8 cP0 cP1 cP2 cP3 cO0 cO1 cO2 cO3;go_wp2_with fail
   exact bodyPost_ret (v:=.bool true) (by simp [results,Tryz.results8,go_sem]) rfl ⟨rfl,Hb.out⟩
end Go.Proofs.YtdhikpkecmaplaaGreatDoor
