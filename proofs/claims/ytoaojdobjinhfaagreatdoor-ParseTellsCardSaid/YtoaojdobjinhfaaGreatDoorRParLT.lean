/- The reference parser's value, walked; the contracts of the readers of statements. -/
import Derived.Test.YtoaojdobjinhfaaGreatDoorRParET
import Derived.Test.YtoaojdobjinhfaaGreatDoorRParOC
set_option linter.unusedSimpArgs false
set_option linter.unusedVariables false
set_option maxRecDepth 100000
set_option maxHeartbeats 1000000
namespace Go.Proofs.YtoaojdobjinhfaaGreatDoor
open Go.RowKit

theorem zeH (l:List Tok) (v:Value) (hG:Good l) (hm:l.length≤4611686018427387904) (i o:Nat) (w:World) (hT:Toks w l v) (hi:i < l.length) (ho:o≤300) :
  Calls Tryz.prog 113 #[v,.int .i64 i,.int .i64 o] w fun e w'=>zb4 l i w w' e (zaz l i o)∧Below w.heap.size w w':=by
 obtain ⟨q1,hq1⟩:∃ q,isS l i [61]=q:=⟨_,rfl⟩;have HI1:Hid (∀ w',Below w.heap.size w w'→Calls Tryz.prog 114 #[v,.int .i64 i,.string { data:=#[61] }] w' fun e w''=>e=.returned (.bool q1)∧w'=w''):=zbO hT hi hq1;have HT:=zh hT;have hnx:q1=true→i+1 < l.length:=fun h=>hG.is_next hi (by rw [hq1,h])
 have HE:Hid (q1=true→∀ w',Below w.heap.size w w'→Calls Tryz.prog 72 #[v,.int .i64 ((i:Int)+1),.int .i64 o,.int .i64 1] w' fun e w''=>zb4 l (i+1) w' w'' e (zaA l (i+1) o 1)∧Below w'.heap.size w' w''):=zh (fun h w' hb=>ziI l v hG hm (i+1) o 1 w' (Sl.below (by omega) hT hb (zr _)) (hnx h) ho (by omega));have HS:Hid (∀ j,j < l.length→∀ q,isS l j [59]=q→Hid (∀ w',Below w.heap.size w w'→Calls Tryz.prog 114 #[v,.int .i64 j,.string { data:=#[59] }] w' fun e w''=>e=.returned (.bool q)∧w'=w'')):=zh (fun j hj q hq=>zbO hT hj hq);have HF:Hid (zaz l i o=if q1=false then .err i 120 else (zaA l (i+1) o 1).andThen fun x j=>if isS l j [59]=false then .err j 120 else .ok x (j+1)):=zh (by rw [zaz,hq1]);have HNx:Hid (∀ j,j < l.length→isS l j [59]=true→j+1 < l.length):=zh (fun j hj h=>hG.is_next hj h);obtain ⟨final,hfin⟩:∃ r,zaz l i o=r:=⟨_,rfl⟩;rw [hfin] at HF ⊢;have hHw:=OwnV.new w 29 zeroE;have hbW:Below w.heap.size w (w.alloc (.cells zeroE.toArray 29)):=(Below.refl _ _).alloc (zr _) _;obtain ⟨W0,hW0⟩:∃ W0,W0=w.alloc (.cells zeroE.toArray 29):=⟨_,rfl⟩;rw [← hW0] at hHw hbW;simp only [zeroE] at hW0;have HBx:=zh hHw;have Hb0:=zh hbW;have hsz:w.heap.size < W0.heap.size:=hHw.lt;have hi2:(i:Int)≤4611686018427387904:=by omega
 generalize zaA l (i+1) o 1=R at *
 clear hfin hq1 hT hHw hbW;go_enter Tryz.func113,Tryz.ntmps113
 go_wp2_with fail
 rw [← hW0];clear hW0;go_at_call 114;refine (HI1.out _ Hb0.out).mono ?_;rintro e1 w1 ⟨rfl,rfl⟩
 cases q1 with
 | false =>
  have Hf2:Hid (final=.err i 120):=zh (by rw [HF.out,if_pos rfl]);have x0:=HBx.out.cell (i:=0) rfl;have x1:=HBx.out.cell (i:=1) rfl;have x2:=HBx.out.cell (i:=2) rfl;have x3:=HBx.out.cell (i:=3) rfl;have f0:=HBx.out.free;go_wp2_with fail
  refine bodyPost_ret (v:=.tuple #[.agg #[.int .u8 0,.int .i64 0,.string { data:=#[] },.slice none 0 0],.int .i64 i,.int .i64 120]) (by simp [results,Tryz.results113,go_sem,x0,x1,x2,x3]) rfl ⟨by rw [Hf2.out];exact ⟨_,_,_,_,_,_,rfl,.inl rfl,hi⟩,?_⟩
  exact (((Hb0.out.setCell (zr _) _).setCell (zr _) _).setCell (zr _) _).setCell (zr _) _
 | true =>
  have HE1:=zh (HE.out rfl);have hi3:=hnx rfl;go_wp2_with fail
  go_at_call 72;refine (HE1.out _ Hb0.out).mono ?_;rintro e2 w2 ⟨he2,hb2⟩;have HBx2:=zh (HBx.out.below hb2 (zr _));have hle2:w.heap.size+1≤w2.heap.size:=by have:=hb2.size;omega
  have Hb2:=zh (Hb0.out.trans (hb2.mono Hb0.out.size));clear hb2 HE HE1 HI1 hnx
  cases R with
  | err a2 c =>
   obtain ⟨op,n,nm,ad,m,cp,rfl,hc,hal⟩:=he2;have Hf3:Hid (final=.err a2 c):=zh (by rw [HF.out,if_neg (by decide)];rfl);have Hc:=zh hc;have hc0:(c != 0)=true:=by rcases hc with rfl | rfl <;> rfl
   have hBx:=HBx2.out.alloc (.cells #[.int .u8 op,.int .i64 n,.string nm,.slice ad m cp] 29);have x0:=hBx.cell (i:=0) rfl;have x1:=hBx.cell (i:=1) rfl;have x2:=hBx.cell (i:=2) rfl;have x3:=hBx.cell (i:=3) rfl;have f0:=hBx.free;clear hc hBx;go_wp2_with fail
   refine bodyPost_ret (v:=.tuple #[.agg #[.int .u8 op,.int .i64 n,.string nm,.slice ad m cp],.int .i64 a2,.int .i64 c]) (by simp [results,Tryz.results113,go_sem,x0,x1,x2,x3]) rfl ⟨by rw [Hf3.out];exact ⟨_,_,_,_,_,_,rfl,Hc.out,hal⟩,?_⟩
   exact ((((Hb2.out.alloc Hb2.out.size _).setCell (zr _) _).setCell (zr _) _).setCell (zr _) _).setCell (zr _) _
  | ok x j =>
   obtain ⟨v2,rfl,⟨cs,rfl,hX⟩,hij,hjl⟩:=he2;obtain ⟨op,n,name,args,aa,acap,rfl,rfl⟩:=hX.one;obtain ⟨q2,hq2⟩:∃ q,isS l j [59]=q:=⟨_,rfl⟩;have HI2:=HS.out j hjl q2 hq2;have Hf3:Hid (final=if q2=false then .err j 120 else .ok (.mk op n name args) (j+1)):=zh (by rw [HF.out,if_neg (by decide),← hq2];rfl);have hnx:q2=true→j+1 < l.length:=fun h=>HNx.out j hjl (by rw [hq2,h])
   have hBx:=HBx2.out.alloc (.cells #[.int .u8 op,.int .i64 n,.string (bstr name),.slice aa args.length acap] 29);have hYx:=OwnV.new w2 29 [.int .u8 op,.int .i64 n,.string (bstr name),.slice aa args.length acap];have x0:=hBx.cell (i:=0) rfl;have x1:=hBx.cell (i:=1) rfl;have x2:=hBx.cell (i:=2) rfl;have x3:=hBx.cell (i:=3) rfl;have f0:=hBx.free;have Hb3:=zh (Hb2.out.alloc Hb2.out.size (.cells #[.int .u8 op,.int .i64 n,.string (bstr name),.slice aa args.length acap] 29));have HX:=zh (hX.under ((Below.refl _ _).alloc (zr _) (.cells #[.int .u8 op,.int .i64 n,.string (bstr name),.slice aa args.length acap] 29)) (zr _));have hP:¬ W0.heap.size≤w.heap.size:=by omega
   have HP:=zh hP;clear hBx hYx hX hq2 HF HS HNx hP
   cases q2 with
   | false =>
    have Hf4:Hid (final=.err j 120):=zh (by rw [Hf3.out,if_pos rfl]);clear Hf3;go_wp2_with fail
    go_at_call 114;refine (HI2.out _ Hb3.out).mono ?_;rintro e3 w3 ⟨rfl,rfl⟩;go_wp2_with fail
    refine bodyPost_ret (v:=.tuple #[.agg #[.int .u8 op,.int .i64 n,.string (bstr name),.slice aa args.length acap],.int .i64 j,.int .i64 120]) (by simp [results,Tryz.results113,go_sem,x0,x1,x2,x3]) rfl ⟨by rw [Hf4.out];exact ⟨_,_,_,_,_,_,rfl,.inl rfl,hjl⟩,?_⟩
    exact (((Hb3.out.setCell (zr _) _).setCell (zr _) _).setCell (zr _) _).setCell (zr _) _
   | true =>
    have hj3:=hnx rfl;have Hf4:Hid (final=.ok (.mk op n name args) (j+1)):=zh (by rw [Hf3.out,if_neg (by decide)]);clear Hf3;go_wp2_with fail
    go_at_call 114;refine (HI2.out _ Hb3.out).mono ?_;rintro e3 w3 ⟨rfl,rfl⟩;go_wp2_with fail
    refine bodyPost_ret (v:=.tuple #[.agg #[.int .u8 op,.int .i64 n,.string (bstr name),.slice aa args.length acap],.int .i64 ((j:Int)+1),.int .i64 0]) (by simp [results,Tryz.results113,go_sem,x0,x1,x2,x3]) rfl ⟨?_,(((Hb3.out.setCell (zr _) _).setCell (zr _) _).setCell (zr _) _).setCell (zr _) _⟩;rw [Hf4.out];exact ⟨_,rfl,⟨_,rfl,((((HX.out.set HP.out).set HP.out).set HP.out).set HP.out).weak fun g _ h=>by omega⟩,by omega,hj3⟩
def StsE (l : List Tok) (i : Nat) (w w' : World) (e : Ending) : PR (List St) → Prop
  | .ok xs j => ∃ v, e = .returned (.tuple #[v, .int .i64 j, .int .i64 0]) ∧ (∃ cs, w'.ownsRow w.heap.size 56 6 v xs.length cs ∧ StsC w' (fun g => w.heap.size ≤ g) xs cs) ∧ i < j ∧ j < l.length
  | .err a c => e = .returned (.tuple #[.slice none 0 0, .int .i64 a, .int .i64 c]) ∧ (c = 120 ∨ c = 121) ∧ a < l.length
theorem zhj:(Tryz.prog.info? 56).map (fun i=>(i.zero,i.size,i.bytes))=some (some (.agg #[.int .u8 0,.int .i64 0,.string ByteArray.empty,.slice none 0 0,.slice none 0 0,.slice none 0 0]),6,104):=by kernel_rfl
theorem zhk (l:List Tok) (S:Nat→Nat→PR St) (v:Value) (i o:Nat) (w:World) (hS:StmtC l S i) (hT:Toks w l v) (hG:Good l) (hi:i < l.length) (hm:l.length≤1000000) (ho:o≤300) :
  Calls Tryz.prog 147 #[v,.int .i64 i,.int .i64 o] w fun e w'=>StsE l i w w' e (zaB l S i o)∧Below w.heap.size w w':=by
 have HEn:Hid (Calls Tryz.prog 146 #[v,.int .i64 i,.string { data:=#[123] },.int .i64 o] w _):=zh (zd8 l v i [123] o w hT hi (by omega));have HS:Hid (zaB l S i o=(zay l i [123] o).andThen fun _ j=>zaX l S o (l.length+1 - j) [] j):=zh rfl;generalize zaB l S i o=final at HS ⊢
 cases hen:zay l i [123] o with
 | err a c =>
  have Hf:Hid (final=.err a c):=zh (by rw [HS.out,hen];rfl)
  have hac:a=i∧(c=120∨c=121):=by
   unfold zay at hen;split at hen
   ·cases hen;exact ⟨rfl,.inl rfl⟩
   ·split at hen
    ·cases hen;exact ⟨rfl,.inr rfl⟩
    ·cases hen
  obtain ⟨rfl,hc⟩:=hac;have hc0:(c != 0)=true:=by rcases hc with rfl | rfl <;> rfl
  rw [hen] at HEn;unfold zcE at HEn;have Hc:=zh hc;clear hen hc;go_enter Tryz.func147,Tryz.ntmps147
  go_wp2_with fail
  go_at_call 146;refine HEn.out.mono ?_;rintro e1 w2 ⟨rfl,rfl⟩;go_wp2_with fail
  exact bodyPost_ret (v:=.tuple #[.slice none 0 0,.int .i64 a,.int .i64 c]) (by simp [results,Tryz.results147,go_sem]) rfl ⟨by rw [Hf.out];exact ⟨rfl,Hc.out,hi⟩,Below.refl _ _⟩
 | ok x j =>
  have hj:j=i+1∧isS l i [123]=true∧o < 200:=by
   unfold zay at hen;split at hen
   ·cases hen
   ·rename_i h1
    split at hen
    ·cases hen
    ·cases hen;exact ⟨rfl,by simpa using h1,by omega⟩
  obtain ⟨rfl,his,ho2⟩:=hj;have hi1:=hG.is_next hi his;have Hf:Hid (final=zaX l S o (l.length+1 - (i+1)) [] (i+1)):=zh (by rw [HS.out,hen];rfl);rw [hen] at HEn;unfold zcE at HEn;have HT:=zh hT;obtain ⟨ta,tcap,rfl,_,_⟩:=Sl.form hT;clear hen his hT HS;go_enter Tryz.func147,Tryz.ntmps147
  go_wp2_with fail
  go_at_call 146;refine HEn.out.mono ?_;rintro e1 w2 ⟨rfl,rfl⟩;go_wp2_with fail
  go_loopw [1,6,7,8,10,11,12,13,25,26,27,28,29,30,31,32,33,34,35,36,37,38,39,40,41,42,43,44,45,46] (fun t1 _ _ _ t10 _ _ _ _ _ _ _ _ _ _ _ _ _ _ _ _ _ _ _ _ _ _ _ _ _ wr=>∃ (k at':Nat) (F:Nat) (xs:List St) (cs:List Value),xs.length=k∧k≤at'∧i < at'∧at' < l.length∧l.length - at' < F∧t1=.int .i64 at'∧wr.ownsRow w.heap.size 56 6 t10 k cs∧Hid (StsC wr (fun g=>w.heap.size≤g∧t10.ownBlock≠some g) xs cs)∧Hid (final=zaX l S o F xs at')∧Hid (Below w.heap.size w wr)) (fun t1 _ _ _ _ _ _ _ _ _ _ _ _ _ _ _ _ _ _ _ _ _ _ _ _ _ _ _ _ _ _=>l.length - (intOf t1).toNat)
  case atStart=>exact ⟨0,i+1,l.length+1 - (i+1),[],[],rfl,by omega,by omega,hi1,by omega,by first | rfl | go_num,World.ownsRow_nil _ _ _ _,zh .nil,zh Hf.out,zh (Below.refl _ _)⟩
  case round =>
   obtain ⟨k,at',F,xs,cs,hxs,hka,hia,hal,hF,rfl,hown,HX,Hk,Hb⟩:=hrel;obtain ⟨F,rfl⟩:∃ F',F=F'+1:=⟨F - 1,by omega⟩;have HTr:Hid (Toks wr l (.slice ta l.length tcap)):=zh (Sl.below (by omega) HT.out Hb.out (zr _));obtain ⟨q,hq⟩:∃ q,isS l at' [125]=q:=⟨_,rfl⟩;have HI:Hid (∀ w',Below wr.heap.size wr w'→Calls Tryz.prog 114 #[.slice ta l.length tcap,.int .i64 at',.string { data:=#[125] }] w' fun e w''=>e=.returned (.bool q)∧w'=w''):=zbO HTr.out hal hq;have Hf2:Hid (final=if q=true then .ok xs (at'+1) else (S at' (o+1)).andThen fun x j=>zaX l S o F (xs++[x]) j):=zh (by rw [Hk.out,zaX,hq]);have hnx:q=true→at'+1 < l.length:=fun h=>hG.is_next hal (by rw [hq,h])
   have hat2:(at':Int)≤1000000:=by omega
   clear hq Hk
   cases q with
   | true =>
    have Hf3:Hid (final=.ok xs (at'+1)):=zh (by rw [Hf2.out,if_pos rfl]);have HX2:Hid (StsC wr (fun g=>w.heap.size≤g) xs cs):=zh (HX.out.weak fun g _ h=>h.1);have Hown:Hid (wr.ownsRow w.heap.size 56 6 u10 xs.length cs):=zh (by rw [hxs];exact hown);have hnx2:=hnx rfl;clear hown hxs HX Hf2;go_wp2_with fail
    go_at_call 114;refine (HI.out _ (Below.refl _ _)).mono ?_;rintro e1 w2 ⟨rfl,rfl⟩;go_wp2_with fail
    exact bodyPost_ret (v:=.tuple #[u10,.int .i64 ((at':Int)+1),.int .i64 0]) (by simp [results,Tryz.results147,go_sem]) rfl ⟨by rw [Hf3.out];exact ⟨_,rfl,⟨cs,Hown.out,HX2.out⟩,by omega,hnx2⟩,Hb.out⟩
   | false =>
    have HK:Hid (final=(S at' (o+1)).andThen fun x j=>zaX l S o F (xs++[x]) j):=zh (by rw [Hf2.out,if_neg (by decide)]);have HSt:=zh (hS at' (o+1) _ wr (by omega) (by omega) (by omega) HTr.out)
    generalize S at' (o+1)=R at *
    clear Hf2 hnx;go_wp2_with fail
    go_at_call 114;refine (HI.out _ (Below.refl _ _)).mono ?_;rintro e1 w2 ⟨rfl,rfl⟩;go_wp2_with fail
    go_at_call 71;refine HSt.out.mono ?_;rintro e1 w2 ⟨he1,hb2⟩;have Hb2:=zh hb2;have hs2:w.heap.size≤w2.heap.size:=Nat.le_trans Hb.out.size hb2.size;clear hb2
    cases R with
    | err a c =>
     obtain ⟨op,n,nm,a1,a2,a3,m1,m2,m3,p1,p2,p3,rfl,hc,hal2⟩:=he1;have Hf3:Hid (final=.err a c):=zh HK.out;have hc0:(c != 0)=true:=by rcases hc with rfl | rfl <;> rfl
     have Hc:=zh hc;clear hc;go_wp2_with fail
     exact bodyPost_ret (v:=.tuple #[.slice none 0 0,.int .i64 a,.int .i64 c]) (by simp [results,Tryz.results147,go_sem]) rfl ⟨by rw [Hf3.out];exact ⟨rfl,Hc.out,hal2⟩,(Hb.out.trans (Hb2.out.mono Hb.out.size)).alloc hs2 _⟩
    | ok x j2 =>
     obtain ⟨v2,rfl,⟨cs2,rfl,hX2⟩,hj2,hj3⟩:=he1;obtain ⟨op,n,name,es,body,els,ae,ab,al,pe,pb,pl,rfl,rfl⟩:=hX2.one;have Hf3:Hid (final=zaX l S o F (xs++[.mk op n name es body els]) j2):=zh HK.out;have HX2:=zh hX2;have hown2:=(zbu hown Hb2.out (zr _)).alloc (.cells #[.int .u8 op,.int .i64 n,.string (bstr name),.slice ae es.length pe,.slice ab body.length pb,.slice al els.length pl] 56);have Hbw:=zh ((Hb.out.trans (Hb2.out.mono Hb.out.size)).alloc hs2 (.cells #[.int .u8 op,.int .i64 n,.string (bstr name),.slice ae es.length pe,.slice ab body.length pb,.slice al els.length pl] 56));clear hX2;go_wp2_with (at_builtin;refine zbj rfl (.tmp 42) (.tmp 44) 24 rfl hown2 zhj Tryz.underlying24 rfl (by decide) rfl 1 1 (by show Value.slice (some ⟨w2.heap.size+1,0,none⟩) 1 1=_;simp) rfl rfl (by unfold maxLen;omega) (by omega) Hbw.out.size ?_;intro v' w3 hown3 hg3 hb4 hat4)
     go_roundw
     case rel=>exact ⟨k+1,j2,F,xs++[.mk op n name es body els],cs++[.int .u8 op,.int .i64 n,.string (bstr name),.slice ae es.length pe,.slice ab body.length pb,.slice al els.length pl],by rw [List.length_append];simp [hxs],by omega,by omega,hj3,by omega,rfl,hown3,zh (ziF hown HX.out Hb2.out HX2.out Hb.out.size ((Below.refl _ _).alloc (zr _) _) hg3 hat4),Hf3,zh (Hbw.out.trans hb4)⟩
     case measure=>simp [intOf];omega
theorem zc6 {w:World} {m B:Nat} {op n:Int} {name:List UInt8} {es:List Ex} {body els:List St} {ve vb vl:Value} (h1:EsV w m es ve) (h2:SsV w m body vb) (h3:SsV w m els vl) (hB:B≤m):StV w (fun g=>B≤g) (.mk op n name es body els) (.agg #[.int .u8 op,.int .i64 n,.string (bstr name),ve,vb,vl]):=by
 obtain ⟨c1,a1,a2,a3⟩:=h1;obtain ⟨c2,b1,b2,b3⟩:=h2;obtain ⟨c3,d1,d2,d3⟩:=h3;exact ⟨_,rfl,(StsC.cons (P:=fun g=>m≤g) a1 a2 a3 b1 b2 b3 d1 d2 d3 .nil).weak fun g _ h=>Nat.le_trans hB h⟩
def zbh : List Value := [.int .u8 0, .int .i64 0, .string { data := #[] }, .slice none 0 0, .slice none 0 0, .slice none 0 0]
theorem set1 {W:World} {g:Nat} {e:TypeId} {vs:List Value} (h:OwnV W g e vs) (i:Nat) (v:Value):∃ W',W'=W.setCell ⟨g,i,none⟩ v∧OwnV W' g e (vs.set i v)∧W.grownBy W' (some g):=⟨_,rfl,h.set i v,zaY _ _ _ _⟩
theorem set6 (W:World) (g:Nat) (v0 v1 v2 v3 v4 v5:Value) :
  ∃ W',W'=(((((W.setCell ⟨g,0,none⟩ v0).setCell ⟨g,1,none⟩ v1).setCell ⟨g,2,none⟩ v2).setCell ⟨g,3,none⟩ v3).setCell ⟨g,4,none⟩ v4).setCell ⟨g,5,none⟩ v5∧W.grownBy W' (some g):=
 ⟨_,rfl,zbc (zbc (zbc (zbc (zbc (zaY _ _ _ _) (zaY _ _ _ _)) (zaY _ _ _ _)) (zaY _ _ _ _)) (zaY _ _ _ _)) (zaY _ _ _ _)⟩
theorem ze9 {l:List Tok} (hG:Good l) (hm:l.length≤4611686018427387904) (i:Nat):ExprC l (zaA l) i:=fun k o least v w _ h2 h3 h4 h5=>ziI l v hG hm k o least w h5 h2 h3 h4

theorem ziJ (l:List Tok) (S:Nat→Nat→PR St) (v:Value) (hG:Good l) (hm:l.length≤1000000) (f i o:Nat) (w:World) (hS:StmtC l S i) (hT:Toks w l v) (hi:i+1 < l.length) (ho:o≤300) (hq1:isS l i [119,104,105,108,101]=true) :
  Calls Tryz.prog 115 #[v,.int .i64 i,.int .i64 o] w fun e w'=>zb5 l i w w' e (zau l S (f+1) i o)∧Below w.heap.size w w':=by
 have HT:=zh hT;have HI1:Hid (∀ w',Below w.heap.size w w'→Calls Tryz.prog 114 #[v,.int .i64 i,.string { data:=#[119,104,105,108,101] }] w' fun e w''=>e=.returned (.bool true)∧w'=w''):=zbO hT (by omega) hq1;have HN:Hid (∀ w',Below w.heap.size w w'→Calls Tryz.prog 112 #[v,.int .i64 ((i:Int)+1),.int .i64 o,.string { data:=#[40] },.string { data:=#[41] },.int .i64 1] w' fun e w''=>ExsE l (i+1) w' w'' e (zad l (zaA l) (i+1) o [40] [41] 1)∧Below w'.heap.size w' w''):=zh (fun (w':World) (hb:Below w.heap.size w w')=>zcz l (zaA l) v (i+1) o 1 [40] [41] w' (ze9 hG (by omega) _) (Sl.below (by omega) hT hb (zr _)) hG hi (by omega) ho (by omega) (by omega));have HB:Hid (∀ j,i < j→j < l.length→∀ (o:Nat),o≤300→∀ w',Below w.heap.size w w'→Calls Tryz.prog 147 #[v,.int .i64 j,.int .i64 o] w' fun e w''=>StsE l j w' w'' e (zaB l S j o)∧Below w'.heap.size w' w''):=zh (fun j h1 h2 o ho (w':World) (hb:Below w.heap.size w w')=>zhk l S v j o w' (hS.mono (by omega)) (Sl.below (by omega) hT hb (zr _)) hG h2 hm ho);have HF:Hid (zau l S (f+1) i o=(zad l (zaA l) (i+1) o [40] [41] 1).andThen fun x j=>(zaB l S j o).andThen fun body k=>.ok (.mk 5 0 [] x body []) k):=zh (by rw [zau,hq1];rfl);obtain ⟨final,hfin⟩:∃ r,zau l S (f+1) i o=r:=⟨_,rfl⟩;rw [hfin] at HF ⊢;obtain ⟨W0,hW0,hb0,hR0,hS0,hsz⟩:=zbD w zbh [.int .u8 4,.int .i64 0,.string { data:=#[] },.slice none 0 0,.slice none 0 0,.slice none 0 0] 56 56;simp only [zbh] at hW0;have Hb0:=zh hb0;have HR0:=zh hR0;have HS0:=zh hS0;have hi2:(i:Int)≤1000000:=by omega
 have HneG:Hid (some w.heap.size≠some (w.heap.size+1)):=zh (fun e=>by have:=Option.some.inj e;omega)
 generalize zad l (zaA l) (i+1) o [40] [41] 1=R1 at *
 clear hfin hq1 hT hb0 hR0 hS0 hS;go_enter Tryz.func115,Tryz.ntmps115
 go_wp2_with fail
 rw [← hW0];clear hW0;go_at_call 114;refine (HI1.out _ Hb0.out).mono ?_;rintro e1 w1 ⟨rfl,rfl⟩;have hSx:=HS0.out;have s0:=hSx.cell (i:=0) rfl;have s1:=hSx.cell (i:=1) rfl;have s2:=hSx.cell (i:=2) rfl;have s3:=hSx.cell (i:=3) rfl;have s4:=hSx.cell (i:=4) rfl;have s5:=hSx.cell (i:=5) rfl;have sf:=hSx.free;clear hSx;go_wp2_with fail
 obtain ⟨W1,hW1,hS1,hg1⟩:=set1 HS0.out 0 (.int .u8 5);rw [← hW1];have HS1:Hid (OwnV W1 (w.heap.size+1) 56 [.int .u8 5,.int .i64 0,.string { data:=#[] },.slice none 0 0,.slice none 0 0,.slice none 0 0]):=zh hS1;have HR1:=zh (HR0.out.grown hg1 HneG.out);have Hb1:=zh (Hb0.out.trans (zbz hg1 (by omega) Hb0.out.size));have hsz1:w.heap.size+2≤W1.heap.size:=Nat.le_trans hsz hg1.size;clear hW1 hS1 hg1 s0 s1 s2 s3 s4 s5 sf HS0 HR0 Hb0 hsz;go_at_call 112;refine (HN.out _ Hb1.out).mono ?_;rintro e2 w2 ⟨he2,hb2⟩;have HS2:=zh (HS1.out.below hb2 (zr _));have HR2:=zh (HR1.out.below hb2 (zr _));have Hb2:=zh (Hb1.out.trans (hb2.mono Hb1.out.size));have hsz2:=Nat.le_trans hsz1 hb2.size;clear hb2 HS1 HR1 Hb1 HN HI1;have hSx:=HS2.out;have s0:=hSx.cell (i:=0) rfl;have s1:=hSx.cell (i:=1) rfl;have s2:=hSx.cell (i:=2) rfl;have s3:=hSx.cell (i:=3) rfl;have s4:=hSx.cell (i:=4) rfl;have s5:=hSx.cell (i:=5) rfl;have sf:=hSx.free;clear hSx
 cases R1 with
 | err a c =>
  obtain ⟨rfl,hc,hal⟩:=he2;have Hf2:Hid (final=.err a c):=zh HF.out;have hc0:(c != 0)=true:=by rcases hc with rfl | rfl <;> rfl
  have Hc:=zh hc;clear hc;have hSx:=HR2.out;have x0:=hSx.cell (i:=0) rfl;have x1:=hSx.cell (i:=1) rfl;have x2:=hSx.cell (i:=2) rfl;have x3:=hSx.cell (i:=3) rfl;have x4:=hSx.cell (i:=4) rfl;have x5:=hSx.cell (i:=5) rfl;have xf:=hSx.free;clear hSx;go_wp2_with fail
  refine bodyPost_ret (v:=.tuple #[.agg #[.int .u8 5,.int .i64 0,.string { data:=#[] },.slice none 0 0,.slice none 0 0,.slice none 0 0],.int .i64 a,.int .i64 c]) (by simp [results,Tryz.results115,go_sem,x0,x1,x2,x3,x4,x5]) rfl ⟨?_,((((((Hb2.out).setCell (zr _) _).setCell (zr _) _).setCell (zr _) _).setCell (zr _) _).setCell (zr _) _).setCell (zr _) _⟩;rw [Hf2.out]
  exact ⟨_,_,_,_,_,_,_,_,_,_,_,_,rfl,Hc.out,hal⟩
 | ok xs j =>
  obtain ⟨v2,rfl,⟨cs,hown,hX⟩,hij,hjl⟩:=he2;replace hX:=hX.weak1;have HE:=zh (EsV.of_own hown hX hsz1);obtain ⟨a2,cap2,rfl⟩:=HE.out.form;have HB1:=zh (HB.out j (by omega) hjl o ho);obtain ⟨R2,hR2⟩:∃ r,zaB l S j o=r:=⟨_,rfl⟩;rw [hR2] at HB1;have HF2:=zh HF.out;simp only [PR.andThen] at HF2;rw [hR2] at HF2;clear hX hown hR2 HF;go_wp2_with fail
  obtain ⟨W3,hW3,hS3,hg3⟩:=set1 HS2.out 3 (.slice a2 xs.length cap2);rw [← hW3];have HS3:Hid (OwnV W3 (w.heap.size+1) 56 [.int .u8 5,.int .i64 0,.string { data:=#[] },.slice a2 xs.length cap2,.slice none 0 0,.slice none 0 0]):=zh hS3;have HR3:=zh (HR2.out.grown hg3 HneG.out);have Hb3:=zh (Hb2.out.trans (zbz hg3 (by omega) Hb2.out.size));have hsz3:w.heap.size+2≤W3.heap.size:=Nat.le_trans hsz2 hg3.size;have HE3:=zh (HE.out.grown hg3 (by omega));clear hW3 hS3 hg3 s0 s1 s2 s3 s4 s5 sf HS2 HR2 Hb2 hsz2 HE;go_at_call 147;refine (HB1.out _ Hb3.out).mono ?_;rintro e4 w4 ⟨he4,hb4⟩;have HS4:=zh (HS3.out.below hb4 (zr _));have HR4:=zh (HR3.out.below hb4 (zr _));have HE4:=zh (HE3.out.below hb4);have Hb4:=zh (Hb3.out.trans (hb4.mono Hb3.out.size));have hsz4:=Nat.le_trans hsz3 hb4.size;clear hb4 HS3 HR3 Hb3 HE3 HB1;have hSx:=HS4.out;have s0:=hSx.cell (i:=0) rfl;have s1:=hSx.cell (i:=1) rfl;have s2:=hSx.cell (i:=2) rfl;have s3:=hSx.cell (i:=3) rfl;have s4:=hSx.cell (i:=4) rfl;have s5:=hSx.cell (i:=5) rfl;have sf:=hSx.free;clear hSx
  cases R2 with
  | err a c =>
   obtain ⟨rfl,hc,hal⟩:=he4;have Hf2:Hid (final=.err a c):=zh HF2.out;have hc0:(c != 0)=true:=by rcases hc with rfl | rfl <;> rfl
   have Hc:=zh hc;clear hc;have hSx:=HR4.out;have x0:=hSx.cell (i:=0) rfl;have x1:=hSx.cell (i:=1) rfl;have x2:=hSx.cell (i:=2) rfl;have x3:=hSx.cell (i:=3) rfl;have x4:=hSx.cell (i:=4) rfl;have x5:=hSx.cell (i:=5) rfl;have xf:=hSx.free;clear hSx;go_wp2_with fail
   refine bodyPost_ret (v:=.tuple #[.agg #[.int .u8 5,.int .i64 0,.string { data:=#[] },.slice a2 xs.length cap2,.slice none 0 0,.slice none 0 0],.int .i64 a,.int .i64 c]) (by simp [results,Tryz.results115,go_sem,x0,x1,x2,x3,x4,x5]) rfl ⟨?_,((((((Hb4.out).setCell (zr _) _).setCell (zr _) _).setCell (zr _) _).setCell (zr _) _).setCell (zr _) _).setCell (zr _) _⟩;rw [Hf2.out]
   exact ⟨_,_,_,_,_,_,_,_,_,_,_,_,rfl,Hc.out,hal⟩
  | ok body k =>
   obtain ⟨v4,rfl,⟨cs4,hown,hX⟩,hjk,hkl⟩:=he4;have HBd:=zh (SsV.of_own hown hX hsz3);obtain ⟨a4,cap4,rfl⟩:=HBd.out.form;obtain ⟨W5,hW5,hS5,hg5⟩:=set1 HS4.out 4 (.slice a4 body.length cap4);have HS5:Hid (OwnV W5 (w.heap.size+1) 56 [.int .u8 5,.int .i64 0,.string { data:=#[] },.slice a2 xs.length cap2,.slice a4 body.length cap4,.slice none 0 0]):=zh hS5;have HR5:=zh (HR4.out.grown hg5 HneG.out);have Hb5:=zh (Hb4.out.trans (zbz hg5 (by omega) Hb4.out.size));have hsz5:w.heap.size+2≤W5.heap.size:=Nat.le_trans hsz4 hg5.size;have HE5:=zh (HE4.out.grown hg5 (by omega));have HBd5:=zh (HBd.out.grown hg5 (by omega));have HW5:=zh hW5;clear hX hown hW5 hS5 hg5 HE4 HBd;go_upto_region 12 with (fail)
   rw [← HW5.out];clear s0 s1 s2 s3 s4 s5 sf HS4 HR4 Hb4 hsz4 HW5;have hSx:=HS5.out;have s0:=hSx.cell (i:=0) rfl;have s1:=hSx.cell (i:=1) rfl;have s2:=hSx.cell (i:=2) rfl;have s3:=hSx.cell (i:=3) rfl;have s4:=hSx.cell (i:=4) rfl;have s5:=hSx.cell (i:=5) rfl;have sf:=hSx.free;clear hSx;have Hf3:Hid (final=.ok (.mk 5 0 [] xs body []) k):=zh HF2.out;have hkl2:=hkl;have hSx:=HR5.out;have x0:=hSx.cell (i:=0) rfl;have x1:=hSx.cell (i:=1) rfl;have x2:=hSx.cell (i:=2) rfl;have x3:=hSx.cell (i:=3) rfl;have x4:=hSx.cell (i:=4) rfl;have x5:=hSx.cell (i:=5) rfl;have xf:=hSx.free;clear hSx;go_wp2_with fail
   refine bodyPost_ret (v:=.tuple #[.agg #[.int .u8 5,.int .i64 0,.string { data:=#[] },.slice a2 xs.length cap2,.slice a4 body.length cap4,.slice none 0 0],.int .i64 k,.int .i64 0]) (by simp [results,Tryz.results115,go_sem,x0,x1,x2,x3,x4,x5]) rfl ⟨?_,((((((Hb5.out).setCell (zr _) _).setCell (zr _) _).setCell (zr _) _).setCell (zr _) _).setCell (zr _) _).setCell (zr _) _⟩;rw [Hf3.out];obtain ⟨W9,hW9,hg9⟩:=set6 W5 w.heap.size (.int .u8 5) (.int .i64 0) (.string { data:=#[] }) (.slice a2 xs.length cap2) (.slice a4 body.length cap4) (.slice none 0 0);rw [← hW9];exact ⟨_,rfl,zc6 ((HE5.out).grown hg9 (by omega)) ((HBd5.out).grown hg9 (by omega)) (SsV.nil _ _) (by omega),by omega,hkl2⟩
theorem zlS (l:List Tok) (S:Nat→Nat→PR St) (v:Value) (hG:Good l) (hm:l.length≤1000000) (f i o:Nat) (w:World) (hS:StmtC l S i) (ih:∀ (k o:Nat) (w:World),i < k→k+1 < l.length→o≤300→Toks w l v→Calls Tryz.prog 115 #[v,.int .i64 k,.int .i64 o] w fun e w'=>zb5 l k w w' e (zau l S f k o)∧Below w.heap.size w w') (hT:Toks w l v) (hi:i+1 < l.length) (ho:o≤300) (hq1:isS l i [119,104,105,108,101]=false) :
  Calls Tryz.prog 115 #[v,.int .i64 i,.int .i64 o] w fun e w'=>zb5 l i w w' e (zau l S (f+1) i o)∧Below w.heap.size w w':=by
 have HT:=zh hT;have HI1:Hid (∀ w',Below w.heap.size w w'→Calls Tryz.prog 114 #[v,.int .i64 i,.string { data:=#[119,104,105,108,101] }] w' fun e w''=>e=.returned (.bool false)∧w'=w''):=zbO hT (by omega) hq1;have HN:Hid (∀ w',Below w.heap.size w w'→Calls Tryz.prog 112 #[v,.int .i64 ((i:Int)+1),.int .i64 o,.string { data:=#[40] },.string { data:=#[41] },.int .i64 1] w' fun e w''=>ExsE l (i+1) w' w'' e (zad l (zaA l) (i+1) o [40] [41] 1)∧Below w'.heap.size w' w''):=zh (fun (w':World) (hb:Below w.heap.size w w')=>zcz l (zaA l) v (i+1) o 1 [40] [41] w' (ze9 hG (by omega) _) (Sl.below (by omega) hT hb (zr _)) hG hi (by omega) ho (by omega) (by omega));have HB:Hid (∀ j,i < j→j < l.length→∀ (o:Nat),o≤300→∀ w',Below w.heap.size w w'→Calls Tryz.prog 147 #[v,.int .i64 j,.int .i64 o] w' fun e w''=>StsE l j w' w'' e (zaB l S j o)∧Below w'.heap.size w' w''):=zh (fun j h1 h2 o ho (w':World) (hb:Below w.heap.size w w')=>zhk l S v j o w' (hS.mono (by omega)) (Sl.below (by omega) hT hb (zr _)) hG h2 hm ho);have HF:Hid (zau l S (f+1) i o=(zad l (zaA l) (i+1) o [40] [41] 1).andThen fun x j=>(zaB l S j o).andThen fun body k=>if isS l k [101,108,115,101]=false then .ok (.mk 4 0 [] x body []) k else if 200≤o then .err k 121 else if isS l (k+1) [105,102]=true then (zau l S f (k+1) (o+1)).map fun y=>.mk 4 0 [] x body [y] else (zaB l S (k+1) (o+1)).map fun other=>.mk 4 0 [] x body other):=zh (by rw [zau,hq1];rfl);have HI2:Hid (∀ k,k < l.length→∀ q,isS l k [101,108,115,101]=q→Hid (∀ w',Below w.heap.size w w'→Calls Tryz.prog 114 #[v,.int .i64 k,.string { data:=#[101,108,115,101] }] w' fun e w''=>e=.returned (.bool q)∧w'=w'')):=zh (fun k hk q hq=>zbO hT hk hq);have HI3:Hid (∀ k,k+1 < l.length→∀ q,isS l (k+1) [105,102]=q→Hid (∀ w',Below w.heap.size w w'→Calls Tryz.prog 114 #[v,.int .i64 ((k:Int)+1),.string { data:=#[105,102] }] w' fun e w''=>e=.returned (.bool q)∧w'=w'')):=zh (fun k hk q hq=>zbO (i:=k+1) hT hk hq);have HNx:Hid (∀ k s,k < l.length→isS l k s=true→k+1 < l.length):=zh (fun k s hk h=>hG.is_next hk h)
 have HEn:Hid (∀ k,k < l.length→isS l k [101,108,115,101]=true→∀ w',Below w.heap.size w w'→Calls Tryz.prog 146 #[v,.int .i64 k,.string { data:=#[101,108,115,101] },.int .i64 o] w' fun e w''=>e=zcE (if 200≤o then .err k 121 else .ok () (k+1))∧w'=w''):=zh (fun k hk hq w' hb=>by
  have:=zd8 l v k [101,108,115,101] o w' (Sl.below (by omega) hT hb (zr _)) hk (by omega);rw [zgA hq] at this
  exact this)
 have HBr:Hid (∀ k,i < k→k+1 < l.length→∀ (o:Nat),o≤300→∀ w',Below w.heap.size w w'→Calls Tryz.prog 115 #[v,.int .i64 k,.int .i64 o] w' fun e w''=>zb5 l k w' w'' e (zau l S f k o)∧Below w'.heap.size w' w''):=zh (fun k h1 h2 o ho w' hb=>ih k o w' h1 h2 ho (Sl.below (by omega) hT hb (zr _)));clear ih;obtain ⟨final,hfin⟩:∃ r,zau l S (f+1) i o=r:=⟨_,rfl⟩;rw [hfin] at HF ⊢;obtain ⟨W0,hW0,hb0,hR0,hS0,hsz⟩:=zbD w zbh [.int .u8 4,.int .i64 0,.string { data:=#[] },.slice none 0 0,.slice none 0 0,.slice none 0 0] 56 56;simp only [zbh] at hW0;have Hb0:=zh hb0;have HR0:=zh hR0;have HS0:=zh hS0;have hi2:(i:Int)≤1000000:=by omega
 have HneG:Hid (some w.heap.size≠some (w.heap.size+1)):=zh (fun e=>by have:=Option.some.inj e;omega)
 generalize zad l (zaA l) (i+1) o [40] [41] 1=R1 at *
 clear hfin hq1 hT hb0 hR0 hS0 hS;go_enter Tryz.func115,Tryz.ntmps115
 go_wp2_with fail
 rw [← hW0];clear hW0;go_at_call 114;refine (HI1.out _ Hb0.out).mono ?_;rintro e1 w1 ⟨rfl,rfl⟩;obtain ⟨W1,hW1⟩:∃ W1,W0=W1:=⟨_,rfl⟩;subst hW1;have HS1:=HS0;have HR1:=HR0;have Hb1:=Hb0;have hsz1:=hsz;clear HS0 HR0 Hb0 hsz;go_wp2_with fail
 go_at_call 112;refine (HN.out _ Hb1.out).mono ?_;rintro e2 w2 ⟨he2,hb2⟩;have HS2:=zh (HS1.out.below hb2 (zr _));have HR2:=zh (HR1.out.below hb2 (zr _));have Hb2:=zh (Hb1.out.trans (hb2.mono Hb1.out.size));have hsz2:=Nat.le_trans hsz1 hb2.size;clear hb2 HS1 HR1 Hb1 HN HI1;have hSx:=HS2.out;have s0:=hSx.cell (i:=0) rfl;have s1:=hSx.cell (i:=1) rfl;have s2:=hSx.cell (i:=2) rfl;have s3:=hSx.cell (i:=3) rfl;have s4:=hSx.cell (i:=4) rfl;have s5:=hSx.cell (i:=5) rfl;have sf:=hSx.free;clear hSx
 cases R1 with
 | err a c =>
  obtain ⟨rfl,hc,hal⟩:=he2;have Hf2:Hid (final=.err a c):=zh HF.out;have hc0:(c != 0)=true:=by rcases hc with rfl | rfl <;> rfl
  have Hc:=zh hc;clear hc;have hSx:=HR2.out;have x0:=hSx.cell (i:=0) rfl;have x1:=hSx.cell (i:=1) rfl;have x2:=hSx.cell (i:=2) rfl;have x3:=hSx.cell (i:=3) rfl;have x4:=hSx.cell (i:=4) rfl;have x5:=hSx.cell (i:=5) rfl;have xf:=hSx.free;clear hSx;go_wp2_with fail
  refine bodyPost_ret (v:=.tuple #[.agg #[.int .u8 4,.int .i64 0,.string { data:=#[] },.slice none 0 0,.slice none 0 0,.slice none 0 0],.int .i64 a,.int .i64 c]) (by simp [results,Tryz.results115,go_sem,x0,x1,x2,x3,x4,x5]) rfl ⟨?_,((((((Hb2.out).setCell (zr _) _).setCell (zr _) _).setCell (zr _) _).setCell (zr _) _).setCell (zr _) _).setCell (zr _) _⟩;rw [Hf2.out]
  exact ⟨_,_,_,_,_,_,_,_,_,_,_,_,rfl,Hc.out,hal⟩
 | ok xs j =>
  obtain ⟨v2,rfl,⟨cs,hown,hX⟩,hij,hjl⟩:=he2;replace hX:=hX.weak1;have HE:=zh (EsV.of_own hown hX hsz1);obtain ⟨a2,cap2,rfl⟩:=HE.out.form;have HB1:=zh (HB.out j (by omega) hjl o ho);obtain ⟨R2,hR2⟩:∃ r,zaB l S j o=r:=⟨_,rfl⟩;rw [hR2] at HB1;have HF2:=zh HF.out;simp only [PR.andThen] at HF2;rw [hR2] at HF2;clear hX hown hR2 HF;go_wp2_with fail
  obtain ⟨W3,hW3,hS3,hg3⟩:=set1 HS2.out 3 (.slice a2 xs.length cap2);rw [← hW3];have HS3:Hid (OwnV W3 (w.heap.size+1) 56 [.int .u8 4,.int .i64 0,.string { data:=#[] },.slice a2 xs.length cap2,.slice none 0 0,.slice none 0 0]):=zh hS3;have HR3:=zh (HR2.out.grown hg3 HneG.out);have Hb3:=zh (Hb2.out.trans (zbz hg3 (by omega) Hb2.out.size));have hsz3:w.heap.size+2≤W3.heap.size:=Nat.le_trans hsz2 hg3.size;have HE3:=zh (HE.out.grown hg3 (by omega));clear hW3 hS3 hg3 s0 s1 s2 s3 s4 s5 sf HS2 HR2 Hb2 hsz2 HE;go_at_call 147;refine (HB1.out _ Hb3.out).mono ?_;rintro e4 w4 ⟨he4,hb4⟩;have HS4:=zh (HS3.out.below hb4 (zr _));have HR4:=zh (HR3.out.below hb4 (zr _));have HE4:=zh (HE3.out.below hb4);have Hb4:=zh (Hb3.out.trans (hb4.mono Hb3.out.size));have hsz4:=Nat.le_trans hsz3 hb4.size;clear hb4 HS3 HR3 Hb3 HE3 HB1;have hSx:=HS4.out;have s0:=hSx.cell (i:=0) rfl;have s1:=hSx.cell (i:=1) rfl;have s2:=hSx.cell (i:=2) rfl;have s3:=hSx.cell (i:=3) rfl;have s4:=hSx.cell (i:=4) rfl;have s5:=hSx.cell (i:=5) rfl;have sf:=hSx.free;clear hSx
  cases R2 with
  | err a c =>
   obtain ⟨rfl,hc,hal⟩:=he4;have Hf2:Hid (final=.err a c):=zh HF2.out;have hc0:(c != 0)=true:=by rcases hc with rfl | rfl <;> rfl
   have Hc:=zh hc;clear hc;have hSx:=HR4.out;have x0:=hSx.cell (i:=0) rfl;have x1:=hSx.cell (i:=1) rfl;have x2:=hSx.cell (i:=2) rfl;have x3:=hSx.cell (i:=3) rfl;have x4:=hSx.cell (i:=4) rfl;have x5:=hSx.cell (i:=5) rfl;have xf:=hSx.free;clear hSx;go_wp2_with fail
   refine bodyPost_ret (v:=.tuple #[.agg #[.int .u8 4,.int .i64 0,.string { data:=#[] },.slice a2 xs.length cap2,.slice none 0 0,.slice none 0 0],.int .i64 a,.int .i64 c]) (by simp [results,Tryz.results115,go_sem,x0,x1,x2,x3,x4,x5]) rfl ⟨?_,((((((Hb4.out).setCell (zr _) _).setCell (zr _) _).setCell (zr _) _).setCell (zr _) _).setCell (zr _) _).setCell (zr _) _⟩;rw [Hf2.out]
   exact ⟨_,_,_,_,_,_,_,_,_,_,_,_,rfl,Hc.out,hal⟩
  | ok body k =>
   obtain ⟨v4,rfl,⟨cs4,hown,hX⟩,hjk,hkl⟩:=he4;have HBd:=zh (SsV.of_own hown hX hsz3);obtain ⟨a4,cap4,rfl⟩:=HBd.out.form;obtain ⟨W5,hW5,hS5,hg5⟩:=set1 HS4.out 4 (.slice a4 body.length cap4);have HS5:Hid (OwnV W5 (w.heap.size+1) 56 [.int .u8 4,.int .i64 0,.string { data:=#[] },.slice a2 xs.length cap2,.slice a4 body.length cap4,.slice none 0 0]):=zh hS5;have HR5:=zh (HR4.out.grown hg5 HneG.out);have Hb5:=zh (Hb4.out.trans (zbz hg5 (by omega) Hb4.out.size));have hsz5:w.heap.size+2≤W5.heap.size:=Nat.le_trans hsz4 hg5.size;have HE5:=zh (HE4.out.grown hg5 (by omega));have HBd5:=zh (HBd.out.grown hg5 (by omega));have HW5:=zh hW5;clear hX hown hW5 hS5 hg5 HE4 HBd;go_upto_region 12 with (fail)
   rw [← HW5.out];clear s0 s1 s2 s3 s4 s5 sf HS4 HR4 Hb4 hsz4 HW5;have hSx:=HS5.out;have s0:=hSx.cell (i:=0) rfl;have s1:=hSx.cell (i:=1) rfl;have s2:=hSx.cell (i:=2) rfl;have s3:=hSx.cell (i:=3) rfl;have s4:=hSx.cell (i:=4) rfl;have s5:=hSx.cell (i:=5) rfl;have sf:=hSx.free;clear hSx;obtain ⟨q2,hq2⟩:∃ q,isS l k [101,108,115,101]=q:=⟨_,rfl⟩;have HIa:=HI2.out k hkl q2 hq2;have HF3:Hid (final=if q2=false then .ok (.mk 4 0 [] xs body []) k else if 200≤o then .err k 121 else if isS l (k+1) [105,102]=true then (zau l S f (k+1) (o+1)).map fun y=>.mk 4 0 [] xs body [y] else (zaB l S (k+1) (o+1)).map fun other=>.mk 4 0 [] xs body other):=zh (by rw [HF2.out,← hq2])
   cases q2 with
   | false =>
    have Hf3:Hid (final=.ok (.mk 4 0 [] xs body []) k):=zh (by rw [HF3.out,if_pos rfl]);have hkl2:=hkl;clear HF3 HF2;go_wp2_with fail
    go_at_call 114;refine (HIa.out _ Hb5.out).mono ?_;rintro e6 w6 ⟨rfl,rfl⟩;have hSx:=HR5.out;have x0:=hSx.cell (i:=0) rfl;have x1:=hSx.cell (i:=1) rfl;have x2:=hSx.cell (i:=2) rfl;have x3:=hSx.cell (i:=3) rfl;have x4:=hSx.cell (i:=4) rfl;have x5:=hSx.cell (i:=5) rfl;have xf:=hSx.free;clear hSx;go_wp2_with fail
    refine bodyPost_ret (v:=.tuple #[.agg #[.int .u8 4,.int .i64 0,.string { data:=#[] },.slice a2 xs.length cap2,.slice a4 body.length cap4,.slice none 0 0],.int .i64 k,.int .i64 0]) (by simp [results,Tryz.results115,go_sem,x0,x1,x2,x3,x4,x5]) rfl ⟨?_,((((((Hb5.out).setCell (zr _) _).setCell (zr _) _).setCell (zr _) _).setCell (zr _) _).setCell (zr _) _).setCell (zr _) _⟩;rw [Hf3.out];obtain ⟨W9,hW9,hg9⟩:=set6 W5 w.heap.size (.int .u8 4) (.int .i64 0) (.string { data:=#[] }) (.slice a2 xs.length cap2) (.slice a4 body.length cap4) (.slice none 0 0);rw [← hW9]
    exact ⟨_,rfl,zc6 ((HE5.out).grown hg9 (by omega)) ((HBd5.out).grown hg9 (by omega)) (SsV.nil _ _) (by omega),by omega,hkl2⟩
   | true =>
    have hk1:=HNx.out k _ hkl hq2;have HEa:=zh (HEn.out k hkl hq2);have HF4:Hid (final=if 200≤o then .err k 121 else if isS l (k+1) [105,102]=true then (zau l S f (k+1) (o+1)).map fun y=>.mk 4 0 [] xs body [y] else (zaB l S (k+1) (o+1)).map fun other=>.mk 4 0 [] xs body other):=zh (by rw [HF3.out,if_neg (by decide)]);have hk2:(k:Int)≤1000000:=by omega
    clear HF3 HF2 hq2 HEn;go_wp2_with fail
    go_at_call 114;refine (HIa.out _ Hb5.out).mono ?_;rintro e6 w6 ⟨rfl,rfl⟩;by_cases ho2:200≤o
    ·rw [if_pos ho2] at HEa;unfold zcE at HEa;have Hf3:Hid (final=.err k 121):=zh (by rw [HF4.out,if_pos ho2]);clear HF4;go_wp2_with fail
     go_at_call 146;refine (HEa.out _ Hb5.out).mono ?_;rintro e6 w6 ⟨rfl,rfl⟩;have hSx:=HR5.out;have x0:=hSx.cell (i:=0) rfl;have x1:=hSx.cell (i:=1) rfl;have x2:=hSx.cell (i:=2) rfl;have x3:=hSx.cell (i:=3) rfl;have x4:=hSx.cell (i:=4) rfl;have x5:=hSx.cell (i:=5) rfl;have xf:=hSx.free;clear hSx;go_wp2_with fail
     refine bodyPost_ret (v:=.tuple #[.agg #[.int .u8 4,.int .i64 0,.string { data:=#[] },.slice a2 xs.length cap2,.slice a4 body.length cap4,.slice none 0 0],.int .i64 k,.int .i64 121]) (by simp [results,Tryz.results115,go_sem,x0,x1,x2,x3,x4,x5]) rfl ⟨?_,((((((Hb5.out).setCell (zr _) _).setCell (zr _) _).setCell (zr _) _).setCell (zr _) _).setCell (zr _) _).setCell (zr _) _⟩;rw [Hf3.out];exact ⟨_,_,_,_,_,_,_,_,_,_,_,_,rfl,.inr rfl,hkl⟩
    ·rw [if_neg ho2] at HEa;unfold zcE at HEa;obtain ⟨q3,hq3⟩:∃ q,isS l (k+1) [105,102]=q:=⟨_,rfl⟩;have HIb:=HI3.out k hk1 q3 hq3;have HF5:Hid (final=if q3=true then (zau l S f (k+1) (o+1)).map fun y=>.mk 4 0 [] xs body [y] else (zaB l S (k+1) (o+1)).map fun other=>.mk 4 0 [] xs body other):=zh (by rw [HF4.out,if_neg ho2,hq3]);clear HF4
     cases q3 with
     | false =>
      have HF6:Hid (final=(zaB l S (k+1) (o+1)).map fun other=>.mk 4 0 [] xs body other):=zh (by rw [HF5.out,if_neg (by decide)]);have HBb:Hid (∀ w',Below w.heap.size w w'→Calls Tryz.prog 147 #[v,.int .i64 ((k:Int)+1),.int .i64 ((o:Int)+1)] w' fun e w''=>StsE l (k+1) w' w'' e (zaB l S (k+1) (o+1))∧Below w'.heap.size w' w''):=zh (HB.out (k+1) (by omega) hk1 (o+1) (by omega))
      generalize zaB l S (k+1) (o+1)=R3 at *
      clear HF5 HB HBr;go_wp2_with fail
      go_at_call 146;refine (HEa.out _ Hb5.out).mono ?_;rintro e6 w6 ⟨rfl,rfl⟩;go_wp2_with fail
      go_at_call 114;refine (HIb.out _ Hb5.out).mono ?_;rintro e6 w6 ⟨rfl,rfl⟩;go_wp2_with fail
      go_at_call 147;refine (HBb.out _ Hb5.out).mono ?_;rintro e6 w6 ⟨he6,hb6⟩;have HS6:=zh (HS5.out.below hb6 (zr _));have HR6:=zh (HR5.out.below hb6 (zr _));have HE6:=zh (HE5.out.below hb6);have HBd6:=zh (HBd5.out.below hb6);have Hb6:=zh (Hb5.out.trans (hb6.mono Hb5.out.size));have hsz6:=Nat.le_trans hsz5 hb6.size;clear hb6 s0 s1 s2 s3 s4 s5 sf HS5 HR5 HE5 HBd5 Hb5;have hSx:=HS6.out;have s0:=hSx.cell (i:=0) rfl;have s1:=hSx.cell (i:=1) rfl;have s2:=hSx.cell (i:=2) rfl;have s3:=hSx.cell (i:=3) rfl;have s4:=hSx.cell (i:=4) rfl;have s5:=hSx.cell (i:=5) rfl;have sf:=hSx.free;clear hSx
      cases R3 with
      | err a c =>
       obtain ⟨rfl,hc,hal⟩:=he6;have Hf3:Hid (final=.err a c):=zh HF6.out;have Hc:=zh hc;obtain ⟨W7,hW7,hS7,hg7⟩:=set1 HS6.out 5 (.slice none 0 0);have HS7:Hid (OwnV W7 (w.heap.size+1) 56 [.int .u8 4,.int .i64 0,.string { data:=#[] },.slice a2 xs.length cap2,.slice a4 body.length cap4,.slice none 0 0]):=zh hS7;have HR7:=zh (HR6.out.grown hg7 HneG.out);have Hb7:=zh (Hb6.out.trans (zbz hg7 (by omega) Hb6.out.size));have HW7:=zh hW7;clear hc hW7 hS7 hg7;go_upto_region 23 with (fail)
       rw [← HW7.out];clear s0 s1 s2 s3 s4 s5 sf HS6 HR6 Hb6 HW7;have hSx:=HS7.out;have s0:=hSx.cell (i:=0) rfl;have s1:=hSx.cell (i:=1) rfl;have s2:=hSx.cell (i:=2) rfl;have s3:=hSx.cell (i:=3) rfl;have s4:=hSx.cell (i:=4) rfl;have s5:=hSx.cell (i:=5) rfl;have sf:=hSx.free;clear hSx;have hSx:=HR7.out;have x0:=hSx.cell (i:=0) rfl;have x1:=hSx.cell (i:=1) rfl;have x2:=hSx.cell (i:=2) rfl;have x3:=hSx.cell (i:=3) rfl;have x4:=hSx.cell (i:=4) rfl;have x5:=hSx.cell (i:=5) rfl;have xf:=hSx.free;clear hSx;go_wp2_with fail
       refine bodyPost_ret (v:=.tuple #[.agg #[.int .u8 4,.int .i64 0,.string { data:=#[] },.slice a2 xs.length cap2,.slice a4 body.length cap4,.slice none 0 0],.int .i64 a,.int .i64 c]) (by simp [results,Tryz.results115,go_sem,x0,x1,x2,x3,x4,x5]) rfl ⟨?_,((((((Hb7.out).setCell (zr _) _).setCell (zr _) _).setCell (zr _) _).setCell (zr _) _).setCell (zr _) _).setCell (zr _) _⟩;rw [Hf3.out]
       exact ⟨_,_,_,_,_,_,_,_,_,_,_,_,rfl,Hc.out,hal⟩
      | ok other k2 =>
       obtain ⟨v6,rfl,⟨cs6,hown,hX⟩,hkk,hkl2⟩:=he6;have HO:=zh (SsV.of_own hown hX hsz5);obtain ⟨a6,cap6,rfl⟩:=HO.out.form;have Hf3:Hid (final=.ok (.mk 4 0 [] xs body other) k2):=zh HF6.out;obtain ⟨W7,hW7,hS7,hg7⟩:=set1 HS6.out 5 (.slice a6 other.length cap6);have HS7:Hid (OwnV W7 (w.heap.size+1) 56 [.int .u8 4,.int .i64 0,.string { data:=#[] },.slice a2 xs.length cap2,.slice a4 body.length cap4,.slice a6 other.length cap6]):=zh hS7;have HR7:=zh (HR6.out.grown hg7 HneG.out);have HE7:=zh (HE6.out.grown hg7 (by omega));have HBd7:=zh (HBd6.out.grown hg7 (by omega));have HO7:=zh (HO.out.grown hg7 (by omega));have Hb7:=zh (Hb6.out.trans (zbz hg7 (by omega) Hb6.out.size));have HW7:=zh hW7;clear hX hown hW7 hS7 hg7;go_upto_region 23 with (fail)
       rw [← HW7.out];clear s0 s1 s2 s3 s4 s5 sf HS6 HR6 Hb6 HW7 HE6 HBd6 HO;have hSx:=HS7.out;have s0:=hSx.cell (i:=0) rfl;have s1:=hSx.cell (i:=1) rfl;have s2:=hSx.cell (i:=2) rfl;have s3:=hSx.cell (i:=3) rfl;have s4:=hSx.cell (i:=4) rfl;have s5:=hSx.cell (i:=5) rfl;have sf:=hSx.free;clear hSx;have hSx:=HR7.out;have x0:=hSx.cell (i:=0) rfl;have x1:=hSx.cell (i:=1) rfl;have x2:=hSx.cell (i:=2) rfl;have x3:=hSx.cell (i:=3) rfl;have x4:=hSx.cell (i:=4) rfl;have x5:=hSx.cell (i:=5) rfl;have xf:=hSx.free;clear hSx;go_wp2_with fail
       refine bodyPost_ret (v:=.tuple #[.agg #[.int .u8 4,.int .i64 0,.string { data:=#[] },.slice a2 xs.length cap2,.slice a4 body.length cap4,.slice a6 other.length cap6],.int .i64 k2,.int .i64 0]) (by simp [results,Tryz.results115,go_sem,x0,x1,x2,x3,x4,x5]) rfl ⟨?_,((((((Hb7.out).setCell (zr _) _).setCell (zr _) _).setCell (zr _) _).setCell (zr _) _).setCell (zr _) _).setCell (zr _) _⟩;rw [Hf3.out];obtain ⟨W9,hW9,hg9⟩:=set6 W7 w.heap.size (.int .u8 4) (.int .i64 0) (.string { data:=#[] }) (.slice a2 xs.length cap2) (.slice a4 body.length cap4) (.slice a6 other.length cap6);rw [← hW9]
       exact ⟨_,rfl,zc6 ((HE7.out).grown hg9 (by omega)) ((HBd7.out).grown hg9 (by omega)) (HO7.out.grown hg9 (by omega)) (by omega),by omega,hkl2⟩
     | true =>
      have hk3:=HNx.out (k+1) _ hk1 hq3;have HF6:Hid (final=(zau l S f (k+1) (o+1)).map fun y=>.mk 4 0 [] xs body [y]):=zh (by rw [HF5.out,if_pos rfl]);have HBb:Hid (∀ w',Below w.heap.size w w'→Calls Tryz.prog 115 #[v,.int .i64 ((k:Int)+1),.int .i64 ((o:Int)+1)] w' fun e w''=>zb5 l (k+1) w' w'' e (zau l S f (k+1) (o+1))∧Below w'.heap.size w' w''):=zh (HBr.out (k+1) (by omega) hk3 (o+1) (by omega))
      generalize zau l S f (k+1) (o+1)=R3 at *
      clear HF5 HB HBr;go_wp2_with fail
      go_at_call 146;refine (HEa.out _ Hb5.out).mono ?_;rintro e6 w6 ⟨rfl,rfl⟩;go_wp2_with fail
      go_at_call 114;refine (HIb.out _ Hb5.out).mono ?_;rintro e6 w6 ⟨rfl,rfl⟩;go_wp2_with fail
      go_at_call 115;refine (HBb.out _ Hb5.out).mono ?_;rintro e6 w6 ⟨he6,hb6⟩;have HS6:=zh (HS5.out.below hb6 (zr _));have HR6:=zh (HR5.out.below hb6 (zr _));have HE6:=zh (HE5.out.below hb6);have HBd6:=zh (HBd5.out.below hb6);have Hb6:=zh (Hb5.out.trans (hb6.mono Hb5.out.size));have hsz6:=Nat.le_trans hsz5 hb6.size;clear hb6 s0 s1 s2 s3 s4 s5 sf HS5 HR5 HE5 HBd5 Hb5
      cases R3 with
      | err a c =>
       obtain ⟨op,n,nm,a5,a6,a7,m1,m2,m3,p1,p2,p3,rfl,hc,hal⟩:=he6;have Hf3:Hid (final=.err a c):=zh HF6.out;have Hc:=zh hc;obtain ⟨W7,hW7,hb7,-,hY7,hsz7⟩:=zbD w6 [.int .u8 op,.int .i64 n,.string nm,.slice a5 m1 p1,.slice a6 m2 p2,.slice a7 m3 p3] [.int .u8 op,.int .i64 n,.string nm,.slice a5 m1 p1,.slice a6 m2 p2,.slice a7 m3 p3] 56 56;have HS7:=zh (HS6.out.below hb7 (zr _));have HR7:=zh (HR6.out.below hb7 (zr _));have Hb7:=zh (Hb6.out.trans (hb7.mono Hb6.out.size));obtain ⟨W8,hW8,hS8,hg8⟩:=set1 HS7.out 5 (.slice (some ⟨w6.heap.size+1,0,none⟩) 1 1);have HS8:Hid (OwnV W8 (w.heap.size+1) 56 [.int .u8 4,.int .i64 0,.string { data:=#[] },.slice a2 xs.length cap2,.slice a4 body.length cap4,.slice (some ⟨w6.heap.size+1,0,none⟩) 1 1]):=zh hS8;have HR8:=zh (HR7.out.grown hg8 HneG.out);have Hb8:=zh (Hb7.out.trans (zbz hg8 (by omega) Hb7.out.size));have HW8:=zh (hW8.trans (by rw [hW7]));have hSx:=HS7.out;rw [hW7] at hSx;have s5:=hSx.cell (i:=5) rfl;have sf:=hSx.free;clear hc hW8 hS8 hg8 hW7 hb7 hSx hY7;go_upto_region 20 with (fail)
       rw [← HW8.out];clear s5 sf HS6 HR6 Hb6 HW8 HS7 HR7 Hb7;have hSx:=HS8.out;have s0:=hSx.cell (i:=0) rfl;have s1:=hSx.cell (i:=1) rfl;have s2:=hSx.cell (i:=2) rfl;have s3:=hSx.cell (i:=3) rfl;have s4:=hSx.cell (i:=4) rfl;have s5:=hSx.cell (i:=5) rfl;have sf:=hSx.free;clear hSx;have hSx:=HR8.out;have x0:=hSx.cell (i:=0) rfl;have x1:=hSx.cell (i:=1) rfl;have x2:=hSx.cell (i:=2) rfl;have x3:=hSx.cell (i:=3) rfl;have x4:=hSx.cell (i:=4) rfl;have x5:=hSx.cell (i:=5) rfl;have xf:=hSx.free;clear hSx;go_wp2_with fail
       refine bodyPost_ret (v:=.tuple #[.agg #[.int .u8 4,.int .i64 0,.string { data:=#[] },.slice a2 xs.length cap2,.slice a4 body.length cap4,.slice (some ⟨w6.heap.size+1,0,none⟩) 1 1],.int .i64 a,.int .i64 c]) (by simp [results,Tryz.results115,go_sem,x0,x1,x2,x3,x4,x5]) rfl ⟨?_,((((((Hb8.out).setCell (zr _) _).setCell (zr _) _).setCell (zr _) _).setCell (zr _) _).setCell (zr _) _).setCell (zr _) _⟩;rw [Hf3.out]
       exact ⟨_,_,_,_,_,_,_,_,_,_,_,_,rfl,Hc.out,hal⟩
      | ok y k2 =>
       obtain ⟨v6,rfl,⟨cs6,rfl,hX⟩,hkk,hkl2⟩:=he6;obtain ⟨op,n,name,es,body2,els2,a5,a6,a7,p1,p2,p3,rfl,rfl⟩:=hX.one;have Hf3:Hid (final=.ok (.mk 4 0 [] xs body [.mk op n name es body2 els2]) k2):=zh HF6.out;obtain ⟨W7,hW7,hb7,-,hY7,hsz7⟩:=zbD w6 [.int .u8 op,.int .i64 n,.string (bstr name),.slice a5 es.length p1,.slice a6 body2.length p2,.slice a7 els2.length p3] [.int .u8 op,.int .i64 n,.string (bstr name),.slice a5 es.length p1,.slice a6 body2.length p2,.slice a7 els2.length p3] 56 56;have HO7:=zh (SsV.new (m:=w.heap.size+2) hb7 hY7 (hX.weak fun _ _ h=>Nat.le_trans hsz5 h) (by omega) (by simp));have HS7:=zh (HS6.out.below hb7 (zr _));have HR7:=zh (HR6.out.below hb7 (zr _));have HE7:=zh (HE6.out.below hb7);have HBd7:=zh (HBd6.out.below hb7);have Hb7:=zh (Hb6.out.trans (hb7.mono Hb6.out.size));obtain ⟨W8,hW8,hS8,hg8⟩:=set1 HS7.out 5 (.slice (some ⟨w6.heap.size+1,0,none⟩) 1 1);have HS8:Hid (OwnV W8 (w.heap.size+1) 56 [.int .u8 4,.int .i64 0,.string { data:=#[] },.slice a2 xs.length cap2,.slice a4 body.length cap4,.slice (some ⟨w6.heap.size+1,0,none⟩) 1 1]):=zh hS8;have HR8:=zh (HR7.out.grown hg8 HneG.out);have HE8:=zh (HE7.out.grown hg8 (by omega));have HBd8:=zh (HBd7.out.grown hg8 (by omega));have HO8:=zh (HO7.out.grown hg8 (by omega));have Hb8:=zh (Hb7.out.trans (zbz hg8 (by omega) Hb7.out.size));have HW8:=zh (hW8.trans (by rw [hW7]));have hSx:=HS7.out;rw [hW7] at hSx;have s5:=hSx.cell (i:=5) rfl;have sf:=hSx.free;clear hX hW8 hS8 hg8 hW7 hb7 hSx hY7;go_upto_region 20 with (fail)
       rw [← HW8.out];clear s5 sf HS6 HR6 Hb6 HW8 HS7 HR7 Hb7 HE6 HE7 HBd6 HBd7 HO7;have hSx:=HS8.out;have s0:=hSx.cell (i:=0) rfl;have s1:=hSx.cell (i:=1) rfl;have s2:=hSx.cell (i:=2) rfl;have s3:=hSx.cell (i:=3) rfl;have s4:=hSx.cell (i:=4) rfl;have s5:=hSx.cell (i:=5) rfl;have sf:=hSx.free;clear hSx;have hSx:=HR8.out;have x0:=hSx.cell (i:=0) rfl;have x1:=hSx.cell (i:=1) rfl;have x2:=hSx.cell (i:=2) rfl;have x3:=hSx.cell (i:=3) rfl;have x4:=hSx.cell (i:=4) rfl;have x5:=hSx.cell (i:=5) rfl;have xf:=hSx.free;clear hSx;go_wp2_with fail
       refine bodyPost_ret (v:=.tuple #[.agg #[.int .u8 4,.int .i64 0,.string { data:=#[] },.slice a2 xs.length cap2,.slice a4 body.length cap4,.slice (some ⟨w6.heap.size+1,0,none⟩) 1 1],.int .i64 k2,.int .i64 0]) (by simp [results,Tryz.results115,go_sem,x0,x1,x2,x3,x4,x5]) rfl ⟨?_,((((((Hb8.out).setCell (zr _) _).setCell (zr _) _).setCell (zr _) _).setCell (zr _) _).setCell (zr _) _).setCell (zr _) _⟩;rw [Hf3.out];obtain ⟨W9,hW9,hg9⟩:=set6 W8 w.heap.size (.int .u8 4) (.int .i64 0) (.string { data:=#[] }) (.slice a2 xs.length cap2) (.slice a4 body.length cap4) (.slice (some ⟨w6.heap.size+1,0,none⟩) 1 1);rw [← hW9];exact ⟨_,rfl,zc6 ((HE8.out).grown hg9 (by omega)) ((HBd8.out).grown hg9 (by omega)) (HO8.out.grown hg9 (by omega)) (by omega),by omega,hkl2⟩
theorem zgB (l:List Tok) (S:Nat→Nat→PR St) (v:Value) (hG:Good l) (hm:l.length≤1000000):∀ (f i o:Nat) (w:World),l.length - i < f→StmtC l S i→Toks w l v→i+1 < l.length→o≤300 →
  Calls Tryz.prog 115 #[v,.int .i64 i,.int .i64 o] w fun e w'=>zb5 l i w w' e (zau l S f i o)∧Below w.heap.size w w':=by
 intro f
 induction f with
 | zero=>intro i o w h;omega
 | succ f ih =>
  intro i o w hf hS hT hi ho
  cases hq:isS l i [119,104,105,108,101] with
  | true=>exact ziJ l S v hG hm f i o w hS hT hi ho hq
  | false=>exact zlS l S v hG hm f i o w hS (fun k o w h1 h2 h3 h4=>ih k o w (by omega) (hS.mono (by omega)) h4 h2 h3) hT hi ho hq
end Go.Proofs.YtoaojdobjinhfaaGreatDoor
