/- The reference parser's value, walked; the contracts of the readers of statements. -/
import Derived.Test.YtdeneckmoejcfaaRParIZs
set_option linter.unusedSimpArgs false
set_option linter.unusedVariables false
set_option maxRecDepth 100000
set_option maxHeartbeats 1000000
namespace Go.Proofs.Ytdeneckmoejcfaa
open Go.RowKit

theorem zeH (l:List Tok) (v:Value) (hG:Good l) (hm:l.length<=4611686018427387904) (i o:Nat) (w:World) (hT:Toks w l v) (hi:i < l.length) (ho:o<=300) :
  Calls Try.prog 79 #[v,.int .i64 i,.int .i64 o] w fun e w'=>zb4 l i w w' e (zaz l i o)/\Below w.heap.size w w':=by
 obtain ⟨q1,hq1⟩:∃ q,isS l i [61]=q:=⟨_,rfl⟩;have HI1:Hid (∀ w',Below w.heap.size w w'->Calls Try.prog 80 #[v,.int .i64 i,.string { data:=#[61] }] w' fun e w''=>e=.returned (.bool q1)/\w'=w''):=zbO hT hi hq1;have HT:=zh hT;have hnx:q1=true->i+1 < l.length:=fun h=>hG.is_next hi (by rw [hq1,h])
 have HE:Hid (q1=true->∀ w',Below w.heap.size w w'->Calls Try.prog 95 #[v,.int .i64 ((i:Int)+1),.int .i64 o,.int .i64 1] w' fun e w''=>zb4 l (i+1) w' w'' e (zaA l (i+1) o 1)/\Below w'.heap.size w' w''):=zh (fun h w' hb=>ziI l v hG hm (i+1) o 1 w' (Sl.below (by omega) hT hb (zr _)) (hnx h) ho (by omega));have HS:Hid (∀ j,j < l.length->∀ q,isS l j [59]=q->Hid (∀ w',Below w.heap.size w w'->Calls Try.prog 80 #[v,.int .i64 j,.string { data:=#[59] }] w' fun e w''=>e=.returned (.bool q)/\w'=w'')):=zh (fun j hj q hq=>zbO hT hj hq);have HF:Hid (zaz l i o=if q1=false then .err i 120 else (zaA l (i+1) o 1).andThen fun x j=>if isS l j [59]=false then .err j 120 else .ok x (j+1)):=zh (by rw [zaz,hq1]);have HNx:Hid (∀ j,j < l.length->isS l j [59]=true->j+1 < l.length):=zh (fun j hj h=>hG.is_next hj h);obtain ⟨final,hfin⟩:∃ r,zaz l i o=r:=⟨_,rfl⟩;rw [hfin] at HF ⊢;have hHw:=OwnV.new w 65 zeroE;have hbW:Below w.heap.size w (w.alloc (.cells zeroE.toArray 65)):=(yR _ _).alloc (zr _) _;obtain ⟨W0,hW0⟩:∃ W0,W0=w.alloc (.cells zeroE.toArray 65):=⟨_,rfl⟩;rw [<- hW0] at hHw hbW;simp only [zeroE] at hW0;have HBx:=zh hHw;have Hb0:=zh hbW;have hsz:w.heap.size < W0.heap.size:=hHw.lt;have hi2:(i:Int)<=4611686018427387904:=by omega
 generalize zaA l (i+1) o 1=R at *
 clear hfin hq1 hT hHw hbW;go_enter Try.func79,Try.ntmps79
 go_wp2_with fail
 rw [<- hW0];clear hW0;go_at_call 80;refine (HI1.out _ Hb0.out).mono ?_;rintro e1 w1 ⟨rfl,rfl⟩
 cases q1 with
 | false =>
  have Hf2:Hid (final=.err i 120):=zh (by rw [HF.out,yP rfl]);obtain ⟨x0,x1,x2,x3⟩:=yc4 HBx.out;have f0:=HBx.out.free;go_wp2_with fail
  refine yE (v:=.tuple #[.agg #[.int .u8 0,.int .i64 0,.string { data:=#[] },.slice none 0 0],.int .i64 i,.int .i64 120]) (by simp [results,Try.results79,go_sem,x0,x1,x2,x3]) rfl ⟨by rw [Hf2.out];exact ⟨_,_,_,_,_,_,rfl,.inl rfl,hi⟩,?_⟩
  exact (((Hb0.out.setCell (zr _) _).setCell (zr _) _).setCell (zr _) _).setCell (zr _) _
 | true =>
  have HE1:=zh (HE.out rfl);have hi3:=hnx rfl;go_wp2_with fail
  go_at_call 95;refine (HE1.out _ Hb0.out).mono ?_;rintro e2 w2 ⟨he2,hb2⟩;have HBx2:=zh (HBx.out.below hb2 (zr _));have hle2:w.heap.size+1<=w2.heap.size:=by have:=hb2.size;omega
  have Hb2:=zh (Hb0.out.trans (hb2.mono Hb0.out.size));clear hb2 HE HE1 HI1 hnx
  cases R with
  | err a2 c =>
   obtain ⟨op,n,nm,ad,m,cp,rfl,hc,hal⟩:=he2;have Hf3:Hid (final=.err a2 c):=zh (by rw [HF.out,yN (by decide)];rfl);have Hc:=zh hc;have hc0:(c != 0)=true:=by rcases hc with rfl | rfl <;> rfl
   have hBx:=HBx2.out.alloc (.cells #[.int .u8 op,.int .i64 n,.string nm,.slice ad m cp] 65);obtain ⟨x0,x1,x2,x3⟩:=yc4 hBx;have f0:=hBx.free;clear hc hBx;go_wp2_with fail
   refine yE (v:=.tuple #[.agg #[.int .u8 op,.int .i64 n,.string nm,.slice ad m cp],.int .i64 a2,.int .i64 c]) (by simp [results,Try.results79,go_sem,x0,x1,x2,x3]) rfl ⟨by rw [Hf3.out];exact ⟨_,_,_,_,_,_,rfl,Hc.out,hal⟩,?_⟩
   exact ((((Hb2.out.alloc Hb2.out.size _).setCell (zr _) _).setCell (zr _) _).setCell (zr _) _).setCell (zr _) _
  | ok x j =>
   obtain ⟨v2,rfl,⟨cs,rfl,hX⟩,hij,hjl⟩:=he2;obtain ⟨op,n,name,args,aa,acap,rfl,rfl⟩:=hX.one;obtain ⟨q2,hq2⟩:∃ q,isS l j [59]=q:=⟨_,rfl⟩;have HI2:=HS.out j hjl q2 hq2;have Hf3:Hid (final=if q2=false then .err j 120 else .ok (.mk op n name args) (j+1)):=zh (by rw [HF.out,yN (by decide),<- hq2];rfl);have hnx:q2=true->j+1 < l.length:=fun h=>HNx.out j hjl (by rw [hq2,h])
   have hBx:=HBx2.out.alloc (.cells #[.int .u8 op,.int .i64 n,.string (bstr name),.slice aa args.length acap] 65);have hYx:=OwnV.new w2 65 [.int .u8 op,.int .i64 n,.string (bstr name),.slice aa args.length acap];obtain ⟨x0,x1,x2,x3⟩:=yc4 hBx;have f0:=hBx.free;have Hb3:=zh (Hb2.out.alloc Hb2.out.size (.cells #[.int .u8 op,.int .i64 n,.string (bstr name),.slice aa args.length acap] 65));have HX:=zh (hX.under ((yR _ _).alloc (zr _) (.cells #[.int .u8 op,.int .i64 n,.string (bstr name),.slice aa args.length acap] 65)) (zr _));have hP:¬ W0.heap.size<=w.heap.size:=by omega
   have HP:=zh hP;clear hBx hYx hX hq2 HF HS HNx hP
   cases q2 with
   | false =>
    have Hf4:Hid (final=.err j 120):=zh (by rw [Hf3.out,yP rfl]);clear Hf3;go_wp2_with fail
    go_at_call 80;refine (HI2.out _ Hb3.out).mono ?_;rintro e3 w3 ⟨rfl,rfl⟩;go_wp2_with fail
    refine yE (v:=.tuple #[.agg #[.int .u8 op,.int .i64 n,.string (bstr name),.slice aa args.length acap],.int .i64 j,.int .i64 120]) (by simp [results,Try.results79,go_sem,x0,x1,x2,x3]) rfl ⟨by rw [Hf4.out];exact ⟨_,_,_,_,_,_,rfl,.inl rfl,hjl⟩,?_⟩
    exact (((Hb3.out.setCell (zr _) _).setCell (zr _) _).setCell (zr _) _).setCell (zr _) _
   | true =>
    have hj3:=hnx rfl;have Hf4:Hid (final=.ok (.mk op n name args) (j+1)):=zh (by rw [Hf3.out,yN (by decide)]);clear Hf3;go_wp2_with fail
    go_at_call 80;refine (HI2.out _ Hb3.out).mono ?_;rintro e3 w3 ⟨rfl,rfl⟩;go_wp2_with fail
    refine yE (v:=.tuple #[.agg #[.int .u8 op,.int .i64 n,.string (bstr name),.slice aa args.length acap],.int .i64 ((j:Int)+1),.int .i64 0]) (by simp [results,Try.results79,go_sem,x0,x1,x2,x3]) rfl ⟨?_,(((Hb3.out.setCell (zr _) _).setCell (zr _) _).setCell (zr _) _).setCell (zr _) _⟩;rw [Hf4.out];exact ⟨_,rfl,⟨_,rfl,((((HX.out.set HP.out).set HP.out).set HP.out).set HP.out).weak fun g _ h=>by omega⟩,by omega,hj3⟩
def zb5 (l : List Tok) (i : Nat) (w w' : World) (e : Ending) : PR St -> Prop
  | .ok x j => ∃ v, e = .returned (.tuple #[v, .int .i64 j, .int .i64 0]) /\ StV w' (fun g => w.heap.size <= g) x v /\ i < j /\ j < l.length
  | .err a c => ∃ (op n : Int) (nm : ByteArray) (a1 a2 a3 : Option Addr) (m1 m2 m3 c1 c2 c3 : Nat), e = .returned (.tuple #[.agg #[.int .u8 op, .int .i64 n, .string nm, .slice a1 m1 c1, .slice a2 m2 c2, .slice a3 m3 c3], .int .i64 a, .int .i64 c]) /\ (c = 120 ∨ c = 121) /\ a < l.length
def StsE (l : List Tok) (i : Nat) (w w' : World) (e : Ending) : PR (List St) -> Prop
  | .ok xs j => ∃ v, e = .returned (.tuple #[v, .int .i64 j, .int .i64 0]) /\ (∃ cs, w'.ownsRow w.heap.size 59 6 v xs.length cs /\ StsC w' (fun g => w.heap.size <= g) xs cs) /\ i < j /\ j < l.length
  | .err a c => e = .returned (.tuple #[.slice none 0 0, .int .i64 a, .int .i64 c]) /\ (c = 120 ∨ c = 121) /\ a < l.length
def StmtC (l : List Tok) (S : Nat -> Nat -> PR St) (i : Nat) : Prop :=
  ∀ (k o : Nat) (v : Value) (w : World), i < k -> k < l.length -> o <= 300 -> Toks w l v ->
    Calls Try.prog 60 #[v, .int .i64 k, .int .i64 o] w fun e w' => zb5 l k w w' e (S k o) /\ Below w.heap.size w w'
theorem StmtC.mono {l:List Tok} {S:Nat->Nat->PR St} {i j:Nat} (h:StmtC l S i) (hij:i<=j):StmtC l S j:=
 fun k o v w h1 h2 h3 h4=>h k o v w (by omega) h2 h3 h4
theorem zhj:(Try.prog.info? 59).map (fun i=>(i.zero,i.size,i.bytes))=some (some (.agg #[.int .u8 0,.int .i64 0,.string ByteArray.empty,.slice none 0 0,.slice none 0 0,.slice none 0 0]),6,104):=by kernel_rfl
theorem zhk (l:List Tok) (S:Nat->Nat->PR St) (v:Value) (i o:Nat) (w:World) (hS:StmtC l S i) (hT:Toks w l v) (hG:Good l) (hi:i < l.length) (hm:l.length<=1000000) (ho:o<=300) :
  Calls Try.prog 96 #[v,.int .i64 i,.int .i64 o] w fun e w'=>StsE l i w w' e (zaB l S i o)/\Below w.heap.size w w':=by
 have HEn:Hid (Calls Try.prog 94 #[v,.int .i64 i,.string { data:=#[123] },.int .i64 o] w _):=zh (zd8 l v i [123] o w hT hi (by omega));have HS:Hid (zaB l S i o=(zay l i [123] o).andThen fun _ j=>zaX l S o (l.length+1 - j) [] j):=zh rfl;generalize zaB l S i o=final at HS ⊢
 cases hen:zay l i [123] o with
 | err a c =>
  have Hf:Hid (final=.err a c):=zh (by rw [HS.out,hen];rfl)
  have hac:a=i/\(c=120∨c=121):=by
   unfold zay at hen;split at hen
   ·cases hen;exact ⟨rfl,.inl rfl⟩
   ·split at hen
    ·cases hen;exact ⟨rfl,.inr rfl⟩
    ·cases hen
  obtain ⟨rfl,hc⟩:=hac;have hc0:(c != 0)=true:=by rcases hc with rfl | rfl <;> rfl
  rw [hen] at HEn;unfold zcE at HEn;have Hc:=zh hc;clear hen hc;go_enter Try.func96,Try.ntmps96
  go_wp2_with fail
  go_at_call 94;refine HEn.out.mono ?_;rintro e1 w2 ⟨rfl,rfl⟩;go_wp2_with fail
  exact yE (v:=.tuple #[.slice none 0 0,.int .i64 a,.int .i64 c]) (by simp [results,Try.results96,go_sem]) rfl ⟨by rw [Hf.out];exact ⟨rfl,Hc.out,hi⟩,yR _ _⟩
 | ok x j =>
  have hj:j=i+1/\isS l i [123]=true/\o < 200:=by
   unfold zay at hen;split at hen
   ·cases hen
   ·rename_i h1
    split at hen
    ·cases hen
    ·cases hen;exact ⟨rfl,by simpa using h1,by omega⟩
  obtain ⟨rfl,his,ho2⟩:=hj;have hi1:=hG.is_next hi his;have Hf:Hid (final=zaX l S o (l.length+1 - (i+1)) [] (i+1)):=zh (by rw [HS.out,hen];rfl);rw [hen] at HEn;unfold zcE at HEn;have HT:=zh hT;obtain ⟨ta,tcap,rfl,_,_⟩:=Sl.form hT;clear hen his hT HS;go_enter Try.func96,Try.ntmps96
  go_wp2_with fail
  go_at_call 94;refine HEn.out.mono ?_;rintro e1 w2 ⟨rfl,rfl⟩;go_wp2_with fail
  go_loopw [1,6,7,8,10,11,12,13,25,26,27,28,29,30,31,32,33,34,35,36,37,38,39,40,41,42,43,44,45,46] (fun t1 _ _ _ t10 _ _ _ _ _ _ _ _ _ _ _ _ _ _ _ _ _ _ _ _ _ _ _ _ _ wr=>∃ (k at':Nat) (F:Nat) (xs:List St) (cs:List Value),xs.length=k/\k<=at'/\i < at'/\at' < l.length/\l.length - at' < F/\t1=.int .i64 at'/\wr.ownsRow w.heap.size 59 6 t10 k cs/\Hid (StsC wr (fun g=>w.heap.size<=g/\t10.ownBlock≠some g) xs cs)/\Hid (final=zaX l S o F xs at')/\Hid (Below w.heap.size w wr)) (fun t1 _ _ _ _ _ _ _ _ _ _ _ _ _ _ _ _ _ _ _ _ _ _ _ _ _ _ _ _ _ _=>l.length - (intOf t1).toNat)
  case atStart=>exact ⟨0,i+1,l.length+1 - (i+1),[],[],rfl,by omega,by omega,hi1,by omega,by first | rfl | go_num,World.ownsRow_nil _ _ _ _,zh .nil,zh Hf.out,zh (yR _ _)⟩
  case round =>
   obtain ⟨k,at',F,xs,cs,hxs,hka,hia,hal,hF,rfl,hown,HX,Hk,Hb⟩:=hrel;obtain ⟨F,rfl⟩:∃ F',F=F'+1:=⟨F - 1,by omega⟩;have HTr:Hid (Toks wr l (.slice ta l.length tcap)):=zh (Sl.below (by omega) HT.out Hb.out (zr _));obtain ⟨q,hq⟩:∃ q,isS l at' [125]=q:=⟨_,rfl⟩;have HI:Hid (∀ w',Below wr.heap.size wr w'->Calls Try.prog 80 #[.slice ta l.length tcap,.int .i64 at',.string { data:=#[125] }] w' fun e w''=>e=.returned (.bool q)/\w'=w''):=zbO HTr.out hal hq;have Hf2:Hid (final=if q=true then .ok xs (at'+1) else (S at' (o+1)).andThen fun x j=>zaX l S o F (xs++[x]) j):=zh (by rw [Hk.out,zaX,hq]);have hnx:q=true->at'+1 < l.length:=fun h=>hG.is_next hal (by rw [hq,h])
   have hat2:(at':Int)<=1000000:=by omega
   clear hq Hk
   cases q with
   | true =>
    have Hf3:Hid (final=.ok xs (at'+1)):=zh (by rw [Hf2.out,yP rfl]);have HX2:Hid (StsC wr (fun g=>w.heap.size<=g) xs cs):=zh (HX.out.weak fun g _ h=>h.1);have Hown:Hid (wr.ownsRow w.heap.size 59 6 u10 xs.length cs):=zh (by rw [hxs];exact hown);have hnx2:=hnx rfl;clear hown hxs HX Hf2;go_wp2_with fail
    go_at_call 80;refine (HI.out _ (yR _ _)).mono ?_;rintro e1 w2 ⟨rfl,rfl⟩;go_wp2_with fail
    exact yE (v:=.tuple #[u10,.int .i64 ((at':Int)+1),.int .i64 0]) (by simp [results,Try.results96,go_sem]) rfl ⟨by rw [Hf3.out];exact ⟨_,rfl,⟨cs,Hown.out,HX2.out⟩,by omega,hnx2⟩,Hb.out⟩
   | false =>
    have HK:Hid (final=(S at' (o+1)).andThen fun x j=>zaX l S o F (xs++[x]) j):=zh (by rw [Hf2.out,yN (by decide)]);have HSt:=zh (hS at' (o+1) _ wr (by omega) (by omega) (by omega) HTr.out)
    generalize S at' (o+1)=R at *
    clear Hf2 hnx;go_wp2_with fail
    go_at_call 80;refine (HI.out _ (yR _ _)).mono ?_;rintro e1 w2 ⟨rfl,rfl⟩;go_wp2_with fail
    go_at_call 60;refine HSt.out.mono ?_;rintro e1 w2 ⟨he1,hb2⟩;have Hb2:=zh hb2;have hs2:w.heap.size<=w2.heap.size:=yT Hb.out.size hb2.size;clear hb2
    cases R with
    | err a c =>
     obtain ⟨op,n,nm,a1,a2,a3,m1,m2,m3,p1,p2,p3,rfl,hc,hal2⟩:=he1;have Hf3:Hid (final=.err a c):=zh HK.out;have hc0:(c != 0)=true:=by rcases hc with rfl | rfl <;> rfl
     have Hc:=zh hc;clear hc;go_wp2_with fail
     exact yE (v:=.tuple #[.slice none 0 0,.int .i64 a,.int .i64 c]) (by simp [results,Try.results96,go_sem]) rfl ⟨by rw [Hf3.out];exact ⟨rfl,Hc.out,hal2⟩,(Hb.out.trans (Hb2.out.mono Hb.out.size)).alloc hs2 _⟩
    | ok x j2 =>
     obtain ⟨v2,rfl,⟨cs2,rfl,hX2⟩,hj2,hj3⟩:=he1;obtain ⟨op,n,name,es,body,els,ae,ab,al,pe,pb,pl,rfl,rfl⟩:=hX2.one;have Hf3:Hid (final=zaX l S o F (xs++[.mk op n name es body els]) j2):=zh HK.out;have HX2:=zh hX2;have hown2:=(zbu hown Hb2.out (zr _)).alloc (.cells #[.int .u8 op,.int .i64 n,.string (bstr name),.slice ae es.length pe,.slice ab body.length pb,.slice al els.length pl] 59);have Hbw:=zh ((Hb.out.trans (Hb2.out.mono Hb.out.size)).alloc hs2 (.cells #[.int .u8 op,.int .i64 n,.string (bstr name),.slice ae es.length pe,.slice ab body.length pb,.slice al els.length pl] 59));clear hX2;go_wp2_with (at_builtin;refine zbj rfl (.tmp 42) (.tmp 44) 22 rfl hown2 zhj Try.underlying22 rfl (by decide) rfl 1 1 (by show Value.slice (some ⟨w2.heap.size+1,0,none⟩) 1 1=_;simp) rfl rfl (by unfold maxLen;omega) (by omega) Hbw.out.size ?_;intro v' w3 hown3 hg3 hb4 hat4)
     go_roundw
     case rel=>exact ⟨k+1,j2,F,xs++[.mk op n name es body els],cs++[.int .u8 op,.int .i64 n,.string (bstr name),.slice ae es.length pe,.slice ab body.length pb,.slice al els.length pl],by rw [yA];simp [hxs],by omega,by omega,hj3,by omega,rfl,hown3,zh (ziF hown HX.out Hb2.out HX2.out Hb.out.size ((yR _ _).alloc (zr _) _) hg3 hat4),Hf3,zh (Hbw.out.trans hb4)⟩
     case measure=>simp [intOf];omega
def EsV (w : World) (m : Nat) (xs : List Ex) (v : Value) : Prop := ∃ cs, Sl w 4 xs.length cs v /\ (xs.length = 0 ∨ ∀ g, v.ownBlock = some g -> m <= g) /\ ExsC w (fun g => m <= g) xs cs
def SsV (w : World) (m : Nat) (xs : List St) (v : Value) : Prop := ∃ cs, Sl w 6 xs.length cs v /\ (xs.length = 0 ∨ ∀ g, v.ownBlock = some g -> m <= g) /\ StsC w (fun g => m <= g) xs cs
theorem EsV.below {w w':World} {m:Nat} {xs:List Ex} {v:Value} (h:EsV w m xs v) (hb:Below w.heap.size w w'):EsV w' m xs v:=by
 obtain ⟨cs,h1,h2,h3⟩:=h;exact ⟨cs,h1.below (by omega) hb (zr _),h2,h3.under hb (zr _)⟩
theorem SsV.below {w w':World} {m:Nat} {xs:List St} {v:Value} (h:SsV w m xs v) (hb:Below w.heap.size w w'):SsV w' m xs v:=by
 obtain ⟨cs,h1,h2,h3⟩:=h;exact ⟨cs,h1.below (by omega) hb (zr _),h2,h3.under hb (zr _)⟩
theorem EsV.grown {w w':World} {m g:Nat} {xs:List Ex} {v:Value} (h:EsV w m xs v) (hg:w.grownBy w' (some g)) (hlt:g < m):EsV w' m xs v:=by
 obtain ⟨cs,h1,h2,h3⟩:=h;have hr:∀ k,some g=some k->¬ m<=k:=fun k e=>by cases e;omega
 exact ⟨cs,h1.grownP (P:=fun g=>m<=g) hg hr h2,h2,h3.grown hg hr⟩
theorem SsV.grown {w w':World} {m g:Nat} {xs:List St} {v:Value} (h:SsV w m xs v) (hg:w.grownBy w' (some g)) (hlt:g < m):SsV w' m xs v:=by
 obtain ⟨cs,h1,h2,h3⟩:=h;have hr:∀ k,some g=some k->¬ m<=k:=fun k e=>by cases e;omega
 exact ⟨cs,h1.grownP (P:=fun g=>m<=g) hg hr h2,h2,h3.grown hg hr⟩
theorem EsV.of_own {w:World} {m B:Nat} {e:TypeId} {xs:List Ex} {v:Value} {cs:List Value} (h:w.ownsRow B e 4 v xs.length cs) (hX:ExsC w (fun g=>B<=g) xs cs) (hB:m<=B):EsV w m xs v:=
 ⟨cs,Sl.of_own h,.inr fun g hg=>yT hB (zck h g hg),hX.weak fun _ _ h=>yT hB h⟩
theorem SsV.of_own {w:World} {m B:Nat} {e:TypeId} {xs:List St} {v:Value} {cs:List Value} (h:w.ownsRow B e 6 v xs.length cs) (hX:StsC w (fun g=>B<=g) xs cs) (hB:m<=B):SsV w m xs v:=
 ⟨cs,Sl.of_own h,.inr fun g hg=>yT hB (zck h g hg),hX.weak fun _ _ h=>yT hB h⟩
theorem StsC.len {w:World} {P:Nat->Prop} {xs:List St} {cs:List Value} (h:StsC w P xs cs):cs.length=xs.length * 6:=by
 induction h with
 | nil=>rfl
 | cons _ _ _ _ _ _ _ _ _ _ _ _ ih=>simp only [yB,ih];omega
theorem SsV.nil (w:World) (m:Nat):SsV w m [] (.slice none 0 0):=⟨[],Sl.nil w 6,.inl rfl,.nil⟩
theorem EsV.nil (w:World) (m:Nat):EsV w m [] (.slice none 0 0):=⟨[],Sl.nil w 4,.inl rfl,.nil⟩
theorem SsV.new {w2 w3:World} {m g:Nat} {e:TypeId} {xs:List St} {cs:List Value} (hlow:Below w2.heap.size w2 w3) (hO:OwnV w3 g e cs) (hX:StsC w2 (fun g=>m<=g) xs cs) (hg:m<=g) (hlen:xs.length<=1000):SsV w3 m xs (.slice (some ⟨g,0,none⟩) xs.length xs.length):=
 ⟨cs,zb7 hO hX.len (zr _) (by omega),.inr fun k h=>by cases h;exact hg,hX.under hlow (zr _)⟩
theorem EsV.new {w2 w3:World} {m g:Nat} {e:TypeId} {xs:List Ex} {cs:List Value} (hlow:Below w2.heap.size w2 w3) (hO:OwnV w3 g e cs) (hX:ExsC w2 (fun g=>m<=g) xs cs) (hg:m<=g) (hlen:xs.length<=1000):EsV w3 m xs (.slice (some ⟨g,0,none⟩) xs.length xs.length):=
 ⟨cs,zb7 hO hX.len (zr _) (by omega),.inr fun k h=>by cases h;exact hg,hX.under hlow (zr _)⟩
theorem EsV.form {w:World} {m:Nat} {xs:List Ex} {v:Value} (h:EsV w m xs v):∃ a cap,v=.slice a xs.length cap:=by
 obtain ⟨cs,h1,-⟩:=h;obtain ⟨a,cap,e,-⟩:=Sl.form h1;exact ⟨a,cap,e⟩
theorem SsV.form {w:World} {m:Nat} {xs:List St} {v:Value} (h:SsV w m xs v):∃ a cap,v=.slice a xs.length cap:=by
 obtain ⟨cs,h1,-⟩:=h;obtain ⟨a,cap,e,-⟩:=Sl.form h1;exact ⟨a,cap,e⟩
theorem zc6 {w:World} {m B:Nat} {op n:Int} {name:List UInt8} {es:List Ex} {body els:List St} {ve vb vl:Value} (h1:EsV w m es ve) (h2:SsV w m body vb) (h3:SsV w m els vl) (hB:B<=m):StV w (fun g=>B<=g) (.mk op n name es body els) (.agg #[.int .u8 op,.int .i64 n,.string (bstr name),ve,vb,vl]):=by
 obtain ⟨c1,a1,a2,a3⟩:=h1;obtain ⟨c2,b1,b2,b3⟩:=h2;obtain ⟨c3,d1,d2,d3⟩:=h3;exact ⟨_,rfl,(StsC.cons (P:=fun g=>m<=g) a1 a2 a3 b1 b2 b3 d1 d2 d3 .nil).weak fun g _ h=>yT hB h⟩
def zbh : List Value := [.int .u8 0, .int .i64 0, .string { data := #[] }, .slice none 0 0, .slice none 0 0, .slice none 0 0]
theorem set1 {W:World} {g:Nat} {e:TypeId} {vs:List Value} (h:OwnV W g e vs) (i:Nat) (v:Value):∃ W',W'=W.setCell ⟨g,i,none⟩ v/\OwnV W' g e (vs.set i v)/\W.grownBy W' (some g):=⟨_,rfl,h.set i v,zaY _ _ _ _⟩
theorem set6 (W:World) (g:Nat) (v0 v1 v2 v3 v4 v5:Value) :
  ∃ W',W'=(((((W.setCell ⟨g,0,none⟩ v0).setCell ⟨g,1,none⟩ v1).setCell ⟨g,2,none⟩ v2).setCell ⟨g,3,none⟩ v3).setCell ⟨g,4,none⟩ v4).setCell ⟨g,5,none⟩ v5/\W.grownBy W' (some g):=
 ⟨_,rfl,zbc (zbc (zbc (zbc (zbc (zaY _ _ _ _) (zaY _ _ _ _)) (zaY _ _ _ _)) (zaY _ _ _ _)) (zaY _ _ _ _)) (zaY _ _ _ _)⟩
theorem ze9 {l:List Tok} (hG:Good l) (hm:l.length<=4611686018427387904) (i:Nat):ExprC l (zaA l) i:=fun k o least v w _ h2 h3 h4 h5=>ziI l v hG hm k o least w h5 h2 h3 h4
end Go.Proofs.Ytdeneckmoejcfaa
