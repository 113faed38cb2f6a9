/- What a zfe list looks like, and that its joined texts are zfe to the same tokens. Plain mathematics. -/
import Derived.Test.YtoaojdobjinhfaaGreatDoorAwMC
import Derived.Test.YtoaojdobjinhfaaGreatDoorRParRT
import Derived.Test.YtoaojdobjinhfaaGreatDoorTreeOC
set_option linter.unusedSimpArgs false
set_option linter.unusedVariables false
set_option maxRecDepth 100000
set_option maxHeartbeats 1000000
namespace Go.Proofs.YtoaojdobjinhfaaGreatDoor
def zcY (l : List Tok) : List (List UInt8) := (l.filter fun t => decide (t.kind ≠ 4)).map (·.text)
def zco (l : List Tok) : List UInt8 := Lib.join (zcY l) [32]
theorem zer {us:List Tok} (hu:∀ t ∈ us,TokOk t) (l c:Int):zcY (us++[endT l c])=us.map (·.text):=by
 unfold zcY;rw [List.filter_append];have e:us.filter (fun t=>decide (t.kind≠4))=us:=List.filter_eq_self.2 fun t ht=>decide_eq_true (hu t ht).kind
 rw [e];simp [endT]
theorem relex:∀ (us:List Tok),(∀ t ∈ us,TokOk t)→∀ (l c:Int),∃ us' c',lexF (Lib.join (us.map (·.text)) [32]) l c=.ok (us'++[endT l c'])∧us'.map Tok.bare=us.map Tok.bare∧∀ t ∈ us',TokOk t:=by
 intro us
 induction us with
 | nil=>intro _ l c;exact ⟨[],c,by simp [Lib.join,zda,endT],rfl,by simp⟩
 | cons t us ih =>
  intro hu l c;have ht:=hu t (by simp)
  cases us with
  | nil =>
   refine ⟨[t.moved l c],c+t.text.length,?_,rfl,by simpa using ht.moved l c⟩;have:=zfG ht (r:=[]) rfl l c;rw [List.append_nil] at this;have e0:Lib.join ([t].map (·.text)) [32]=t.text:=by simp [Lib.join_cons,Lib.joinTail]
   rw [e0,this,zda]
   rfl
  | cons u us =>
   obtain ⟨us',c',h1,h2,h3⟩:=ih (fun x hx=>hu x (List.mem_cons_of_mem _ hx)) l (c+t.text.length+1);refine ⟨t.moved l c :: us',c',?_,by simp only [List.map_cons] at h2 ⊢;rw [h2];rfl,fun x hx=>?_⟩
   ·have e:Lib.join ((t :: u :: us).map (·.text)) [32]=t.text++(32 :: Lib.join ((u :: us).map (·.text)) [32]):=by
     simp only [List.map_cons,Lib.join_cons];simp [Lib.joinTail]
    rw [e,zfG ht rfl,zgc,h1];rfl
   ·rcases List.mem_cons.1 hx with rfl | hx
    ·exact ht.moved l c
    ·exact h3 x hx
theorem zjW {us us':List Tok} (h:us'.map Tok.bare=us.map Tok.bare):us'.map (·.text)=us.map (·.text):=by
 have:=congrArg (List.map fun x:Int × List UInt8 × Int=>x.2.1) h;simpa [List.map_map,Tok.bare,Function.comp_def] using this
theorem ziT {bs:List UInt8} {ts:List Tok} (h:lexF bs 1 1=.ok ts):∃ ms,lexF (zco ts) 1 1=.ok ms∧ms.map Tok.bare=ts.map Tok.bare∧zco ms=zco ts:=by
 obtain ⟨us,l,c,rfl,hu⟩:=zga _ bs (zr _) _ _ _ h;obtain ⟨us',c',h1,h2,h3⟩:=relex us hu 1 1;refine ⟨us'++[endT 1 c'],?_,by rw [List.map_append,List.map_append,h2];rfl,?_⟩
 ·unfold zco;rw [zer hu];exact h1
 ·unfold zco;rw [zer hu,zer h3,zjW h2]
open Go.RowKit

theorem StsC.weak1 {w:World} {P Q:Nat→Prop} {xs:List St} {cs:List Value} (h:StsC w (fun g=>P g∧Q g) xs cs):StsC w P xs cs:=h.weak fun _ _ h=>h.1
theorem zlb (op n:Int) (name:List UInt8) (es:List Ex) (body els:List St) (va vb vc ua ub uc:Value) (w:World) (h1:∃ a cap,va=.slice a es.length cap) (h2:∃ a cap,vb=.slice a body.length cap) (h3:∃ a cap,vc=.slice a els.length cap) (h4:∃ a cap,ua=.slice a es.length cap) (h5:∃ a cap,ub=.slice a body.length cap) (h6:∃ a cap,uc=.slice a els.length cap)
  (hC:∀ w',Below w.heap.size w w'→Calls Tryz.prog 66 #[va,ua] w' (YesE w')) (hD:∀ w',Below w.heap.size w w'→Calls Tryz.prog 32 #[vb,ub] w' (YesE w')) (hE:∀ w',Below w.heap.size w w'→Calls Tryz.prog 32 #[vc,uc] w' (YesE w')) :
  Calls Tryz.prog 61 #[.agg #[.int .u8 op,.int .i64 n,.string (bstr name),va,vb,vc],.agg #[.int .u8 op,.int .i64 n,.string (bstr name),ua,ub,uc]] w (YesE w):=by
 obtain ⟨a1,p1,rfl⟩:=h1;obtain ⟨a2,p2,rfl⟩:=h2;obtain ⟨a3,p3,rfl⟩:=h3;obtain ⟨a4,p4,rfl⟩:=h4;obtain ⟨a5,p5,rfl⟩:=h5;obtain ⟨a6,p6,rfl⟩:=h6;have HC:=zh hC;have HD:=zh hD;have HE:=zh hE;clear hC hD hE;go_enter Tryz.func61,Tryz.ntmps61
 go_upto_region 1 with (fail)
 obtain ⟨W0,hW0,hb0,hR0,hT0,hsz⟩:=zbD w [.int .u8 op,.int .i64 n,.string (bstr name),.slice a1 es.length p1,.slice a2 body.length p2,.slice a3 els.length p3] [.int .u8 op,.int .i64 n,.string (bstr name),.slice a4 es.length p4,.slice a5 body.length p5,.slice a6 els.length p6] 56 56;rw [← hW0];clear hW0;have Hb0:=zh hb0;have HR0:=zh hR0;have HT0:=zh hT0;have x0:=hR0.cell (i:=0) rfl;have x1:=hR0.cell (i:=1) rfl;have x2:=hR0.cell (i:=2) rfl;have x3:=hR0.cell (i:=3) rfl;have y0:=hT0.cell (i:=0) rfl;have y1:=hT0.cell (i:=1) rfl;have y2:=hT0.cell (i:=2) rfl;have y3:=hT0.cell (i:=3) rfl;clear hb0 hR0 hT0;go_wp2_with fail
 refine (HC.out _ Hb0.out).mono ?_;rintro e1 w1 ⟨rfl,hb1⟩;have x4:=(HR0.out.below hb1 (zr _)).cell (i:=4) rfl;have y4:=(HT0.out.below hb1 (zr _)).cell (i:=4) rfl;have Hb1:=zh (Hb0.out.trans (hb1.mono Hb0.out.size));have HR1:=zh (HR0.out.below hb1 (zr _));have HT1:=zh (HT0.out.below hb1 (zr _));clear hb1;go_wp2_with fail
 refine (HD.out _ Hb1.out).mono ?_;rintro e2 w2 ⟨rfl,hb2⟩;have x5:=(HR1.out.below hb2 (zr _)).cell (i:=5) rfl;have y5:=(HT1.out.below hb2 (zr _)).cell (i:=5) rfl;have Hb2:=zh (Hb1.out.trans (hb2.mono Hb1.out.size));clear hb2;go_wp2_with fail
 refine (HE.out _ Hb2.out).mono ?_;rintro e3 w3 ⟨rfl,hb3⟩;have Hb3:=zh (Hb2.out.trans (hb3.mono Hb2.out.size));clear hb3;go_wp2_with fail
 go_ret;exact ⟨rfl,Hb3.out⟩
theorem zjX:∀ (m:Nat) (xs:List St) (va vb:Value) (w:World) (B:Nat),szSs xs < m→SsL w B xs va→SsL w B xs vb→B≤w.heap.size →
  Calls Tryz.prog 32 #[va,vb] w (YesE w):=by
 intro m
 induction m with
 | zero=>intro xs va vb w B h;omega
 | succ m ih =>
  intro xs va vb w B hm hL hM hB;obtain ⟨a,cap,rfl,hc1,hc2⟩:=hL.form;obtain ⟨a',cap',rfl,hc1',hc2'⟩:=hM.form;have HL:=zh hL;have HM:=zh hM;have Hm:=zh hm;have Hih:=zh ih;clear hm hL hM ih;go_enter Tryz.func32,Tryz.ntmps32
  go_wp2_with fail
  go_loopw [4,5,11,12,13,14,15,16,17,18,19,20,21,22,23,24,25,26] (fun _ t5 _ _ _ _ _ _ _ _ _ _ _ _ _ _ _ _ wr=>∃ (k:Nat),k≤xs.length∧t5=.int .i64 k∧Hid (Below w.heap.size w wr)) (fun _ t5 _ _ _ _ _ _ _ _ _ _ _ _ _ _ _ _ _=>xs.length - (intOf t5).toNat)
  case atStart=>exact ⟨0,by omega,by first | rfl | go_num,zh (Below.refl _ _)⟩
  case round =>
   obtain ⟨k,hk,rfl,HB⟩:=hrel;have hszr:=HB.out.size;by_cases hkl:k < xs.length
   ·have hki:(k:Int) < (xs.length:Int):=by omega
    have hcl:(xs.length:Int)≤9223372036854775807:=by omega
    have hLr:SsL wr B xs (.slice a xs.length cap):=HL.out.low (HB.out.mono hB);have hMr:SsL wr B xs (.slice a' xs.length cap'):=HM.out.low (HB.out.mono hB);obtain ⟨b,off,op2,n2,name2,es,body,els,ae,ce,ab,cb,al,cl,rfl,hbB,hbw,hat,c0,c1,c2,c3,c4,c5,hE,hBd,hEl⟩:=hLr.at hkl;obtain ⟨b',off',op3,n3,name3,es',body',els',ae',ce',ab',cb',al',cl',rfl,hbB',hbw',hat',d0,d1,d2,d3,d4,d5,hE',hBd',hEl'⟩:=hMr.at hkl;rw [hat] at hat';cases hat';obtain ⟨hz1,hz2,hz3⟩:=szS_mk hat
    have HI:Hid (∀ N,Calls Tryz.prog 61 _ (wr.drewN N) (YesE (wr.drewN N))):=zh (fun N=>by
     have hbN:∀ {w'},Below (wr.drewN N).heap.size (wr.drewN N) w'→Below wr.heap.size wr w':=fun hb=>Below.trans (b:=wr.drewN N) ⟨rfl,rfl,rfl,zr _,fun _ _=>rfl⟩ hb
     exact zlb op2 n2 name2 es body els _ _ _ _ _ _ (wr.drewN N) ⟨ae,ce,rfl⟩ ⟨ab,cb,rfl⟩ ⟨al,cl,rfl⟩ ⟨ae',ce',rfl⟩ ⟨ab',cb',rfl⟩ ⟨al',cl',rfl⟩
      (fun w' hb=>zes _ es _ _ w' B (Nat.lt_succ_self _) (hE.low ((hbN hb).mono (Nat.le_trans hB hszr))) (hE'.low ((hbN hb).mono (Nat.le_trans hB hszr))) (Nat.le_trans hB (Nat.le_trans hszr (hbN hb).size)))
      (fun w' hb=>Hih.out body _ _ w' B (by have:=Hm.out;omega) (hBd.low ((hbN hb).mono (Nat.le_trans hB hszr))) (hBd'.low ((hbN hb).mono (Nat.le_trans hB hszr))) (Nat.le_trans hB (Nat.le_trans hszr (hbN hb).size)))
      (fun w' hb=>Hih.out els _ _ w' B (by have:=Hm.out;omega) (hEl.low ((hbN hb).mono (Nat.le_trans hB hszr))) (hEl'.low ((hbN hb).mono (Nat.le_trans hB hszr))) (Nat.le_trans hB (Nat.le_trans hszr (hbN hb).size))))
    clear hLr hat hE hBd hEl hE' hBd' hEl' hz1 hz2 hz3 hMr;go_wp2_with fail
    refine zaW 8 (DrewOf wr) (by kernel_rfl) (by kernel_rfl) (DrewOf.start _) ?_;simp only [List.take_succ_cons,List.take_zero,List.drop_succ_cons,List.drop_zero]
    repeat
     try simp only [Act.put,zs1,zs3,zs2]
     apply stepsSeq.cons
     ·rintro w' ⟨nq,rfl⟩;simp only [Act.put,zs1,zs3,zs2];go_wp2_with (fail)
      first | exact ⟨rfl,nq,rfl⟩ | exact ⟨rfl,nq,(World.drewN_drewN _ _ _).symm⟩ | exact ⟨rfl,nq,by simp⟩
    try simp only [Act.put,zs1,zs3,zs2]
    refine stepsSeq.nil ?_;rintro w' ⟨nq,rfl⟩;go_wp2_with fail
    refine (HI.out _).mono ?_;rintro e2 w2 ⟨rfl,hb2⟩;have HB2:Hid (Below w.heap.size w w2):=zh ((Below.drewN HB.out nq).trans (hb2.mono hszr));clear hb2;go_wp2_with fail
    go_roundw
    case rel=>exact ⟨k+1,by omega,by go_num,HB2⟩
    case measure=>simp [intOf];omega
   ·have hki:¬ (k:Int) < (xs.length:Int):=by omega
    go_wp2_with fail
    go_ret;exact ⟨rfl,HB.out⟩
open Go.ChangeShapes Go.WideShapes Go.RowKit
set_option maxRecDepth 100000

theorem ExsC.join {w:World} {P:Nat→Prop} {xs ys:List Ex} {cs ds:List Value} (h:ExsC w P xs cs) (g:ExsC w P ys ds):ExsC w P (xs++ys) (cs++ds):=by
 induction h with
 | nil=>exact g
 | cons h1 h2 h3 _ _ ih=>exact .cons h1 h2 h3 ih
theorem StsC.join {w:World} {P:Nat→Prop} {xs ys:List St} {cs ds:List Value} (h:StsC w P xs cs) (g:StsC w P ys ds):StsC w P (xs++ys) (cs++ds):=by
 induction h with
 | nil=>exact g
 | cons h1 h2 h3 b1 b2 b3 l1 l2 l3 _ _ _ ih=>exact .cons h1 h2 h3 b1 b2 b3 l1 l2 l3 ih
variable {H : Type} {enc : TypeId × Value → H} {w : World} {base : Nat} {spare : Nat → Bool} {held : Bool}
structure Alike (l m : List Tok) : Prop where
  len : l.length = m.length
  kind : ∀ i, (zaa l i).kind = (zaa m i).kind
  text : ∀ i, (zaa l i).text = (zaa m i).text
  n : ∀ i, (zaa l i).n = (zaa m i).n
theorem zmQ {l m:List Tok} (h:l.map Tok.bare=m.map Tok.bare):Alike l m:=by
 have hl:l.length=m.length:=by have:=congrArg List.length h;simpa using this
 have hb:∀ i,(zaa l i).bare=(zaa m i).bare:=by
  intro i;have h1:(l.map Tok.bare)[i]? = (m.map Tok.bare)[i]?:=by rw [h]
  rw [List.getElem?_map,List.getElem?_map] at h1;unfold zaa;rw [List.getD_eq_getElem?_getD,List.getD_eq_getElem?_getD]
  cases h2:l[i]? with
  | none =>
   cases h3:m[i]? with
   | none=>rfl
   | some y=>rw [h2,h3] at h1;cases h1
  | some x =>
   cases h3:m[i]? with
   | none=>rw [h2,h3] at h1;cases h1
   | some y =>
    rw [h2,h3] at h1;simp only [Option.map_some,Option.some.injEq] at h1;exact h1
 refine ⟨hl,fun i=>?_,fun i=>?_,fun i=>?_⟩
 ·exact congrArg (fun p=>p.1) (hb i)
 ·exact congrArg (fun p=>p.2.1) (hb i)
 ·exact congrArg (fun p=>p.2.2) (hb i)
theorem zch {l m:List Tok} (h:Alike l m):isS l=isS m:=by
 funext i s;unfold isS;rw [h.kind,h.text]
theorem zfz {l m:List Tok} (h:Alike l m):za3 l=za3 m:=by
 funext i;unfold za3;rw [h.kind,h.text]
theorem zhC {l m:List Tok} (h:Alike l m):zaj l=zaj m:=by
 funext i;unfold zaj;rw [zfz h]
theorem zfA {l m:List Tok} (h:Alike l m):zay l=zay m:=by
 funext i s o;unfold zay;rw [zch h]
theorem zkP {l m:List Tok} (h:Alike l m) (E:Nat→Nat→Nat→PR Ex):zaD l E=zaD m E:=by
 funext f
 induction f with
 | zero=>funext x i o b;rfl
 | succ f ih=>funext x i o b;simp only [zaD,zhC h,zfz h,ih]
theorem zkQ {l m:List Tok} (h:Alike l m) (E:Nat→Nat→Nat→PR Ex):zav l E=zav m E:=by
 funext o stop f
 induction f with
 | zero=>funext xs i;simp only [zav,zch h]
 | succ f ih=>funext xs i;simp only [zav,zch h,ih]
theorem zdR {l m:List Tok} (h:Alike l m) (E:Nat→Nat→Nat→PR Ex):zad l E=zad m E:=by
 funext i o s t k;unfold zad;rw [zfA h,zkQ h]
theorem zhD {l m:List Tok} (h:Alike l m) (E:Nat→Nat→Nat→PR Ex):zah l E=zah m E:=by
 funext i o;unfold zah;rw [h.kind,h.n,h.text,zch h,zdR h]
theorem zjp {l m:List Tok} (h:Alike l m) (E:Nat→Nat→Nat→PR Ex):zas l E=zas m E:=by
 funext f
 induction f with
 | zero=>funext i o;rfl
 | succ f ih=>funext i o;simp only [zas,zch h,zhD h,ih]
theorem zkR {l m:List Tok} (h:Alike l m):zaw l=zaw m:=by
 funext f
 induction f with
 | zero=>funext i o b;rfl
 | succ f ih=>funext i o b;simp only [zaw,ih,zjp h,zkP h,h.len]
theorem zeI {l m:List Tok} (h:Alike l m):zaA l=zaA m:=by
 funext i o b;unfold zaA;rw [zkR h,h.len]
theorem zjq {l m:List Tok} (h:Alike l m):zaz l=zaz m:=by
 funext i o;unfold zaz;rw [zch h,zeI h]
theorem zjr {l m:List Tok} (h:Alike l m) (S:Nat→Nat→PR St):zaX l S=zaX m S:=by
 funext o f
 induction f with
 | zero=>funext xs i;rfl
 | succ f ih=>funext xs i;simp only [zaX,zch h,ih]
theorem zjs {l m:List Tok} (h:Alike l m) (S:Nat→Nat→PR St):zaB l S=zaB m S:=by
 funext i o;unfold zaB;rw [zfA h,zjr h,h.len]
theorem ziP {l m:List Tok} (h:Alike l m) (S:Nat→Nat→PR St):zau l S=zau m S:=by
 funext f
 induction f with
 | zero=>funext i o;rfl
 | succ f ih=>funext i o;simp only [zau,zch h,zdR h,zeI h,zjs h,ih]
theorem zkS {l m:List Tok} (h:Alike l m):zan l=zan m:=by
 funext f
 induction f with
 | zero=>funext i o;rfl
 | succ f ih=>funext i o;simp only [zan,zch h,zdR h,zeI h,ziP h,zjq h,h.kind,h.text,h.len,ih]
theorem zlY {l m:List Tok} (h:Alike l m):allS l=allS m:=by
 funext f
 induction f with
 | zero=>funext xs i;rfl
 | succ f ih=>funext xs i;simp only [allS,zcJ,zkS h,h.kind,h.len,ih]
theorem zkT {t:Tok} {ts:List Tok} (h:t.kind≠4):(zco (t :: ts)).length≤t.text.length+1+(zco ts).length:=by
 unfold zco;have e:zcY (t :: ts)=t.text :: zcY ts:=by unfold zcY;simp [h]
 rw [e,Lib.join_cons]
 cases hx:zcY ts with
 | nil=>simp [Lib.joinTail,Lib.join]
 | cons y r =>
  rw [Lib.join_cons];simp [Lib.joinTail];omega
theorem zkU:∀ (n:Nat) (bs:List UInt8),bs.length≤n→∀ (l c:Int) (ts:List Tok),lexF bs l c=.ok ts→(zco ts).length≤2 * bs.length:=by
 intro n
 induction n with
 | zero =>
  intro bs hb l c ts h;obtain rfl:bs=[]:=List.eq_nil_of_length_eq_zero (by omega);rw [zda] at h;cases h
  simp [zco,zcY,Lib.join]
 | succ n ih =>
  intro bs hb l c ts h;rw [zbY] at h;have hsl:=zc9 bs false l c
  generalize (zam bs false l c).1=bs' at *
  generalize (zam bs false l c).2.1=l' at *
  generalize (zam bs false l c).2.2=c' at *
  rcases zet bs' l' c' with ⟨_,h1⟩ | ⟨code,_,h1,_⟩ | ⟨t,ht,_,_,h2,h3,h1⟩
  ·rw [h1] at h;cases h;simp [zco,zcY,Lib.join]
  ·rw [h1] at h;cases h
  ·rw [h1] at h;have ht1:1≤t.text.length:=List.length_pos_iff.2 ht.text
   cases hr:lexF (bs'.drop t.text.length) l' (c'+t.text.length) with
   | err a b c=>rw [hr] at h;cases h
   | ok m =>
    rw [hr] at h;cases h;have hl:(bs'.drop t.text.length).length=bs'.length - t.text.length:=List.length_drop;have h5:=ih _ (by omega) _ _ _ hr;have h6:=zkT (ts:=m) ht.kind;omega
def ParR.core : ParR → List St × Int
  | .ok xs => (xs, 0)
  | .err _ _ c => ([], c)
theorem parse_join {s:List UInt8} {ts:List Tok} (h:lexS s=.ok ts) (hs:s.length≤8192):(zco ts).length≤16384∧(zbg (zco ts)).core=(zbg s).core:=by
 have h0:=h;rw [zcO,if_neg (by omega)] at h0;have hj:=zkU _ s (zr _) _ _ _ h0;refine ⟨by omega,?_⟩;obtain ⟨ms,h1,h2,-⟩:=ziT h0;have hm:lexS (zco ts)=.ok ms:=by rw [zcO,if_neg (by omega),h1]
 have ha:=zmQ h2;unfold zbg;rw [h,hm];simp only [];rw [zlY ha,ha.len]
 cases allS ts (ts.length+1) [] 0 with
 | ok xs j=>rfl
 | err a c=>rfl

def PAns (xs : List St) (a b c : Int) (w : World) (e : Ending) (w' : World) : Prop :=
  (∃ p cap, e = .returned (.tuple #[.slice p xs.length cap, .int .i64 a, .int .i64 b, .int .i64 c]) ∧ SsL w' w'.heap.size xs (.slice p xs.length cap)) ∧ Below w.heap.size w w'
inductive PsC (s : ByteArray) : List St → Int → Int → Int → Prop where
  | err (a b c : Int) (h : c ≠ 0) : PsC s [] a b c
  | ok (xs : List St) (h : zbg s.data.toList = .ok xs) : PsC s xs 0 0 0
theorem znz (s:ByteArray) (hs:s.size≤9223372036854775807):∃ (xs:List St) (a b c:Int),PsC s xs a b c∧∀ w:World,Glob w→Calls Tryz.prog 31 #[.string s] w (PAns xs a b c w):=by
 cases h:zbg s.data.toList with
 | ok xs =>
  refine ⟨xs,0,0,0,.ok xs h,fun w hG=>?_⟩;have H:=zbP hG s hs;rw [h] at H;refine H.mono ?_;rintro e w' ⟨⟨v,rfl,hX⟩,hb⟩;have hS:=zeM hX;obtain ⟨a,cap,rfl,-,-⟩:=hS.form
  exact ⟨⟨a,cap,rfl,hS⟩,hb⟩
 | err a b c =>
  refine ⟨[],a,b,c,.err a b c (zgi h),fun w hG=>?_⟩;have H:=zbP hG s hs;rw [h] at H;refine H.mono ?_;rintro e w' ⟨⟨rfl,-⟩,hb⟩;exact ⟨⟨none,0,rfl,SsL.nil _ _⟩,hb⟩
theorem parse_core (s:ByteArray) (hs:s.size≤9223372036854775807):∃ (a b:Int),∀ w:World,Glob w→Calls Tryz.prog 31 #[.string s] w (PAns (zbg s.data.toList).core.1 a b (zbg s.data.toList).core.2 w):=by
 cases h:zbg s.data.toList with
 | ok xs =>
  refine ⟨0,0,fun w hG=>?_⟩;have H:=zbP hG s hs;rw [h] at H;refine H.mono ?_;rintro e w' ⟨⟨v,rfl,hX⟩,hb⟩;have hS:=zeM hX;obtain ⟨a,cap,rfl,-,-⟩:=hS.form
  exact ⟨⟨a,cap,rfl,hS⟩,hb⟩
 | err a b c =>
  refine ⟨a,b,fun w hG=>?_⟩;have H:=zbP hG s hs;rw [h] at H;refine H.mono ?_;rintro e w' ⟨⟨rfl,-⟩,hb⟩;exact ⟨⟨none,0,rfl,SsL.nil _ _⟩,hb⟩
theorem core_bad {s:ByteArray} {a b c:Int} (h:lexS s.data.toList=.err a b c):(zbg s.data.toList).core=([],c):=by
 unfold zbg;rw [h];rfl

theorem zl1 (s:ByteArray) (hs:s.size≤9223372036854775807):∃ (xs:List St) (a b c:Int),
  (∀ w:World,Glob w→Calls Tryz.prog 31 #[.string s] w (PAns xs a b c w))∧(∀ w:World,Calls Tryz.prog 39 #[.string s] w (PAns xs a b c w)):=by
 cases h:zbg s.data.toList with
 | ok xs =>
  refine ⟨xs,0,0,0,fun w hG=>?_,fun w=>?_⟩
  ·have H:=zbP hG s hs;rw [h] at H;refine H.mono ?_;rintro e w' ⟨⟨v,rfl,hX⟩,hb⟩;have hS:=zeM hX;obtain ⟨a,cap,rfl,-,-⟩:=hS.form;exact ⟨⟨a,cap,rfl,hS⟩,hb⟩
  ·have H:=zfa s w hs;rw [h] at H;refine H.mono ?_;rintro e w' ⟨⟨v,rfl,hX⟩,hb⟩;have hS:=zeM hX;obtain ⟨a,cap,rfl,-,-⟩:=hS.form
   exact ⟨⟨a,cap,rfl,hS⟩,hb⟩
 | err a b c =>
  refine ⟨[],a,b,c,fun w hG=>?_,fun w=>?_⟩
  ·have H:=zbP hG s hs;rw [h] at H;refine H.mono ?_;rintro e w' ⟨⟨rfl,-⟩,hb⟩;exact ⟨⟨none,0,rfl,SsL.nil _ _⟩,hb⟩
  ·have H:=zfa s w hs;rw [h] at H;refine H.mono ?_;rintro e w' ⟨⟨rfl,-⟩,hb⟩;exact ⟨⟨none,0,rfl,SsL.nil _ _⟩,hb⟩
theorem zkY (s:ByteArray) (hs:s.size≤9223372036854775807) (w:World) (hG:Glob w):Calls Tryz.prog 14 #[.string s] w (YesE w):=by
 obtain ⟨xs,a,b,c,h1,h2⟩:=zl1 s hs;unfold PAns at h1 h2;have H1:=zh (h1 w hG);have H2:=zh h2;have hgs:=hG.size;clear h1 h2 hG hs;go_enter Tryz.func14,Tryz.ntmps14
 go_wp2_with fail
 go_at_call 31;refine H1.out.mono ?_;rintro e1 w1 ⟨⟨p1,c1,rfl,hL1⟩,hb1⟩;have HL1:=zh hL1;have Hb1:=zh hb1;clear hL1 hb1;go_wp2_with fail
 go_at_call 39;refine (H2.out _).mono ?_;rintro e2 w2 ⟨⟨p2,c2,rfl,hL2⟩,hb2⟩;have Hb2:=zh (Hb1.out.trans (hb2.mono Hb1.out.size));have HS:=zh (zjX (szSs xs+1) xs _ _ w2 w2.heap.size (by omega) ((HL1.out.low hb2).mono hb2.size) hL2 (zr _));clear hL2 hb2;go_wp2_with fail
 go_at_call 32;refine HS.out.mono ?_;rintro e3 w3 ⟨rfl,hb3⟩;have Hb3:=zh (Hb2.out.trans (hb3.mono Hb2.out.size));clear hb3;go_wp2_with fail
 exact bodyPost_ret (v:=.bool true) (by simp [results,Tryz.results14,go_sem]) rfl ⟨rfl,Hb3.out⟩
theorem znx (s:ByteArray) (w:World) (hG:Glob w):Calls Tryz.prog 3 #[.string s] w (YesE w):=by
 have hgs:=hG.size;have HAw:Hid (∀ W,Below w.heap.size w W→Calls Tryz.prog 15 #[] W (YesE W)):=zh (fun W hb=>zfY (hG.below hb hgs));by_cases h:3000 < s.size
 ·have h1:(s.size:Int) > 3000:=by omega
  have HA:=zh (HAw.out w (Below.refl _ _));clear hG;go_enter Tryz.func3,Tryz.ntmps3
  go_wp2_with fail
  go_at_call 15;refine HA.out.mono ?_;rintro e1 w1 ⟨rfl,hb1⟩;have Hb1:=zh hb1;clear hb1;go_wp2_with fail
  exact bodyPost_ret (v:=.bool true) (by simp [results,Tryz.results3,go_sem]) rfl ⟨rfl,Hb1.out⟩
 ·have h1:¬ (s.size:Int) > 3000:=by omega
  have HP:=zh (zkY s (by omega) w hG);clear hG;go_enter Tryz.func3,Tryz.ntmps3
  go_wp2_with fail
  go_at_call 14;refine HP.out.mono ?_;rintro e1 w1 ⟨rfl,hb1⟩;have Hb1:=zh hb1;have HA:=zh (HAw.out w1 hb1);clear hb1;go_wp2_with fail
  go_at_call 15;refine HA.out.mono ?_;rintro e2 w2 ⟨rfl,hb2⟩;have Hb2:=zh (Hb1.out.trans (hb2.mono Hb1.out.size));clear hb2;go_wp2_with fail
  exact bodyPost_ret (v:=.bool true) (by simp [results,Tryz.results3,go_sem]) rfl ⟨rfl,Hb2.out⟩
end Go.Proofs.YtoaojdobjinhfaaGreatDoor
