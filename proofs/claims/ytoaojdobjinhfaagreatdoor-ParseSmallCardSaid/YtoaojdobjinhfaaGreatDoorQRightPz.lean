/- The program's lexer: Place, walked, with the iterator that it ranges over. For sources of at most a million bytes. -/
import Derived.Test.YtoaojdobjinhfaaGreatDoorQFuncPz
import Derived.Shelf.Abstract
import Derived.Shelf.RegionOpen
import Derived.Lib.Join
import Derived.Test.YtoaojdobjinhfaaGreatDoorShelf
set_option linter.unusedSimpArgs false
set_option linter.unusedVariables false
set_option maxRecDepth 100000
set_option maxHeartbeats 12000000
namespace Go.Proofs.YtoaojdobjinhfaaGreatDoor
open Go.RowKit Go.Shelf
attribute [local go_sem] Oper.semAt_some

def KeepsCells (W W' : World) : Prop := W.heap.size <= W'.heap.size /\ ∀ (k : Nat) (o : Obj), W.heap[k]? = some o -> o.isCells = true -> W'.heap[k]? = some o
theorem KeepsCells.trans{A B C:World}(h:KeepsCells A B)(k:KeepsCells B C):KeepsCells A C:=⟨yT h.1 k.1,fun i o hi ho=>k.2 i o (h.2 i o hi ho) ho⟩
theorem KeepsCells.put(W:World)(l:Nat)(o d:Obj)(h:W.heap[l]? = some o)(g:o.isCells=false):KeepsCells W (W.putObj l d):=by
 have f:=grownBy_putObj' W l d;refine⟨f.size,fun k u hk hu=>?_⟩;rw[f.block k (lt_of_block hk) (fun e=>by cases e;rw[h] at hk;cases hk;rw[g] at hu;cases hu)];exact hk
theorem KeepsCells.alloc(W:World)(o:Obj):KeepsCells W (W.alloc o):=⟨by simp,fun k u hk _=>(Below.heap_alloc W o k (lt_of_block hk)).trans hk⟩
def endT (l c : Int) : Tok := ⟨4, [], 0, l, c⟩
theorem zga:∀(n:Nat) (f:List UInt8),f.length<=n->∀(l c:Int) (ts:List Tok),lexF f l c=.ok ts->∃q j g,ts=q++[endT j g]/\∀t∈q,TokOk t:=by
 intro n
 induction n with
 | zero =>
  intro f w l c ts h;obtain rfl:f=[]:=List.eq_nil_of_length_eq_zero (by omega);rw[zda] at h;cases h
  exact⟨[],l,c,rfl,by simp⟩
 | succ n ih =>
  intro f w l c ts h;rw[zbY] at h;have v:=zc9 f false l c
  generalize (zam f false l c).1=d at *
  generalize (zam f false l c).2.1=j at *
  generalize (zam f false l c).2.2=g at *
  rcases zet d j g with⟨_,i⟩|⟨code,_,i,_⟩|⟨t,ht,_,_,z,A,i⟩
  ·rw[i] at h;cases h;exact⟨[],j,g,rfl,by simp⟩
  ·rw[i] at h;cases h
  ·rw[i] at h;have u:1<=t.text.length:=List.length_pos_iff.2 ht.text
   cases hr:lexF (d.drop t.text.length) j (g+t.text.length) with
   | err a b c=>rw[hr] at h;cases h
   | ok m =>
    rw[hr] at h;cases h;have B:(d.drop t.text.length).length=d.length-t.text.length:=List.length_drop;obtain⟨q,a,b,rfl,y⟩:=ih _ (by omega) _ _ _ hr;refine⟨t::q,a,b,rfl,fun x hx=>?_⟩;rcases List.mem_cons.1 hx with rfl|hx
    ·exact ht
    ·exact y x hx
open Go.RowKit

def Ends (t : Tok) (r : List UInt8) : Prop := (t.kind ≠ 3 -> r.head?.all (fun b => !zaf b) = true) /\ (t.kind = 3 -> ∀ a b r', t.text = [a] -> r = b :: r' -> ¬ (a.toNat, b.toNat) ∈ zbB)
theorem Ends.take{t:Tok}{r:List UInt8}(h:Ends t r)(n:Nat):Ends t (r.take n):=by
 cases r with
 | nil=>rw[List.take_nil];exact h
 | cons b r =>
  cases n with
  | zero=>exact⟨fun _=>rfl,fun _ a b r' _ e=>by cases e⟩
  | succ n =>
   rw[List.take_succ_cons];exact⟨fun hk=>h.1 hk,fun hk a b' r' ht e=>by cases e;exact h.2 hk a b _ ht rfl⟩
theorem zlE{xs ys:List UInt8}(f:xs≠[])(h:zag xs=xs.length)(i:∀a b r',xs=[a]->ys=b::r'->¬(a.toNat,b.toNat)∈zbB):zag (xs++ys)=xs.length:=by
 match xs,f with
 | [a],_ =>
  cases ys with
  | nil=>exact h
  | cons b r =>
   have g:a.toNat∈zbt:=by
    simp only[zag] at h;split at h
    ·assumption
    ·exact absurd h (by simp)
   show zag (a::b::r)=1;simp only[zag]
   rw[yN (i a b r rfl rfl),yP g]
 | [a,b],_=>exact h
 | a::b::d::r,_ =>
  have:=zh6 (a::b::d::r);rw[h] at this;simp at this
theorem zkp{t:Tok}(ht:TokOk t){r:List UInt8}(d:Ends t r)(l c:Int):lexT (t.text++r) l c=(lexF r l (c+t.text.length)).cons (t.moved l c):=by
 cases ht with
 | @word b s l0 c0 h1 h2 h3 =>
  have f:(b::(s++r)).takeWhile zaf=b::s:=zcH (xs:=b::s) h2 (d.1 (by simp));show zaK lexF (b::(s++r)) l c=_;rw[zaK,yP h1,f,yN (by omega),show b::(s++r)=(b::s)++r from rfl,List.drop_left]
  rfl
 | @number b s n l0 c0 h0 h1 h2 h3 =>
  have f:(b::(s++r)).takeWhile zaf=b::s:=zcH (xs:=b::s) h2 (d.1 (by simp));show zaK lexF (b::(s++r)) l c=_;rw[zaK,yN (by rw[h0];simp),yP h1,f,h3,show b::(s++r)=(b::s)++r from rfl,List.drop_left]
  rfl
 | @sign b s l0 c0 h0 h1 h2 =>
  have g:zag (b::(s++r))=(b::s).length:=zlE (xs:=b::s) (by simp) h2 (fun a b' r' e1 e2=>d.2 rfl a b' r' e1 e2);show zaK lexF (b::(s++r)) l c=_;rw[zaK,yN (by rw[h0];simp),yN (by rw[h1];simp),g,yN (by simp),show b::(s++r)=(b::s)++r from rfl,List.drop_left,List.take_left];rfl
theorem zlF{t:Tok}(ht:TokOk t){r:List UInt8}(d:Ends t r)(l c:Int):lexF (t.text++r) l c=(lexF r l (c+t.text.length)).cons (t.moved l c):=by
 rw[zbY,zgY ht];exact zkp ht d l c

def ziy : Nat -> St -> Bool
  | 0, _ => false
  | d + 1, x => zh2 d x
theorem zlK(d:Nat)(l:List St):zaJ d l=l.all (ziy d):=by
 cases d with
 | zero=>cases l <;> rfl
 | succ d=>rw[zfn];rfl
theorem zkA(op n:Int)(name:List UInt8)(args:List Ex)(v:Value)(q:Bool)(w:World)(g:∃a cap,v=.slice a args.length cap)
  (H:∀w',Below w.heap.size w w'->Calls Tryz.prog 62 #[.agg #[.int .u8 op,.int .i64 n,.string (bstr name),v],.int .i64 40] w' (zbe q w')) :
  Calls Tryz.prog 125 #[.agg #[.int .u8 op,.int .i64 n,.string (bstr name),v]] w (zbe (!q) w):=by
 obtain⟨a,cap,rfl⟩:=g;have i:=zh H;clear H;go_enter Tryz.func125,Tryz.ntmps125
 go_wp2_with fail
 refine(i.out _ ((yR _ _).alloc (zr _) _)).mono ?_;rintro j l⟨rfl,d⟩;have f:=zh (((yR w.heap.size w).alloc (zr _) (.cells #[.int .u8 op,.int .i64 n,.string (bstr name),.slice a args.length cap] 29)).trans (d.mono (by simp)));clear d;go_wp2_with fail
 go_ret;exact⟨rfl,f.out⟩
theorem name_ne{name:List UInt8}{q:Bool}(h:decide (name=[])=q):(q=false->¬(bstr name).toList=[]/\(bstr name).toList.isEmpty=false)/\(q=true->(bstr name).toList=[]):=by
 subst h;refine⟨fun h=>?_,fun h=>str_nil.2 (of_decide_eq_true h)⟩;have d:¬(bstr name).toList=[]:=fun e=>of_decide_eq_false h (str_nil.1 e)
 exact⟨d,by rw[List.isEmpty_eq_false_iff];exact d⟩
theorem zero_ne{n:Int}{q:Bool}(h:decide (n=0)=q):(n != 0) = !q:=by
 rw[<-h,Bool.eq_iff_iff,bne_iff_ne,Bool.not_eq_true',decide_eq_false_iff_not]
theorem headT_in{op n:Int}{name:List UInt8}{le lb d:Nat}(h:1<=op/\op<=7):zbA op n name le lb d=(decide (le=zfg op)&&((if op<=2 then zaP name else decide (name=[]))&&((if op=3 then decide (1<=n/\n<=10) else decide (n=0))&&decide ((lb=0∨op=4∨op=5)/\(d=0∨op=4))))):=by
 unfold zbA;rw[decide_eq_true h,Bool.true_and,<-Bool.decide_and]
theorem many_ne{op:Int}{k:Nat}{q:Bool}(h:decide (k=zfg op)=q)(m:Int)(d:(zfg op:Int)=m):((k:Int) != m) = !q:=by
 rw[<-h,<-d,Bool.eq_iff_iff,bne_iff_ne,Bool.not_eq_true',decide_eq_false_iff_not];omega
theorem zjh (N:Nat) (hN:N<=41) (op n:Int) (name:List UInt8) (es:List Ex) (body els:List St) (ve vb vl:Value) (w:World) (B:Nat) (aL:okS (.mk op n name es body els)) (hE:EsL w B es ve) (aq:SsL w B body vb) (ar:SsL w B els vl) (hB:B<=w.heap.size)
  (hA:∀d,N=d+1->∀w',Below w.heap.size w w'->Calls Tryz.prog 57 #[vb,.int .i64 d] w' (zbe (zaJ d body) w')) (hC:∀d,N=d+1->∀w',Below w.heap.size w w'->Calls Tryz.prog 57 #[vl,.int .i64 d] w' (zbe (zaJ d els) w')) :
  Calls Tryz.prog 87 #[.agg #[.int .u8 op,.int .i64 n,.string (bstr name),ve,vb,vl],.int .i64 N] w (zbe (ziy N (.mk op n name es body els)) w):=by
 obtain⟨ae,ce,rfl,aU,aO⟩:=hE.form;obtain⟨ab,cb,rfl,aR,aP⟩:=aq.form;obtain⟨al,cl,rfl,aS,aM⟩:=ar.form;obtain⟨-,-,-,af,-,-⟩:=aL;have ay:=zh af;have HE:=zh hE;have HA:=zh hA;have HC:=zh hC;have E:Hid (∀w:World,_):=zh (fun w:World=>zdr name w);have HK:Hid (∀w:World,_):=zh (fun w:World=>zhg n w);obtain⟨W1,aC,ah,v⟩:∃W1,W1=w.alloc (.cells #[.int .u8 op,.int .i64 n,.string (bstr name),.slice ae es.length ce,.slice ab body.length cb,.slice al els.length cl] 56)/\OwnV W1 w.heap.size 56 [.int .u8 op,.int .i64 n,.string (bstr name),.slice ae es.length ce,.slice ab body.length cb,.slice al els.length cl]/\Below w.heap.size w W1:=⟨_,rfl,OwnV.new _ _ _,(yR _ _).alloc (zr _) _⟩;have Z:=zh v;have an:=zh ah;have aA:=zh aC;have A:=ah.cell (i:=0) rfl
 have av:Hid (∀(w':World),Below w.heap.size w w'->Calls Tryz.prog 94 #[.slice ae es.length ce,.func (.func 125) #[] #[]] w' (zbe (es.any fun x=>!zbd 40 x) w')):=zh (by
  intro w' hb;refine zkw es _ (fun x=>!zbd 40 x) w' B (HE.out.low (hb.mono hB)) (yT hB hb.size) ?_;intro k ax n2 O R va W2 aH X ap;obtain⟨aa,ac,rfl,_,_⟩:=ap.form;refine zkA ax n2 O R _ _ W2 ⟨_,_,rfl⟩ ?_;intro w3 az
  exact zhh 40 (by omega) ax n2 O R _ w3 B (zgR ay.out aH) (ap.low (az.mono (yT hB (yT hb.size X.size)))) (yT hB (yT hb.size (yT X.size az.size))))
 have ag:(es.any fun x=>!zbd 40 x) = !es.all (zbd 40):=by rw[List.all_eq_not_any_not,Bool.not_not]
 rw[ag] at av;obtain⟨g,I⟩:∃q,ziy N (.mk op n name es body els)=q:=⟨_,rfl⟩;have W:Hid (N=0->g=false):=zh (fun h=>by rw[<-I,h];rfl);have P:Hid (∀d,N=d+1->g=((zaJ d body&&zaJ d els)&&(zbA op n name es.length body.length els.length&&es.all (zbd 40)))):=zh (fun d h=>by rw[<-I,h];rfl);rw[I]
 generalize es.all (zbd 40)=qe at *
 clear hE aq ar af aC ah v hA hC ag I;by_cases Y:1<=op/\op<=7
 ·obtain ⟨qm,aw⟩:∃ q,Hid (decide (es.length=zfg op)=q):=⟨_,zh rfl⟩;obtain ⟨qn,L⟩:∃ q,Hid ((if op<=2 then zaP name else decide (name=[]))=q):=⟨_,zh rfl⟩;obtain ⟨qc,Q⟩:∃ q,Hid ((if op=3 then decide (1<=n/\n<=10) else decide (n=0))=q):=⟨_,zh rfl⟩;obtain ⟨qp,aj⟩:∃ q,Hid (decide ((body.length=0∨op=4∨op=5)/\(els.length=0∨op=4))=q):=⟨_,zh rfl⟩;have HT:Hid (zbA op n name es.length body.length els.length=(qm && (qn && (qc && qp)))):=zh (by rw [headT_in Y,aw.out,L.out,Q.out,aj.out]);have Hm:=zh (many_ne aw.out);rcases (show op=1∨op=2∨op=3∨op=4∨op=5∨op=6∨op=7 by omega) with y | y | y | y | y | y | y
  all_goals
   first|have e1:(op==1)=true:=by rw[beq_iff_eq];omega|have e1:(op==1)=false:=by rw[beq_eq_false_iff_ne];omega
   first|have e2:(op==2)=true:=by rw[beq_iff_eq];omega|have e2:(op==2)=false:=by rw[beq_eq_false_iff_ne];omega
   first|have e3:(op==3)=true:=by rw[beq_iff_eq];omega|have e3:(op==3)=false:=by rw[beq_eq_false_iff_ne];omega
   first|have U:(op==4)=true:=by rw[beq_iff_eq];omega|have U:(op==4)=false:=by rw[beq_eq_false_iff_ne];omega
   first|have S:(op==5)=true:=by rw[beq_iff_eq];omega|have S:(op==5)=false:=by rw[beq_eq_false_iff_ne];omega
   first|have m6:(op != 6)=true:=by rw[bne_iff_ne];omega|have m6:(op != 6)=false:=by rw[bne_eq_false_iff_eq];omega
   first|have m7:(op != 7)=true:=by rw[bne_iff_ne];omega|have m7:(op != 7)=false:=by rw[bne_eq_false_iff_eq];omega
   first|rw[yP (by omega)] at L;rw[L.out] at E|rw[yN (by omega)] at L;have Hs:=zh (name_ne L.out)
   first|rw[yP (by omega)] at Q;rw[Q.out] at HK|rw[yN (by omega)] at Q;have ao:=zero_ne Q.out
   first|have ad:=Hm.out 1 (by rw[y];decide)|have ad:=Hm.out 2 (by rw[y];decide)|have ad:=Hm.out 0 (by rw[y];decide)
   have aD:=zh y;clear Y y Hm;go_enter Tryz.func87,Tryz.ntmps87
   go_upto_region 1 with(fail)
   rw[<-aA.out];go_upto_region 2 with(fail)
   refine zac (fun w'=>Below W1.heap.size W1 w') (by kernel_rfl) (by kernel_rfl) ((yR _ _).drew) ?_
   repeat
    try simp only[Act.put,zs1,zs3,zs2]
    apply stepsSeq.cons
    ·intro w' v;have z:=zh v;have aG:=Below.keep v A;simp only[Act.put,zs1,zs3,zs2];go_wp2_with ((fail))
     first|exact⟨rfl,z.out⟩|exact⟨rfl,z.out.trans (X.mono z.out.size)⟩
   try simp only[Act.put,zs1,zs3,zs2]
   refine stepsSeq.nil ?_;intro w' v;have f:=zh (Z.out.trans (v.mono Z.out.size));have l:=zh (an.out.below v (zr _));clear v A;obtain⟨A,F,H,G,C,D⟩:=yc6 l.out;go_upto_region 11 with(fail)
   simp only[List.append_eq,List.cons_append,List.nil_append];by_cases ak:N=0
   ·have aI:(N:Int)<=0:=by omega
    have m:Hid (g=false):=zh (W.out ak);clear ak HT P;have u:Hid (g=false):=zh (by simpa using m.out);clear m;go_wp2_with (first|(go_at_call 21;refine(E.out _).mono ?_;rintro U w4⟨rfl,j⟩;have f:=zh (f.out.trans (j.mono f.out.size));have l:=zh (l.out.below j (zr _));clear j A F H G C D;obtain⟨A,F,H,G,C,D⟩:=yc6 l.out)|(go_at_call 93;refine(HK.out _).mono ?_;rintro S w5⟨rfl,rfl⟩))
    go_ret;exact⟨by first|rfl|exact retb (a:=false) u.out.symm,f.out⟩
   obtain⟨d,hd⟩:∃d,N=d+1:=⟨N-1,by omega⟩;have aI:0<(N:Int):=by omega
   have aT:(N:Int)-1=(d:Int):=by omega
   have aV:(d:Int)<=41:=by omega
   have m:=P.out d hd;rw[HT.out] at m;have m:=zh m;have aQ:=zh (HA.out d hd);have aJ:=zh (HC.out d hd)
   generalize zaJ d body=qb at *
   generalize zaJ d els=ql at *
   clear P W HA HC hd ak hN HT
   cases qm with
   | false =>
    simp only[Bool.not_false] at ad;have u:Hid (g=false):=zh (by simpa using m.out);clear m;go_wp2_with (first|(go_at_call 21;refine(E.out _).mono ?_;rintro U w4⟨rfl,j⟩;have f:=zh (f.out.trans (j.mono f.out.size));have l:=zh (l.out.below j (zr _));clear j A F H G C D;obtain⟨A,F,H,G,C,D⟩:=yc6 l.out)|(go_at_call 93;refine(HK.out _).mono ?_;rintro S w5⟨rfl,rfl⟩))
    go_ret
    exact⟨by first|rfl|exact retb (a:=false) u.out.symm,f.out⟩
   | true =>
    simp only[Bool.not_true] at ad
    cases qn with
    | false =>
     try obtain⟨hs,aW⟩:=Hs.out.1 rfl
     have u:Hid (g=false):=zh (by simpa using m.out);clear m;go_wp2_with (first|(go_at_call 21;refine(E.out _).mono ?_;rintro U w4⟨rfl,j⟩;have f:=zh (f.out.trans (j.mono f.out.size));have l:=zh (l.out.below j (zr _));clear j A F H G C D;obtain⟨A,F,H,G,C,D⟩:=yc6 l.out)|(go_at_call 93;refine(HK.out _).mono ?_;rintro S w5⟨rfl,rfl⟩))
     go_ret
     exact⟨by first|rfl|exact retb (a:=false) u.out.symm,f.out⟩
    | true =>
     try have hs:=Hs.out.2 rfl
     cases qc with
     | false =>
      try simp only[Bool.not_false] at ao
      have u:Hid (g=false):=zh (by simpa using m.out);clear m;go_wp2_with (first|(go_at_call 21;refine(E.out _).mono ?_;rintro U w4⟨rfl,j⟩;have f:=zh (f.out.trans (j.mono f.out.size));have l:=zh (l.out.below j (zr _));clear j A F H G C D;obtain⟨A,F,H,G,C,D⟩:=yc6 l.out)|(go_at_call 93;refine(HK.out _).mono ?_;rintro S w5⟨rfl,rfl⟩))
      go_ret
      exact⟨by first|rfl|exact retb (a:=false) u.out.symm,f.out⟩
     | true =>
      try simp only[Bool.not_true] at ao
      cases qp with
      | false =>
       by_cases aN:0<body.length
       all_goals
        first|have K:(body.length:Int)>0:=by omega|have K:¬(body.length:Int)>0:=by omega
        by_cases aF:0<els.length
       all_goals
        first|have M:(els.length:Int)>0:=by omega|have M:¬(els.length:Int)>0:=by omega
       all_goals first|exact absurd aj.out (by have:=aD.out;rw[decide_eq_false_iff_not];omega)|skip
       all_goals
        have u:Hid (g=false):=zh (by simpa using m.out);clear m;go_wp2_with (first|(go_at_call 21;refine(E.out _).mono ?_;rintro U w4⟨rfl,j⟩;have f:=zh (f.out.trans (j.mono f.out.size));have l:=zh (l.out.below j (zr _));clear j A F H G C D;obtain⟨A,F,H,G,C,D⟩:=yc6 l.out)|(go_at_call 93;refine(HK.out _).mono ?_;rintro S w5⟨rfl,rfl⟩))
        go_ret
        exact⟨by first|rfl|exact retb (a:=false) u.out.symm,f.out⟩
      | true =>
       by_cases aN:0<body.length
       all_goals
        first|have K:(body.length:Int)>0:=by omega|have K:¬(body.length:Int)>0:=by omega
        by_cases aF:0<els.length
       all_goals
        first|have M:(els.length:Int)>0:=by omega|have M:¬(els.length:Int)>0:=by omega
       all_goals first|exact absurd aj.out (by have:=aD.out;rw[yQ];omega)|skip
       all_goals
        have J:Hid (g=((qb&&ql)&&qe)):=zh (by rw[m.out];rfl);clear m;go_upto_region 13 with(first|(go_at_call 21;refine(E.out _).mono ?_;rintro U w4⟨rfl,j⟩;have f:=zh (f.out.trans (j.mono f.out.size));have l:=zh (l.out.below j (zr _));clear j A F H G C D;obtain⟨A,F,H,G,C,D⟩:=yc6 l.out)|(go_at_call 93;refine(HK.out _).mono ?_;rintro S w5⟨rfl,rfl⟩))
        go_wp2_with fail
        refine(av.out _ f.out).mono ?_;rintro e6 w6⟨rfl,am⟩;have T:=zh (f.out.trans (am.mono f.out.size));have au:=zh (l.out.below am (zr _));clear am A F H G C D;have C:=au.out.cell (i:=4) rfl
        cases qe with
        | false =>
         have u:Hid (g=false):=zh (by rw[J.out,Bool.and_false]);clear J;go_wp2_with fail
         go_ret
         exact⟨retb (a:=false) u.out.symm,T.out⟩
        | true =>
         go_wp2_with fail
         refine(aQ.out _ T.out).mono ?_;rintro e7 w7⟨rfl,ai⟩;have V:=zh (T.out.trans (ai.mono T.out.size));have D:=(au.out.below ai (zr _)).cell (i:=5) rfl;clear ai C
         cases qb with
         | false =>
          have u:Hid (g=false):=zh (by rw[J.out];rfl);clear J;go_wp2_with fail
          go_ret
          exact⟨retb (a:=false) u.out.symm,V.out⟩
         | true =>
          have u:Hid (g=ql):=zh (by rw[J.out,Bool.and_true,Bool.true_and]);clear J;go_wp2_with fail
          refine(aJ.out _ V.out).mono ?_;rintro e8 w8⟨rfl,aE⟩;have aK:=zh (V.out.trans (aE.mono V.out.size));clear aE;go_wp2_with fail
          go_ret;exact⟨retb (a:=ql) u.out.symm,aK.out⟩
 ·have m:Hid (g=false):=zh (by
   rcases Nat.eq_zero_or_pos N with h|h
   ·exact W.out h
   ·obtain⟨d,hd⟩:∃d,N=d+1:=⟨N-1,by omega⟩
    rw[P.out d hd,zk3 _ _ _ _ _ _ Y,Bool.false_and,Bool.and_false])
  have e1:(op==1)=false:=by rw[beq_eq_false_iff_ne];omega
  have e2:(op==2)=false:=by rw[beq_eq_false_iff_ne];omega
  have e3:(op==3)=false:=by rw[beq_eq_false_iff_ne];omega
  have U:(op==4)=false:=by rw[beq_eq_false_iff_ne];omega
  have S:(op==5)=false:=by rw[beq_eq_false_iff_ne];omega
  have m6:(op != 6)=true:=by rw[bne_iff_ne];omega
  have m7:(op != 7)=true:=by rw[bne_iff_ne];omega
  clear Y W P;go_enter Tryz.func87,Tryz.ntmps87
  go_upto_region 1 with(fail)
  rw[<-aA.out];go_upto_region 2 with(fail)
  refine zac (fun w'=>Below W1.heap.size W1 w') (by kernel_rfl) (by kernel_rfl) ((yR _ _).drew) ?_
  repeat
   try simp only[Act.put,zs1,zs3,zs2]
   apply stepsSeq.cons
   ·intro w' v;have z:=zh v;have aG:=Below.keep v A;simp only[Act.put,zs1,zs3,zs2];go_wp2_with ((fail))
    first|exact⟨rfl,z.out⟩|exact⟨rfl,z.out.trans (X.mono z.out.size)⟩
  try simp only[Act.put,zs1,zs3,zs2]
  refine stepsSeq.nil ?_;intro w' v;have f:=zh (Z.out.trans (v.mono Z.out.size));have l:=zh (an.out.below v (zr _));clear v A;obtain⟨A,F,H,G,C,D⟩:=yc6 l.out;have u:Hid (g=false):=zh (by simpa using m.out);clear m;go_wp2_with (first|(go_at_call 21;refine(E.out _).mono ?_;rintro U w4⟨rfl,j⟩;have f:=zh (f.out.trans (j.mono f.out.size));have l:=zh (l.out.below j (zr _));clear j A F H G C D;obtain⟨A,F,H,G,C,D⟩:=yc6 l.out)|(go_at_call 93;refine(HK.out _).mono ?_;rintro S w5⟨rfl,rfl⟩))
  go_ret;exact⟨by first|rfl|exact retb (a:=false) u.out.symm,f.out⟩
theorem zmH(d:Nat)(op n:Int)(name:List UInt8)(es:List Ex)(body els:List St)(y vb z:Value)(q:Bool)(j:Nat)(w:World)(v:∃a cap,y=.slice a es.length cap)(g:∃a cap,vb=.slice a body.length cap)(l:∃a cap,z=.slice a els.length cap)(u:OwnV w j 3 [.int .i64 d])
  (H:∀w',Below w.heap.size w w'->Calls Tryz.prog 87 #[.agg #[.int .u8 op,.int .i64 n,.string (bstr name),y,vb,z],.int .i64 d] w' (zbe q w')) :
  Calls Tryz.prog 86 #[.agg #[.int .u8 op,.int .i64 n,.string (bstr name),y,vb,z],.pointer (some ⟨j,0,none⟩)] w (zbe (!q) w):=by
 obtain⟨I,D,rfl⟩:=v;obtain⟨C,B,rfl⟩:=g;obtain⟨al,A,rfl⟩:=l;have F:=zh H;have G:=u.lt;have J:=u.cell (i:=0) rfl;have E:¬j=w.heap.size:=by omega
 clear H u;go_enter Tryz.func86,Tryz.ntmps86
 go_wp2_with fail
 refine(F.out _ ((yR _ _).alloc (zr _) _)).mono ?_;rintro K L⟨rfl,f⟩;have m:=zh (((yR w.heap.size w).alloc (zr _) (.cells #[.int .u8 op,.int .i64 n,.string (bstr name),.slice I es.length D,.slice C body.length B,.slice al els.length A] 56)).trans (f.mono (by simp)));clear f;go_wp2_with fail
 go_ret;exact⟨rfl,m.out⟩
theorem ziz(N:Nat)(W:N<=41)(K:∀d,N=d+1->∀(l:List St) (v:Value) (w:World) (B:Nat),okSs l->SsL w B l v->B<=w.heap.size->Calls Tryz.prog 57 #[v,.int .i64 d] w (zbe (zaJ d l) w))
  (l:List St) (v:Value) (w:World) (B:Nat) (C:okSs l) (I:SsL w B l v) (H:B<=w.heap.size) :
  Calls Tryz.prog 57 #[v,.int .i64 N] w (zbe (zaJ N l) w):=by
 obtain⟨a,cap,rfl,T,U⟩:=I.form;obtain⟨W1,G,D,m⟩:∃W1,W1=w.alloc (.cells #[.int .i64 N] 3)/\OwnV W1 w.heap.size 3 [.int .i64 N]/\Below w.heap.size w W1:=⟨_,rfl,OwnV.new _ _ _,(yR _ _).alloc (zr _) _⟩
 have O:Hid (Calls Tryz.prog 85 #[.slice a l.length cap,.func (.func 86) #[] #[.pointer (some ⟨w.heap.size,0,none⟩)]] W1 (zbe (l.any fun x=>!ziy N x) W1)):=zh (by
  refine zkx l _ (fun x=>!ziy N x) _ W1 B (I.low (m.mono H)) (yT H m.size) ?_;intro k op n name es body els Y vb vc Q J F S A z;obtain⟨ae,ce,rfl,_,_⟩:=S.form;obtain⟨ab,Z,rfl,_,_⟩:=A.form;obtain⟨al,X,rfl,_,_⟩:=z.form;have j:=znr C J;have g:B<=Q.heap.size:=yT H (yT m.size F.size);refine zmH N op n name es body els _ _ _ _ _ Q ⟨_,_,rfl⟩ ⟨_,_,rfl⟩ ⟨_,_,rfl⟩ (D.below F (zr _)) ?_;intro R f;have i:B<=R.heap.size:=yT g f.size;refine zjh N W op n name es body els _ _ _ R B j (S.low (f.mono g)) (A.low (f.mono g)) (z.low (f.mono g)) i ?_ ?_
  ·intro d L M u;exact K d L body _ M B j.2.2.2.2.1 (A.low ((f.mono g).trans (u.mono i))) (yT i u.size)
  ·intro d L M u
   exact K d L els _ M B j.2.2.2.2.2 (z.low ((f.mono g).trans (u.mono i))) (yT i u.size))
 have y:(l.any fun x=>!ziy N x) = !zaJ N l:=by rw[zlK,List.all_eq_not_any_not,Bool.not_not]
 rw[y] at O
 generalize zaJ N l=q at *
 have E:=zh m;clear I C D m y K;go_enter Tryz.func57,Tryz.ntmps57
 go_upto_region 1 with(fail)
 rw[<-G];clear G;go_wp2_with fail
 refine O.out.mono ?_;rintro e1 w1⟨rfl,P⟩;have V:=zh (E.out.trans (P.mono E.out.size));clear P;go_wp2_with fail
 go_ret;exact⟨by first|rfl|exact retb (Bool.not_not _),V.out⟩
theorem znq:∀ (d:Nat),d<=41->∀ (l:List St) (v:Value) (w:World) (B:Nat),okSs l->SsL w B l v->B<=w.heap.size->Calls Tryz.prog 57 #[v,.int .i64 d] w (zbe (zaJ d l) w):=by
  intro d
  induction d with
  | zero=>intro _ l v w B f i g;exact ziz 0 (by omega) (fun d h=>by omega) l v w B f i g
  | succ d ih =>
    intro j l v w B f i g
    exact ziz (d + 1) j (fun e h => by obtain rfl : d = e := by omega
                                       exact ih (by omega)) l v w B f i g
theorem zem(l:List St)(v:Value)(w:World)(B:Nat)(d:okSs l)(f:SsL w B l v)(m:B<=w.heap.size) :
  Calls Tryz.prog 30 #[v] w (zbe (zaJ 40 l) w):=by
 have H:Hid (Calls Tryz.prog 57 #[v,.int .i64 40] w _):=zh (znq 40 (by omega) l v w B d f m);obtain⟨a,cap,rfl,g,j⟩:=f.form
 generalize zaJ 40 l=q at *
 clear f d;go_enter Tryz.func30,Tryz.ntmps30
 go_wp2_with fail
 refine H.out.mono ?_;rintro y z⟨rfl,i⟩;have u:=zh i;clear i;go_wp2_with fail
 go_ret;exact⟨rfl,u.out⟩
end Go.Proofs.YtoaojdobjinhfaaGreatDoor
