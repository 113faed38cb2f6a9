/- What awake meets: reckoned by the kernel. Printed by gen_pawake.py. -/
import Derived.Test.YtoaojdobjinhfaaGreatDoorPParsePz
import Derived.Test.YtoaojdobjinhfaaGreatDoorPrGPz
set_option linter.unusedSimpArgs false
set_option linter.unusedVariables false
set_option maxRecDepth 100000
set_option maxHeartbeats 8000000
namespace Go.Proofs.YtoaojdobjinhfaaGreatDoor
open Go.RowKit

def exA : List Ex := [.mk 14 0 [] [.mk 2 0 [97] [], .mk 10 0 [] [.mk 2 0 [98] [], .mk 7 0 [] [.mk 1 2 [] []]]], .mk 1 3 [] []]
def exS : Ex := .mk 15 0 [] exA
def eyA : List Ex := [.mk 14 0 [] [.mk 2 0 [97] [], .mk 2 0 [98] []], .mk 14 0 [] [.mk 2 0 [99] [], .mk 2 0 [100] []]]
def eyS : Ex := .mk 14 0 [] eyA
def awL : List St := [.mk 4 0 [] [.mk 2 0 [120] []] [] [.mk 4 0 [] [.mk 2 0 [121] []] [.mk 6 0 [] [] [] []] []]]
theorem aw_p0:zbT [97,32,45,32,98,32,42,32,45,50,32,60,32,51]=.ok exS:=by kernel_rfl
theorem aw_w0:zab exS=[97,32,45,32,98,32,42,32,45,50,32,60,32,51]:=by
 unfold exS exA;simp only[zcq,zcr,zcs,zb0 (op:=15) (by decide) (by decide),zb0 (op:=14) (by decide) (by decide),zb0 (op:=10) (by decide) (by decide)];kernel_rfl
theorem aw_f0:zbd 40 exS=true:=by kernel_rfl
theorem aw_t0:zbK exS=([97,32,45,32,98,32,42,32,45,50,32,60,32,51],0):=by unfold zbK;rw[aw_f0,yP rfl,aw_w0];rfl
theorem aw_p1:zbT [40,97,32,45,32,98,41,32,45,32,40,99,32,45,32,100,41]=.ok eyS:=by kernel_rfl
theorem aw_w1:zab eyS=[97,32,45,32,98,32,45,32,40,99,32,45,32,100,41]:=by
 unfold eyS eyA;simp only[zcq,zcr,zcs,zb0 (op:=14) (by decide) (by decide)];kernel_rfl
theorem aw_f1:zbd 40 eyS=true:=by kernel_rfl
theorem aw_t1:zbK eyS=([97,32,45,32,98,32,45,32,40,99,32,45,32,100,41],0):=by unfold zbK;rw[aw_f1,yP rfl,aw_w1];rfl
theorem aw_p2:zbg [108,101,116,32,105,102,32,61,32,49,59]=.err 1 5 120:=by kernel_rfl
theorem aw_p3:zbg [105,102,32,40,120,41,32,123,32,125,32,101,108,115,101,32,105,102,32,40,121,41,32,123,32,115,116,111,112,59,32,125]=.ok awL:=by kernel_rfl
theorem aw_t3:zhE awL=([105,102,32,40,120,41,32,123,10,125,32,101,108,115,101,32,105,102,32,40,121,41,32,123,10,9,115,116,111,112,59,10,125,10],0):=by kernel_rfl
theorem aw_r3:zaJ 40 awL=true:=by kernel_rfl
theorem aw_p4:zbg [120,32,61,32,49]=.err 1 6 120:=by kernel_rfl
theorem aw_n0:zaP [120]=true:=by kernel_rfl
theorem aw_n1:zaP [105,102]=false:=by kernel_rfl
theorem aw_k:zap [118,101,108]=2:=by kernel_rfl
theorem aw_ok0:okE exS:=by simp[exS,exA,okE,okEs,okI]
theorem aw_ok1:okE eyS:=by simp[eyS,eyA,okE,okEs,okI]
theorem zkZ:okSs awL:=by simp[awL,okS,okSs,okE,okEs,okI]
theorem aw_sz:szSs awL<=1000:=by decide
theorem zhH{w:World}{P:Nat->Prop}{op n:Int}{name:List UInt8}{args:List Ex}{i f d v:Value}(h:ExsC w P [.mk op n name args] [i,f,d,v]):EsL w w.heap.size args v:=by
 cases h with
 | cons h1 h2 h3 h4=>exact⟨_,h1,zgw (by omega) h1 (fun g hg _=>hg) h2,h3.weak fun g hg _=>hg⟩
theorem zeM{w:World}{m:Nat}{xs:List St}{v:Value}(h:∃cs,w.ownsRow m 56 6 v xs.length cs/\StsC w (fun g=>m<=g) xs cs):SsL w w.heap.size xs v:=by
 obtain⟨cs,d,f⟩:=h;exact⟨cs,Sl.of_own d,.inr fun g e=>(d.lt g e).2,f.weak fun g hg _=>hg⟩
theorem zjN{w:World}{op n:Int}{name:List UInt8}{args xs:List Ex}{g k:Nat}{cs d:List Value}(f:OwnV w g 29 cs)(l:args.length=k)(j:k<=1000)(i:ExsC w (fun b=>b<w.heap.size) args cs)(m:ExsC w (fun b=>b<w.heap.size) xs d) :
  ExsC w (fun b=>b<w.heap.size) (.mk op n name args::xs) (.int .u8 op :: .int .i64 n :: .string (bstr name) :: .slice (some ⟨g,0,none⟩) k k::d):=by
 subst l;exact .cons (zcw f i.len (zr _) (by omega)) (.inr fun b e=>by cases e;exact f.lt) i m
theorem zfX{w:World}{P:Nat->Prop}{op n:Int}{name:List UInt8}{xs:List Ex}{d:List Value}(f:ExsC w P xs d):ExsC w P (.mk op n name []::xs) (.int .u8 op :: .int .i64 n :: .string (bstr name) :: .slice none 0 0::d):=.cons (Sl.nil w 4) (.inl rfl) .nil f
theorem zl3(w:World):∃W,W=((((((((((w.alloc (.cells #[.int .u8 15,.int .i64 0,.string { data:=#[] },.slice (some ⟨w.heap.size+1+1+1+1+1+1+1+1+1,0,none⟩) 2 2] 29)).alloc (.cells #[.int .u8 2,.int .i64 0,.string { data:=#[97] },.slice none 0 0] 29)).alloc (.cells #[.int .u8 2,.int .i64 0,.string { data:=#[98] },.slice none 0 0] 29)).alloc (.cells #[.int .u8 1,.int .i64 2,.string { data:=#[] },.slice none 0 0] 29)).alloc (.cells #[.int .u8 1,.int .i64 3,.string { data:=#[] },.slice none 0 0] 29)).alloc (.cells #[.int .u8 1,.int .i64 2,.string { data:=#[] },.slice none 0 0] 29)).alloc (.cells #[.int .u8 2,.int .i64 0,.string { data:=#[98] },.slice none 0 0,.int .u8 7,.int .i64 0,.string { data:=#[] },.slice (some ⟨w.heap.size+1+1+1+1+1,0,none⟩) 1 1] 29)).alloc (.cells #[.int .u8 10,.int .i64 0,.string { data:=#[] },.slice (some ⟨w.heap.size+1+1+1+1+1+1,0,none⟩) 2 2] 29)).alloc (.cells #[.int .u8 2,.int .i64 0,.string { data:=#[97] },.slice none 0 0,.int .u8 10,.int .i64 0,.string { data:=#[] },.slice (some ⟨w.heap.size+1+1+1+1+1+1,0,none⟩) 2 2] 29)).alloc (.cells #[.int .u8 14,.int .i64 0,.string { data:=#[] },.slice (some ⟨w.heap.size+1+1+1+1+1+1+1+1,0,none⟩) 2 2,.int .u8 1,.int .i64 3,.string { data:=#[] },.slice none 0 0] 29))/\Below w.heap.size w W/\OwnV W (w.heap.size) 29 [.int .u8 15,.int .i64 0,.string { data:=#[] },.slice (some ⟨w.heap.size+1+1+1+1+1+1+1+1+1,0,none⟩) 2 2]/\OwnV W (w.heap.size+1+1+1+1+1) 29 [.int .u8 1,.int .i64 2,.string { data:=#[] },.slice none 0 0]/\OwnV W (w.heap.size+1+1+1+1+1+1) 29 [.int .u8 2,.int .i64 0,.string { data:=#[98] },.slice none 0 0,.int .u8 7,.int .i64 0,.string { data:=#[] },.slice (some ⟨w.heap.size+1+1+1+1+1,0,none⟩) 1 1]/\OwnV W (w.heap.size+1+1+1+1+1+1+1+1) 29 [.int .u8 2,.int .i64 0,.string { data:=#[97] },.slice none 0 0,.int .u8 10,.int .i64 0,.string { data:=#[] },.slice (some ⟨w.heap.size+1+1+1+1+1+1,0,none⟩) 2 2]/\OwnV W (w.heap.size+1+1+1+1+1+1+1+1+1) 29 [.int .u8 14,.int .i64 0,.string { data:=#[] },.slice (some ⟨w.heap.size+1+1+1+1+1+1+1+1,0,none⟩) 2 2,.int .u8 1,.int .i64 3,.string { data:=#[] },.slice none 0 0]:=⟨_,rfl,(((((((((((yR _ _).alloc (by simp) _).alloc (by simp) _).alloc (by simp;try omega) _).alloc (by simp;try omega) _).alloc (by simp;try omega) _).alloc (by simp;try omega) _).alloc (by simp;try omega) _).alloc (by simp;try omega) _).alloc (by simp;try omega) _).alloc (by simp;try omega) _),((((((((((za6 _ _ _ (by simp)).alloc _).alloc _).alloc _).alloc _).alloc _).alloc _).alloc _).alloc _).alloc _),(((((za6 _ _ _ (by simp)).alloc _).alloc _).alloc _).alloc _),((((za6 _ _ _ (by simp)).alloc _).alloc _).alloc _),((za6 _ _ _ (by simp)).alloc _),(za6 _ _ _ (by simp))⟩
theorem zfl(w:World):Calls Tryz.prog 40 #[] w fun e w'=>e=.returned (.agg #[.int .u8 15,.int .i64 0,.string { data:=#[] },.slice (some ⟨w.heap.size+1+1+1+1+1+1+1+1+1,0,none⟩) 2 2])/\EsL w' w'.heap.size exA (.slice (some ⟨w.heap.size+1+1+1+1+1+1+1+1+1,0,none⟩) 2 2)/\Below w.heap.size w w':=by
 obtain⟨W,u,q,m,i,f,l,d⟩:=zl3 w;have C:=zh u;have E:=zh q;obtain⟨z,D,A,B⟩:=yc4 m
 have j:EsL W W.heap.size exA (.slice (some ⟨w.heap.size+1+1+1+1+1+1+1+1+1,0,none⟩) 2 2):=by
  refine⟨_,zcw d (n:=2) rfl (zr _) (by decide),.inr fun g e=>by cases e;exact d.lt,?_⟩;exact zjN (name:=[]) l rfl (by decide) (zfX (name:=[97]) (zjN (name:=[]) f rfl (by decide) (zfX (name:=[98]) (zjN (name:=[]) i rfl (by decide) (zfX (name:=[]) .nil) .nil)) .nil)) (zfX (name:=[]) .nil)
 have y:=zh j;clear u q m i f l d j;go_enter Tryz.func40,Tryz.ntmps40
 go_wp2;rw[<-C.out];exact yE (v:=.agg #[.int .u8 15,.int .i64 0,.string { data:=#[] },.slice (some ⟨w.heap.size+1+1+1+1+1+1+1+1+1,0,none⟩) 2 2]) (by simp[results,Tryz.results40,go_sem,z,D,A,B]) rfl ⟨rfl,y.out,E.out⟩
theorem SsL.mono'{w:World}{B B':Nat}{xs:List St}{v:Value}(h:SsL w B xs v)(d:B<=B'):SsL w B' xs v:=SsL.mono h d
theorem px0{w:World}(i:Glob w):Calls Tryz.prog 34 #[.string { data:=#[97,32,45,32,98,32,42,32,45,50,32,60,32,51] }] w fun e w'=>(∃a cap,e=.returned (.tuple #[.agg #[.int .u8 15,.int .i64 0,.string { data:=#[] },.slice a 2 cap],.int .i64 0,.int .i64 0,.int .i64 0])/\EsL w' w'.heap.size exA (.slice a 2 cap))/\Below w.heap.size w w':=by
 have h:=zew i (bstr [97,32,45,32,98,32,42,32,45,50,32,60,32,51]) (by rw[zaC];decide);rw[show(bstr [97,32,45,32,98,32,42,32,45,50,32,60,32,51]).data.toList=[97,32,45,32,98,32,42,32,45,50,32,60,32,51] from rfl,aw_p0] at h;refine h.mono ?_;rintro e w'⟨⟨v,rfl,cs,rfl,d⟩,f⟩;obtain⟨g,cap,rfl⟩:=d.form1;exact⟨⟨g,cap,rfl,zhH d⟩,f⟩
theorem px1{w:World}(i:Glob w):Calls Tryz.prog 34 #[.string { data:=#[40,97,32,45,32,98,41,32,45,32,40,99,32,45,32,100,41] }] w fun e w'=>(∃a cap,e=.returned (.tuple #[.agg #[.int .u8 14,.int .i64 0,.string { data:=#[] },.slice a 2 cap],.int .i64 0,.int .i64 0,.int .i64 0])/\EsL w' w'.heap.size eyA (.slice a 2 cap))/\Below w.heap.size w w':=by
 have h:=zew i (bstr [40,97,32,45,32,98,41,32,45,32,40,99,32,45,32,100,41]) (by rw[zaC];decide);rw[show(bstr [40,97,32,45,32,98,41,32,45,32,40,99,32,45,32,100,41]).data.toList=[40,97,32,45,32,98,41,32,45,32,40,99,32,45,32,100,41] from rfl,aw_p1] at h;refine h.mono ?_;rintro e w'⟨⟨v,rfl,cs,rfl,d⟩,f⟩;obtain⟨g,cap,rfl⟩:=d.form1;exact⟨⟨g,cap,rfl,zhH d⟩,f⟩
theorem pp2{w:World}(d:Glob w):Calls Tryz.prog 31 #[.string { data:=#[108,101,116,32,105,102,32,61,32,49,59] }] w fun e w'=>e=.returned (.tuple #[.slice none 0 0,.int .i64 1,.int .i64 5,.int .i64 120])/\Below w.heap.size w w':=by
 have h:=zbP d (bstr [108,101,116,32,105,102,32,61,32,49,59]) (by rw[zaC];decide);rw[show(bstr [108,101,116,32,105,102,32,61,32,49,59]).data.toList=[108,101,116,32,105,102,32,61,32,49,59] from rfl,aw_p2] at h;exact h.mono fun e w' he=>⟨he.1.1,he.2⟩
theorem pp4{w:World}(d:Glob w):Calls Tryz.prog 31 #[.string { data:=#[120,32,61,32,49] }] w fun e w'=>e=.returned (.tuple #[.slice none 0 0,.int .i64 1,.int .i64 6,.int .i64 120])/\Below w.heap.size w w':=by
 have h:=zbP d (bstr [120,32,61,32,49]) (by rw[zaC];decide);rw[show(bstr [120,32,61,32,49]).data.toList=[120,32,61,32,49] from rfl,aw_p4] at h;exact h.mono fun e w' he=>⟨he.1.1,he.2⟩
theorem pp3{w:World}(f:Glob w):Calls Tryz.prog 31 #[.string { data:=#[105,102,32,40,120,41,32,123,32,125,32,101,108,115,101,32,105,102,32,40,121,41,32,123,32,115,116,111,112,59,32,125] }] w fun e w'=>(∃a cap,e=.returned (.tuple #[.slice a 1 cap,.int .i64 0,.int .i64 0,.int .i64 0])/\SsL w' w'.heap.size awL (.slice a 1 cap))/\Below w.heap.size w w':=by
 have h:=zbP f (bstr [105,102,32,40,120,41,32,123,32,125,32,101,108,115,101,32,105,102,32,40,121,41,32,123,32,115,116,111,112,59,32,125]) (by rw[zaC];decide);rw[show(bstr [105,102,32,40,120,41,32,123,32,125,32,101,108,115,101,32,105,102,32,40,121,41,32,123,32,115,116,111,112,59,32,125]).data.toList=[105,102,32,40,120,41,32,123,32,125,32,101,108,115,101,32,105,102,32,40,121,41,32,123,32,115,116,111,112,59,32,125] from rfl,aw_p3] at h;refine h.mono ?_;rintro e w'⟨⟨v,rfl,g⟩,d⟩;have hS:=zeM g;obtain⟨a,cap,rfl,-,-⟩:=hS.form;exact⟨⟨a,cap,rfl,hS⟩,d⟩
theorem tx0{w:World}{B:Nat}{a:Option Addr}{cap:Nat}(f:Glob w)(g:EsL w B exA (.slice a 2 cap))(d:B<=w.heap.size):Calls Tryz.prog 33 #[.agg #[.int .u8 15,.int .i64 0,.string { data:=#[] },.slice a 2 cap]] w fun e w'=>e=.returned (.tuple #[.string { data:=#[97,32,45,32,98,32,42,32,45,50,32,60,32,51] },.int .i64 0])/\Below w.heap.size w w':=by
 have h:=zdO (op:=15) (n:=0) (name:=[]) f aw_ok0 g d;rw[show Ex.mk 15 0 [] exA=exS from rfl,aw_t0] at h;exact h
theorem tx1{w:World}{B:Nat}{a:Option Addr}{cap:Nat}(f:Glob w)(g:EsL w B eyA (.slice a 2 cap))(d:B<=w.heap.size):Calls Tryz.prog 33 #[.agg #[.int .u8 14,.int .i64 0,.string { data:=#[] },.slice a 2 cap]] w fun e w'=>e=.returned (.tuple #[.string { data:=#[97,32,45,32,98,32,45,32,40,99,32,45,32,100,41] },.int .i64 0])/\Below w.heap.size w w':=by
 have h:=zdO (op:=14) (n:=0) (name:=[]) f aw_ok1 g d;rw[show Ex.mk 14 0 [] eyA=eyS from rfl,aw_t1] at h;exact h
theorem tt3{w:World}{B:Nat}{v:Value}(f:Glob w)(g:SsL w B awL v)(d:B<=w.heap.size):Calls Tryz.prog 29 #[v] w fun e w'=>e=.returned (.tuple #[.string { data:=#[105,102,32,40,120,41,32,123,10,125,32,101,108,115,101,32,105,102,32,40,121,41,32,123,10,9,115,116,111,112,59,10,125,10] },.int .i64 0])/\Below w.heap.size w w':=by
 have h:=zmF f zkZ g d (by have:=aw_sz;omega);rw[aw_t3] at h;exact h
theorem pr3{w:World}{B:Nat}{v:Value}(f:SsL w B awL v)(d:B<=w.heap.size):Calls Tryz.prog 30 #[v] w fun e w'=>e=.returned (.bool true)/\Below w.heap.size w w':=by
 have h:=zem awL v w B zkZ f d;rw[aw_r3] at h;exact h
theorem nm0(w:World):Calls Tryz.prog 21 #[.string { data:=#[120] }] w fun e w'=>e=.returned (.bool true)/\Below w.heap.size w w':=by
 have h:=zdr [120] w;rw[aw_n0] at h;exact h
theorem nm1(w:World):Calls Tryz.prog 21 #[.string { data:=#[105,102] }] w fun e w'=>e=.returned (.bool false)/\Below w.heap.size w w':=by
 have h:=zdr [105,102] w;rw[aw_n1] at h;exact h
theorem kd0(w:World):Calls Tryz.prog 23 #[.string { data:=#[118,101,108] }] w fun e w'=>e=.returned (.int .u8 2)/\Below w.heap.size w w':=by
 have h:=za5 [118,101,108] w;rw[aw_k] at h;exact h
theorem se0{w:World}{B:Nat}{a b:Option Addr}{d g:Nat}(i:EsL w B exA (.slice a 2 d))(hM:EsL w B exA (.slice b 2 g))(f:B<=w.heap.size):Calls Tryz.prog 35 #[.agg #[.int .u8 15,.int .i64 0,.string { data:=#[] },.slice a 2 d],.agg #[.int .u8 15,.int .i64 0,.string { data:=#[] },.slice b 2 g]] w (YesE w):=
 zeT 15 0 [] exA _ _ w ⟨a,d,rfl⟩ ⟨b,g,rfl⟩ (fun w' hb=>zes (szEs exA+1) exA _ _ w' B (by omega) (i.low (hb.mono f)) (hM.low (hb.mono f)) (yT f hb.size))
theorem zfY{w:World}(hG:Glob w):Calls Tryz.prog 15 #[] w (YesE w):=by
 have a3:=hG.size;have Z:Hid (∀W,Below w.heap.size w W->Glob W):=zh (fun W U=>hG.below U a3);have aA:=zh (px0 hG);clear hG;go_enter Tryz.func15,Tryz.ntmps15
 go_wp2_with fail
 go_at_call 34;refine aA.out.mono ?_;rintro e1 w1⟨⟨aO,ag,rfl,aJ⟩,X⟩;have aF:=X.size;obtain⟨W1,aM,z,aH⟩:∃W1,W1=w1.alloc (.cells #[.int .u8 15,.int .i64 0,.string { data:=#[] },.slice aO 2 ag] 29)/\Below w1.heap.size w1 W1/\OwnV W1 w1.heap.size 29 [.int .u8 15,.int .i64 0,.string { data:=#[] },.slice aO 2 ag]:=⟨_,rfl,(yR _ _).alloc (zr _) _,OwnV.new _ _ _⟩;have ax:=z.size;have aK:=zh (X.trans (z.mono aF));have aC:=zh (aJ.low z);have aQ:=zh aH;have a4:=zh aM;have M:=zh (zfl W1);clear aJ X aM z aH aA;go_upto_region 2 with(fail)
 rw[<-a4.out];go_wp2_with fail
 go_at_call 40;refine M.out.mono ?_;rintro e2 w2⟨rfl,ar,H⟩;have aR:=H.size;have Q:=zh (aK.out.trans (H.mono (by omega)));have an:=zh (aQ.out.below H (zr _));have aq:=zh (aC.out.low (H.mono (by omega)));have F:=zh (tx0 (Z.out _ Q.out) ar (zr _));clear ar H M aQ aC aK;go_wp2_with fail
 go_at_call 33;refine F.out.mono ?_;rintro e3 w3⟨rfl,K⟩;have a5:=K.size;have aa:=zh (Q.out.trans (K.mono (by omega)));have aN:=zh (an.out.below K (zr _));have ap:=zh (aq.out.low (K.mono (by omega)));have ab:=zh (px1 (Z.out _ aa.out));clear K F an aq Q;go_wp2_with fail
 go_at_call 34;refine ab.out.mono ?_;rintro e4 u⟨⟨aP,ak,rfl,L⟩,i⟩;have aG:=i.size;obtain⟨W4,ay,A,am⟩:∃W4,W4=u.alloc (.cells #[.int .u8 14,.int .i64 0,.string { data:=#[] },.slice aP 2 ak] 29)/\Below u.heap.size u W4/\OwnV W4 u.heap.size 29 [.int .u8 14,.int .i64 0,.string { data:=#[] },.slice aP 2 ak]:=⟨_,rfl,(yR _ _).alloc (zr _) _,OwnV.new _ _ _⟩;have P:=A.size;have y:=i.trans (A.mono aG);have j:=zh (aa.out.trans (y.mono (by omega)));have ac:=zh (aN.out.below y (zr _));have N:=zh (ap.out.low (y.mono (by omega)));have F:=zh (tx1 (Z.out _ j.out) (L.low A) P);obtain⟨y0,y1,y2,y3⟩:=yc4 am;have aV:=zh ay;clear L i ay A am y ab aN ap aa;go_upto_region 4 with(fail)
 rw[<-aV.out];go_wp2_with fail
 go_at_call 33;refine F.out.mono ?_;rintro e5 w5⟨rfl,J⟩;have aX:=J.size;have S:=zh (j.out.trans (J.mono (by omega)));have ao:=zh (ac.out.below J (zr _));have ai:=zh (N.out.low (J.mono (by omega)));have D:=zh (pp2 (Z.out _ S.out));clear J F ac N j y0 y1 y2 y3;go_wp2_with fail
 go_at_call 31;refine D.out.mono ?_;rintro e6 w6⟨rfl,I⟩;have aU:=I.size;have R:=zh (S.out.trans (I.mono (by omega)));have az:=zh (ao.out.below I (zr _));have av:=zh (ai.out.low (I.mono (by omega)));have D:=zh (pp3 (Z.out _ R.out));clear I ao ai S;go_wp2_with fail
 go_at_call 31;refine D.out.mono ?_;rintro e7 w7⟨⟨ba,bc,rfl,V⟩,G⟩;have aZ:=G.size;have T:=zh (R.out.trans (G.mono (by omega)));have aw:=zh (az.out.below G (zr _));have aL:=zh (av.out.low (G.mono (by omega)));have aI:=zh V;have aD:=zh (tt3 (Z.out _ T.out) V (zr _));clear G V az av R;go_wp2_with fail
 go_at_call 29;refine aD.out.mono ?_;rintro e8 w8⟨rfl,E⟩;have aT:=E.size;have Y:=zh (T.out.trans (E.mono (by omega)));have ah:=zh (aw.out.below E (zr _));have ae:=zh (aL.out.low (E.mono (by omega)));have aE:=zh (aI.out.low E);have D:=zh (pp4 (Z.out _ Y.out));clear E aD aw aL T aI;go_wp2_with fail
 go_at_call 31;refine D.out.mono ?_;rintro e9 w9⟨rfl,C⟩;have a7:=C.size;have au:=zh (Y.out.trans (C.mono (by omega)));have af:=ah.out.below C (zr _);have ad:=zh (ae.out.low (C.mono (by omega)));have aj:=zh (aE.out.low (C.mono (by omega)));have M:=zh (zfl w9.drew);obtain⟨x0,x1,x2,x3⟩:=yc4 af;have aW:Hid (∀W B g,Below w9.heap.size w9 W->B<=W.heap.size->EsL W B exA (.slice (some ⟨g,0,none⟩) 2 2)->_):=zh (fun W B g (U:Below w9.heap.size w9 W) (q:B<=W.heap.size) (hM:EsL W B exA (.slice (some ⟨g,0,none⟩) 2 2))=>se0 (B:=W.heap.size) ((ad.out.low (U.mono (by omega))).mono (by have:=U.size;omega)) (hM.mono q) (zr _));have a2:Hid (∀W,Below w9.heap.size w9 W->_):=zh (fun W (U:Below w9.heap.size w9 W)=>pr3 (B:=W.heap.size) ((aj.out.low (U.mono (by omega))).mono' (by have:=U.size;omega)) (zr _));have a6:=zh nm0;have a0:=zh nm1;have aY:=zh kd0;clear C ah ae Y aE af D P aF aR a5 aG aX aU aZ aT a7 ax ad aj;go_upto_region 9 with(fail)
 simp only[List.append_eq,List.cons_append,List.nil_append];refine zc7 65 [0,0,0,0,0,0,0,0,0,0,0,0,0,0,3,4,4,4,4,4,4,4,4,4,4,4,4,4,4,4,4,4,4,4,4,4,4,4,4,4,4,4,4,4,4,4,4,4,4,4,4,4,4,4,4,4,4,4,4,4,4,4,4,4,4] (fun b w'=>Below w9.heap.size w9 w'/\(b=false->w'=w9.drew)/\(b=true->∃B,B<=w'.heap.size/\EsL w' B exA (.slice (some ⟨w9.drew.heap.size+1+1+1+1+1+1+1+1+1,0,none⟩) 2 2))) (by kernel_rfl) (by kernel_rfl) ⟨(yR _ _).drew,fun _=>rfl,fun h=>by cases h⟩ ?_;simp only[List.take_succ_cons,List.take_zero,List.drop_succ_cons,List.drop_zero];try simp only[Act.put,zs1,zs3,zs2]
 apply stepsSeq2.val
 ·rintro b w' f;have d:=zh f;clear f;try simp only[Act.put,zs1,zs3,zs2]
  go_wp2;exact⟨rfl,d.out⟩
 try simp only[Act.put,zs1,zs3,zs2]
 apply stepsSeq2.val
 ·rintro b w' f;have d:=zh f;clear f;try simp only[Act.put,zs1,zs3,zs2]
  go_wp2;exact⟨rfl,d.out⟩
 try simp only[Act.put,zs1,zs3,zs2]
 apply stepsSeq2.val
 ·rintro b w' f;have d:=zh f;clear f;try simp only[Act.put,zs1,zs3,zs2]
  go_wp2;exact⟨rfl,d.out⟩
 try simp only[Act.put,zs1,zs3,zs2]
 apply stepsSeq2.val
 ·rintro b w' f;have d:=zh f;clear f;try simp only[Act.put,zs1,zs3,zs2]
  go_wp2;exact⟨rfl,d.out⟩
 try simp only[Act.put,zs1,zs3,zs2]
 apply stepsSeq2.val
 ·rintro b w' f;have d:=zh f;clear f;try simp only[Act.put,zs1,zs3,zs2]
  go_wp2;exact⟨rfl,d.out⟩
 try simp only[Act.put,zs1,zs3,zs2]
 apply stepsSeq2.val
 ·rintro b w' f;have d:=zh f;clear f;try simp only[Act.put,zs1,zs3,zs2]
  go_wp2;exact⟨rfl,d.out⟩
 try simp only[Act.put,zs1,zs3,zs2]
 apply stepsSeq2.val
 ·rintro b w' f;have d:=zh f;clear f;try simp only[Act.put,zs1,zs3,zs2]
  go_wp2;exact⟨rfl,d.out⟩
 try simp only[Act.put,zs1,zs3,zs2]
 apply stepsSeq2.val
 ·rintro b w' f;have d:=zh f;clear f;try simp only[Act.put,zs1,zs3,zs2]
  go_wp2;exact⟨rfl,d.out⟩
 try simp only[Act.put,zs1,zs3,zs2]
 apply stepsSeq2.val
 ·rintro b w' f;have d:=zh f;clear f;try simp only[Act.put,zs1,zs3,zs2]
  go_wp2;exact⟨rfl,d.out⟩
 try simp only[Act.put,zs1,zs3,zs2]
 apply stepsSeq2.val
 ·rintro b w' f;have d:=zh f;clear f;try simp only[Act.put,zs1,zs3,zs2]
  go_wp2;exact⟨rfl,d.out⟩
 try simp only[Act.put,zs1,zs3,zs2]
 apply stepsSeq2.val
 ·rintro b w' f;have d:=zh f;clear f;try simp only[Act.put,zs1,zs3,zs2]
  go_wp2;exact⟨rfl,d.out⟩
 try simp only[Act.put,zs1,zs3,zs2]
 apply stepsSeq2.val
 ·rintro b w' f;have d:=zh f;clear f;try simp only[Act.put,zs1,zs3,zs2]
  go_wp2;exact⟨rfl,d.out⟩
 try simp only[Act.put,zs1,zs3,zs2]
 apply stepsSeq2.val
 ·rintro b w' f;have d:=zh f;clear f;try simp only[Act.put,zs1,zs3,zs2]
  go_wp2;exact⟨rfl,d.out⟩
 try simp only[Act.put,zs1,zs3,zs2]
 apply stepsSeq2.val
 ·rintro b w' f;have d:=zh f;have a8:=Below.keep f.1 x0;have a9:=Below.keep f.1 x1;have bd:=Below.keep f.1 x2;have be:=Below.keep f.1 x3;clear f;try simp only[Act.put,zs1,zs3,zs2]
  go_wp2;exact⟨rfl,d.out⟩
 try simp only[Act.put,zs1,zs3,zs2]
 apply stepsSeq2.mem
 ·rintro w'⟨-,aS,-⟩;obtain rfl:=aS rfl;try simp only[Act.put,zs1,zs3,zs2]
  go_wp2_with fail
  go_at_call 40;refine M.out.mono ?_;rintro e4 u⟨rfl,L,i⟩;have N:=zh L;have j:=zh i;clear L i;go_wp2;exact⟨rfl,Below.trans (b:=w9.drew) (yR _ _).drew j.out,fun h=>(by cases h),fun _=>⟨_,zr _,N.out⟩⟩
 try simp only[Act.put,zs1,zs3,zs2]
 apply stepsSeq2.back
 ·rintro w' f;have d:=zh f;clear f;try simp only[Act.put,zs1,zs3,zs2]
  obtain⟨B,q,hM⟩:=d.out.2.2 (by first|rfl|trivial);go_wp2_with fail
  go_at_call 35;refine(aW.out _ _ _ d.out.1 q hM).mono ?_;rintro e4 u⟨rfl,i⟩;have m:=hM.low (i.mono q);have j:=zh (show Below w9.heap.size w9 u/\B<=u.heap.size from⟨d.out.1.trans (i.mono d.out.1.size),yT q i.size⟩);have l:=zh m;clear i m hM q;go_wp2;first|exact⟨rfl,j.out.1,fun h=>(by cases h),fun _=>⟨B,j.out.2,l.out⟩⟩|exact⟨rfl,j.out.1,B,j.out.2,l.out⟩
 try simp only[Act.put,zs1,zs3,zs2]
 apply stepsSeq2.back
 ·rintro w' f;have d:=zh f;clear f;try simp only[Act.put,zs1,zs3,zs2]
  go_wp2;first|exact⟨rfl,d.out⟩|exact⟨rfl,d.out.1,d.out.2.2 rfl⟩|exact⟨rfl,d.out.1,d.out.2.2 trivial⟩
 try simp only[Act.put,zs1,zs3,zs2]
 apply stepsSeq2.back
 ·rintro w' f;have d:=zh f;clear f;try simp only[Act.put,zs1,zs3,zs2]
  go_wp2;first|exact⟨rfl,d.out⟩|exact⟨rfl,d.out.1,d.out.2.2 rfl⟩|exact⟨rfl,d.out.1,d.out.2.2 trivial⟩
 try simp only[Act.put,zs1,zs3,zs2]
 apply stepsSeq2.back
 ·rintro w' f;have d:=zh f;clear f;try simp only[Act.put,zs1,zs3,zs2]
  go_wp2;first|exact⟨rfl,d.out⟩|exact⟨rfl,d.out.1,d.out.2.2 rfl⟩|exact⟨rfl,d.out.1,d.out.2.2 trivial⟩
 try simp only[Act.put,zs1,zs3,zs2]
 apply stepsSeq2.back
 ·rintro w' f;have d:=zh f;clear f;try simp only[Act.put,zs1,zs3,zs2]
  go_wp2;first|exact⟨rfl,d.out⟩|exact⟨rfl,d.out.1,d.out.2.2 rfl⟩|exact⟨rfl,d.out.1,d.out.2.2 trivial⟩
 try simp only[Act.put,zs1,zs3,zs2]
 apply stepsSeq2.back
 ·rintro w' f;have d:=zh f;clear f;try simp only[Act.put,zs1,zs3,zs2]
  go_wp2;first|exact⟨rfl,d.out⟩|exact⟨rfl,d.out.1,d.out.2.2 rfl⟩|exact⟨rfl,d.out.1,d.out.2.2 trivial⟩
 try simp only[Act.put,zs1,zs3,zs2]
 apply stepsSeq2.back
 ·rintro w' f;have d:=zh f;clear f;try simp only[Act.put,zs1,zs3,zs2]
  go_wp2;first|exact⟨rfl,d.out⟩|exact⟨rfl,d.out.1,d.out.2.2 rfl⟩|exact⟨rfl,d.out.1,d.out.2.2 trivial⟩
 try simp only[Act.put,zs1,zs3,zs2]
 apply stepsSeq2.back
 ·rintro w' f;have d:=zh f;clear f;try simp only[Act.put,zs1,zs3,zs2]
  go_wp2;first|exact⟨rfl,d.out⟩|exact⟨rfl,d.out.1,d.out.2.2 rfl⟩|exact⟨rfl,d.out.1,d.out.2.2 trivial⟩
 try simp only[Act.put,zs1,zs3,zs2]
 apply stepsSeq2.back
 ·rintro w' f;have d:=zh f;clear f;try simp only[Act.put,zs1,zs3,zs2]
  go_wp2;first|exact⟨rfl,d.out⟩|exact⟨rfl,d.out.1,d.out.2.2 rfl⟩|exact⟨rfl,d.out.1,d.out.2.2 trivial⟩
 try simp only[Act.put,zs1,zs3,zs2]
 apply stepsSeq2.back
 ·rintro w' f;have d:=zh f;clear f;try simp only[Act.put,zs1,zs3,zs2]
  go_wp2;first|exact⟨rfl,d.out⟩|exact⟨rfl,d.out.1,d.out.2.2 rfl⟩|exact⟨rfl,d.out.1,d.out.2.2 trivial⟩
 try simp only[Act.put,zs1,zs3,zs2]
 apply stepsSeq2.back
 ·rintro w' f;have d:=zh f;clear f;try simp only[Act.put,zs1,zs3,zs2]
  go_wp2;first|exact⟨rfl,d.out⟩|exact⟨rfl,d.out.1,d.out.2.2 rfl⟩|exact⟨rfl,d.out.1,d.out.2.2 trivial⟩
 try simp only[Act.put,zs1,zs3,zs2]
 apply stepsSeq2.back
 ·rintro w' f;have d:=zh f;clear f;try simp only[Act.put,zs1,zs3,zs2]
  go_wp2;first|exact⟨rfl,d.out⟩|exact⟨rfl,d.out.1,d.out.2.2 rfl⟩|exact⟨rfl,d.out.1,d.out.2.2 trivial⟩
 try simp only[Act.put,zs1,zs3,zs2]
 apply stepsSeq2.back
 ·rintro w' f;have d:=zh f;clear f;try simp only[Act.put,zs1,zs3,zs2]
  go_wp2;first|exact⟨rfl,d.out⟩|exact⟨rfl,d.out.1,d.out.2.2 rfl⟩|exact⟨rfl,d.out.1,d.out.2.2 trivial⟩
 try simp only[Act.put,zs1,zs3,zs2]
 apply stepsSeq2.back
 ·rintro w' f;have d:=zh f;clear f;try simp only[Act.put,zs1,zs3,zs2]
  go_wp2;first|exact⟨rfl,d.out⟩|exact⟨rfl,d.out.1,d.out.2.2 rfl⟩|exact⟨rfl,d.out.1,d.out.2.2 trivial⟩
 try simp only[Act.put,zs1,zs3,zs2]
 apply stepsSeq2.back
 ·rintro w' f;have d:=zh f;clear f;try simp only[Act.put,zs1,zs3,zs2]
  go_wp2;first|exact⟨rfl,d.out⟩|exact⟨rfl,d.out.1,d.out.2.2 rfl⟩|exact⟨rfl,d.out.1,d.out.2.2 trivial⟩
 try simp only[Act.put,zs1,zs3,zs2]
 apply stepsSeq2.back
 ·rintro w' f;have d:=zh f;clear f;try simp only[Act.put,zs1,zs3,zs2]
  go_wp2;first|exact⟨rfl,d.out⟩|exact⟨rfl,d.out.1,d.out.2.2 rfl⟩|exact⟨rfl,d.out.1,d.out.2.2 trivial⟩
 try simp only[Act.put,zs1,zs3,zs2]
 apply stepsSeq2.back
 ·rintro w' f;have d:=zh f;clear f;try simp only[Act.put,zs1,zs3,zs2]
  go_wp2;first|exact⟨rfl,d.out⟩|exact⟨rfl,d.out.1,d.out.2.2 rfl⟩|exact⟨rfl,d.out.1,d.out.2.2 trivial⟩
 try simp only[Act.put,zs1,zs3,zs2]
 apply stepsSeq2.back
 ·rintro w' f;have d:=zh f;clear f;try simp only[Act.put,zs1,zs3,zs2]
  go_wp2;first|exact⟨rfl,d.out⟩|exact⟨rfl,d.out.1,d.out.2.2 rfl⟩|exact⟨rfl,d.out.1,d.out.2.2 trivial⟩
 try simp only[Act.put,zs1,zs3,zs2]
 apply stepsSeq2.back
 ·rintro w' f;have d:=zh f;clear f;try simp only[Act.put,zs1,zs3,zs2]
  go_wp2;first|exact⟨rfl,d.out⟩|exact⟨rfl,d.out.1,d.out.2.2 rfl⟩|exact⟨rfl,d.out.1,d.out.2.2 trivial⟩
 try simp only[Act.put,zs1,zs3,zs2]
 apply stepsSeq2.back
 ·rintro w' f;have d:=zh f;clear f;try simp only[Act.put,zs1,zs3,zs2]
  go_wp2;first|exact⟨rfl,d.out⟩|exact⟨rfl,d.out.1,d.out.2.2 rfl⟩|exact⟨rfl,d.out.1,d.out.2.2 trivial⟩
 try simp only[Act.put,zs1,zs3,zs2]
 apply stepsSeq2.back
 ·rintro w' f;have d:=zh f;clear f;try simp only[Act.put,zs1,zs3,zs2]
  go_wp2;first|exact⟨rfl,d.out⟩|exact⟨rfl,d.out.1,d.out.2.2 rfl⟩|exact⟨rfl,d.out.1,d.out.2.2 trivial⟩
 try simp only[Act.put,zs1,zs3,zs2]
 apply stepsSeq2.back
 ·rintro w' f;have d:=zh f;clear f;try simp only[Act.put,zs1,zs3,zs2]
  go_wp2;first|exact⟨rfl,d.out⟩|exact⟨rfl,d.out.1,d.out.2.2 rfl⟩|exact⟨rfl,d.out.1,d.out.2.2 trivial⟩
 try simp only[Act.put,zs1,zs3,zs2]
 apply stepsSeq2.back
 ·rintro w' f;have d:=zh f;clear f;try simp only[Act.put,zs1,zs3,zs2]
  go_wp2;first|exact⟨rfl,d.out⟩|exact⟨rfl,d.out.1,d.out.2.2 rfl⟩|exact⟨rfl,d.out.1,d.out.2.2 trivial⟩
 try simp only[Act.put,zs1,zs3,zs2]
 apply stepsSeq2.back
 ·rintro w' f;have d:=zh f;clear f;try simp only[Act.put,zs1,zs3,zs2]
  go_wp2;first|exact⟨rfl,d.out⟩|exact⟨rfl,d.out.1,d.out.2.2 rfl⟩|exact⟨rfl,d.out.1,d.out.2.2 trivial⟩
 try simp only[Act.put,zs1,zs3,zs2]
 apply stepsSeq2.back
 ·rintro w' f;have d:=zh f;clear f;try simp only[Act.put,zs1,zs3,zs2]
  go_wp2;first|exact⟨rfl,d.out⟩|exact⟨rfl,d.out.1,d.out.2.2 rfl⟩|exact⟨rfl,d.out.1,d.out.2.2 trivial⟩
 try simp only[Act.put,zs1,zs3,zs2]
 apply stepsSeq2.back
 ·rintro w' f;have d:=zh f;clear f;try simp only[Act.put,zs1,zs3,zs2]
  go_wp2;first|exact⟨rfl,d.out⟩|exact⟨rfl,d.out.1,d.out.2.2 rfl⟩|exact⟨rfl,d.out.1,d.out.2.2 trivial⟩
 try simp only[Act.put,zs1,zs3,zs2]
 apply stepsSeq2.back
 ·rintro w' f;have d:=zh f;clear f;try simp only[Act.put,zs1,zs3,zs2]
  go_wp2;first|exact⟨rfl,d.out⟩|exact⟨rfl,d.out.1,d.out.2.2 rfl⟩|exact⟨rfl,d.out.1,d.out.2.2 trivial⟩
 try simp only[Act.put,zs1,zs3,zs2]
 apply stepsSeq2.back
 ·rintro w' f;have d:=zh f;clear f;try simp only[Act.put,zs1,zs3,zs2]
  go_wp2;first|exact⟨rfl,d.out⟩|exact⟨rfl,d.out.1,d.out.2.2 rfl⟩|exact⟨rfl,d.out.1,d.out.2.2 trivial⟩
 try simp only[Act.put,zs1,zs3,zs2]
 apply stepsSeq2.back
 ·rintro w' f;have d:=zh f;clear f;try simp only[Act.put,zs1,zs3,zs2]
  go_wp2;first|exact⟨rfl,d.out⟩|exact⟨rfl,d.out.1,d.out.2.2 rfl⟩|exact⟨rfl,d.out.1,d.out.2.2 trivial⟩
 try simp only[Act.put,zs1,zs3,zs2]
 apply stepsSeq2.back
 ·rintro w' f;have d:=zh f;clear f;try simp only[Act.put,zs1,zs3,zs2]
  go_wp2;first|exact⟨rfl,d.out⟩|exact⟨rfl,d.out.1,d.out.2.2 rfl⟩|exact⟨rfl,d.out.1,d.out.2.2 trivial⟩
 try simp only[Act.put,zs1,zs3,zs2]
 apply stepsSeq2.back
 ·rintro w' f;have d:=zh f;clear f;try simp only[Act.put,zs1,zs3,zs2]
  go_wp2;first|exact⟨rfl,d.out⟩|exact⟨rfl,d.out.1,d.out.2.2 rfl⟩|exact⟨rfl,d.out.1,d.out.2.2 trivial⟩
 try simp only[Act.put,zs1,zs3,zs2]
 apply stepsSeq2.back
 ·rintro w' f;have d:=zh f;clear f;try simp only[Act.put,zs1,zs3,zs2]
  go_wp2;first|exact⟨rfl,d.out⟩|exact⟨rfl,d.out.1,d.out.2.2 rfl⟩|exact⟨rfl,d.out.1,d.out.2.2 trivial⟩
 try simp only[Act.put,zs1,zs3,zs2]
 apply stepsSeq2.back
 ·rintro w' f;have d:=zh f;clear f;try simp only[Act.put,zs1,zs3,zs2]
  go_wp2;first|exact⟨rfl,d.out⟩|exact⟨rfl,d.out.1,d.out.2.2 rfl⟩|exact⟨rfl,d.out.1,d.out.2.2 trivial⟩
 try simp only[Act.put,zs1,zs3,zs2]
 apply stepsSeq2.back
 ·rintro w' f;have d:=zh f;clear f;try simp only[Act.put,zs1,zs3,zs2]
  go_wp2;first|exact⟨rfl,d.out⟩|exact⟨rfl,d.out.1,d.out.2.2 rfl⟩|exact⟨rfl,d.out.1,d.out.2.2 trivial⟩
 try simp only[Act.put,zs1,zs3,zs2]
 apply stepsSeq2.back
 ·rintro w' f;have d:=zh f;clear f;try simp only[Act.put,zs1,zs3,zs2]
  go_wp2;first|exact⟨rfl,d.out⟩|exact⟨rfl,d.out.1,d.out.2.2 rfl⟩|exact⟨rfl,d.out.1,d.out.2.2 trivial⟩
 try simp only[Act.put,zs1,zs3,zs2]
 apply stepsSeq2.back
 ·rintro w' f;have d:=zh f;clear f;try simp only[Act.put,zs1,zs3,zs2]
  go_wp2;first|exact⟨rfl,d.out⟩|exact⟨rfl,d.out.1,d.out.2.2 rfl⟩|exact⟨rfl,d.out.1,d.out.2.2 trivial⟩
 try simp only[Act.put,zs1,zs3,zs2]
 apply stepsSeq2.back
 ·rintro w' f;have d:=zh f;clear f;try simp only[Act.put,zs1,zs3,zs2]
  obtain⟨B,q,hM⟩:=d.out.2.2 (by first|rfl|trivial);go_wp2_with fail
  go_at_call 21;refine(a6.out _).mono ?_;rintro e4 u⟨rfl,i⟩;have m:=hM.low (i.mono q);have j:=zh (show Below w9.heap.size w9 u/\B<=u.heap.size from⟨d.out.1.trans (i.mono d.out.1.size),yT q i.size⟩);have l:=zh m;clear i m hM q;go_wp2;first|exact⟨rfl,j.out.1,fun h=>(by cases h),fun _=>⟨B,j.out.2,l.out⟩⟩|exact⟨rfl,j.out.1,B,j.out.2,l.out⟩
 try simp only[Act.put,zs1,zs3,zs2]
 apply stepsSeq2.back
 ·rintro w' f;have d:=zh f;clear f;try simp only[Act.put,zs1,zs3,zs2]
  go_wp2;first|exact⟨rfl,d.out⟩|exact⟨rfl,d.out.1,d.out.2.2 rfl⟩|exact⟨rfl,d.out.1,d.out.2.2 trivial⟩
 try simp only[Act.put,zs1,zs3,zs2]
 apply stepsSeq2.back
 ·rintro w' f;have d:=zh f;clear f;try simp only[Act.put,zs1,zs3,zs2]
  go_wp2;first|exact⟨rfl,d.out⟩|exact⟨rfl,d.out.1,d.out.2.2 rfl⟩|exact⟨rfl,d.out.1,d.out.2.2 trivial⟩
 try simp only[Act.put,zs1,zs3,zs2]
 apply stepsSeq2.back
 ·rintro w' f;have d:=zh f;clear f;try simp only[Act.put,zs1,zs3,zs2]
  obtain⟨B,q,hM⟩:=d.out.2.2 (by first|rfl|trivial);go_wp2_with fail
  go_at_call 21;refine(a0.out _).mono ?_;rintro e4 u⟨rfl,i⟩;have m:=hM.low (i.mono q);have j:=zh (show Below w9.heap.size w9 u/\B<=u.heap.size from⟨d.out.1.trans (i.mono d.out.1.size),yT q i.size⟩);have l:=zh m;clear i m hM q;go_wp2;first|exact⟨rfl,j.out.1,fun h=>(by cases h),fun _=>⟨B,j.out.2,l.out⟩⟩|exact⟨rfl,j.out.1,B,j.out.2,l.out⟩
 try simp only[Act.put,zs1,zs3,zs2]
 apply stepsSeq2.back
 ·rintro w' f;have d:=zh f;clear f;try simp only[Act.put,zs1,zs3,zs2]
  go_wp2;first|exact⟨rfl,d.out⟩|exact⟨rfl,d.out.1,d.out.2.2 rfl⟩|exact⟨rfl,d.out.1,d.out.2.2 trivial⟩
 try simp only[Act.put,zs1,zs3,zs2]
 apply stepsSeq2.back
 ·rintro w' f;have d:=zh f;clear f;try simp only[Act.put,zs1,zs3,zs2]
  go_wp2;first|exact⟨rfl,d.out⟩|exact⟨rfl,d.out.1,d.out.2.2 rfl⟩|exact⟨rfl,d.out.1,d.out.2.2 trivial⟩
 try simp only[Act.put,zs1,zs3,zs2]
 apply stepsSeq2.back
 ·rintro w' f;have d:=zh f;clear f;try simp only[Act.put,zs1,zs3,zs2]
  go_wp2;first|exact⟨rfl,d.out⟩|exact⟨rfl,d.out.1,d.out.2.2 rfl⟩|exact⟨rfl,d.out.1,d.out.2.2 trivial⟩
 try simp only[Act.put,zs1,zs3,zs2]
 apply stepsSeq2.back
 ·rintro w' f;have d:=zh f;clear f;try simp only[Act.put,zs1,zs3,zs2]
  obtain⟨B,q,hM⟩:=d.out.2.2 (by first|rfl|trivial);go_wp2_with fail
  go_at_call 23;refine(aY.out _).mono ?_;rintro e4 u⟨rfl,i⟩;have m:=hM.low (i.mono q);have j:=zh (show Below w9.heap.size w9 u/\B<=u.heap.size from⟨d.out.1.trans (i.mono d.out.1.size),yT q i.size⟩);have l:=zh m;clear i m hM q;go_wp2;first|exact⟨rfl,j.out.1,fun h=>(by cases h),fun _=>⟨B,j.out.2,l.out⟩⟩|exact⟨rfl,j.out.1,B,j.out.2,l.out⟩
 try simp only[Act.put,zs1,zs3,zs2]
 apply stepsSeq2.back
 ·rintro w' f;have d:=zh f;clear f;try simp only[Act.put,zs1,zs3,zs2]
  go_wp2;first|exact⟨rfl,d.out⟩|exact⟨rfl,d.out.1,d.out.2.2 rfl⟩|exact⟨rfl,d.out.1,d.out.2.2 trivial⟩
 try simp only[Act.put,zs1,zs3,zs2]
 apply stepsSeq2.back
 ·rintro w' f;have d:=zh f;clear f;try simp only[Act.put,zs1,zs3,zs2]
  go_wp2;first|exact⟨rfl,d.out⟩|exact⟨rfl,d.out.1,d.out.2.2 rfl⟩|exact⟨rfl,d.out.1,d.out.2.2 trivial⟩
 try simp only[Act.put,zs1,zs3,zs2]
 apply stepsSeq2.back
 ·rintro w' f;have d:=zh f;clear f;try simp only[Act.put,zs1,zs3,zs2]
  go_wp2;first|exact⟨rfl,d.out⟩|exact⟨rfl,d.out.1,d.out.2.2 rfl⟩|exact⟨rfl,d.out.1,d.out.2.2 trivial⟩
 try simp only[Act.put,zs1,zs3,zs2]
 apply stepsSeq2.back
 ·rintro w' f;have d:=zh f;clear f;try simp only[Act.put,zs1,zs3,zs2]
  go_wp2;first|exact⟨rfl,d.out⟩|exact⟨rfl,d.out.1,d.out.2.2 rfl⟩|exact⟨rfl,d.out.1,d.out.2.2 trivial⟩
 try simp only[Act.put,zs1,zs3,zs2]
 apply stepsSeq2.back
 ·rintro w' f;have d:=zh f;clear f;try simp only[Act.put,zs1,zs3,zs2]
  obtain⟨B,q,hM⟩:=d.out.2.2 (by first|rfl|trivial);go_wp2_with fail
  go_at_call 30;refine(a2.out _ d.out.1).mono ?_;rintro e4 u⟨rfl,i⟩;have m:=hM.low (i.mono q);have j:=zh (show Below w9.heap.size w9 u/\B<=u.heap.size from⟨d.out.1.trans (i.mono d.out.1.size),yT q i.size⟩);have l:=zh m;clear i m hM q;go_wp2;first|exact⟨rfl,j.out.1,fun h=>(by cases h),fun _=>⟨B,j.out.2,l.out⟩⟩|exact⟨rfl,j.out.1,B,j.out.2,l.out⟩
 try simp only[Act.put,zs1,zs3,zs2]
 apply stepsSeq2.back
 ·rintro w' f;have d:=zh f;clear f;try simp only[Act.put,zs1,zs3,zs2]
  go_wp2;first|exact⟨rfl,d.out⟩|exact⟨rfl,d.out.1,d.out.2.2 rfl⟩|exact⟨rfl,d.out.1,d.out.2.2 trivial⟩
 try simp only[Act.put,zs1,zs3,zs2]
 refine stepsSeq2.nil ?_;rintro bb⟨O,-,-⟩;have a1:=zh (au.out.trans (O.mono au.out.size));clear O x0 x1 x2 x3;try simp only[Act.put,zs1,zs3,zs2]
 go_wp2_with fail
 exact yE (v:=.bool true) (by simp[results,Tryz.results15,go_sem]) rfl ⟨rfl,a1.out⟩
end Go.Proofs.YtoaojdobjinhfaaGreatDoor
