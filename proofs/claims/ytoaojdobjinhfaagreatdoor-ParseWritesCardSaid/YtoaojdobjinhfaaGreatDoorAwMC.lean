/- What awake meets: reckoned by the kernel. Printed by gen_pawake.py. -/
import Derived.Test.YtoaojdobjinhfaaGreatDoorPParseC
import Derived.Test.YtoaojdobjinhfaaGreatDoorPrGC
set_option linter.unusedSimpArgs false
set_option linter.unusedVariables false
set_option maxRecDepth 100000
set_option maxHeartbeats 8000000
namespace Go.Proofs.YtoaojdobjinhfaaGreatDoor
open Go.RowKit

def exA : List Ex := [.mk 14 0 [] [.mk 2 0 [97] [], .mk 10 0 [] [.mk 2 0 [98] [], .mk 7 0 [] [.mk 1 2 [] []]]], .mk 1 3 [] []]
def exS : Ex := .mk 15 0 [] exA
def eyA : List Ex := [.mk 14 0 [] [.mk 2 0 [97] [], .mk 2 0 [98] []], .mk 14 0 [] [.mk 2 0 [99] [], .mk 2 0 [100] []]]
def eyS : Ex := .mk 14 0 [] eyA
def awL : List St := [.mk 4 0 [] [.mk 2 0 [120] []] [] [.mk 4 0 [] [.mk 2 0 [121] []] [.mk 6 0 [] [] [] []] []]]
theorem aw_p0:zbT [97,32,45,32,98,32,42,32,45,50,32,60,32,51]=.ok exS:=by kernel_rfl
theorem aw_w0:zab exS=[97,32,45,32,98,32,42,32,45,50,32,60,32,51]:=by
 unfold exS exA;simp only [zcq,zcr,zcs,zb0 (op:=15) (by decide) (by decide),zb0 (op:=14) (by decide) (by decide),zb0 (op:=10) (by decide) (by decide)];kernel_rfl
theorem aw_f0:zbd 40 exS=true:=by kernel_rfl
theorem aw_t0:zbK exS=([97,32,45,32,98,32,42,32,45,50,32,60,32,51],0):=by unfold zbK;rw [aw_f0,if_pos rfl,aw_w0];rfl
theorem aw_p1:zbT [40,97,32,45,32,98,41,32,45,32,40,99,32,45,32,100,41]=.ok eyS:=by kernel_rfl
theorem aw_w1:zab eyS=[97,32,45,32,98,32,45,32,40,99,32,45,32,100,41]:=by
 unfold eyS eyA;simp only [zcq,zcr,zcs,zb0 (op:=14) (by decide) (by decide)];kernel_rfl
theorem aw_f1:zbd 40 eyS=true:=by kernel_rfl
theorem aw_t1:zbK eyS=([97,32,45,32,98,32,45,32,40,99,32,45,32,100,41],0):=by unfold zbK;rw [aw_f1,if_pos rfl,aw_w1];rfl
theorem aw_p2:zbg [108,101,116,32,105,102,32,61,32,49,59]=.err 1 5 120:=by kernel_rfl
theorem aw_p3:zbg [105,102,32,40,120,41,32,123,32,125,32,101,108,115,101,32,105,102,32,40,121,41,32,123,32,115,116,111,112,59,32,125]=.ok awL:=by kernel_rfl
theorem aw_t3:zhE awL=([105,102,32,40,120,41,32,123,10,125,32,101,108,115,101,32,105,102,32,40,121,41,32,123,10,9,115,116,111,112,59,10,125,10],0):=by kernel_rfl
theorem aw_r3:zaJ 40 awL=true:=by kernel_rfl
theorem aw_p4:zbg [120,32,61,32,49]=.err 1 6 120:=by kernel_rfl
theorem aw_n0:zaP [120]=true:=by kernel_rfl
theorem aw_n1:zaP [105,102]=false:=by kernel_rfl
theorem aw_k:zap [118,101,108]=2:=by kernel_rfl
theorem aw_ok0:okE exS:=by simp [exS,exA,okE,okEs,okI]
theorem aw_ok1:okE eyS:=by simp [eyS,eyA,okE,okEs,okI]
theorem zkZ:okSs awL:=by simp [awL,okS,okSs,okE,okEs,okI]
theorem aw_sz:szSs awL≤1000:=by decide
theorem zhH {w:World} {P:Nat→Prop} {op n:Int} {name:List UInt8} {args:List Ex} {c0 c1 c2 v:Value} (h:ExsC w P [.mk op n name args] [c0,c1,c2,v]):EsL w w.heap.size args v:=by
 cases h with
 | cons h1 h2 h3 h4=>exact ⟨_,h1,zgw (by omega) h1 (fun g hg _=>hg) h2,h3.weak fun g hg _=>hg⟩
theorem zeM {w:World} {m:Nat} {xs:List St} {v:Value} (h:∃ cs,w.ownsRow m 56 6 v xs.length cs∧StsC w (fun g=>m≤g) xs cs):SsL w w.heap.size xs v:=by
 obtain ⟨cs,hR,hX⟩:=h;exact ⟨cs,Sl.of_own hR,.inr fun g e=>(hR.lt g e).2,hX.weak fun g hg _=>hg⟩
theorem zjN {w:World} {op n:Int} {name:List UInt8} {args xs:List Ex} {g k:Nat} {cs ds:List Value} (hO:OwnV w g 29 cs) (hk:args.length=k) (hk1:k≤1000) (hc:ExsC w (fun b=>b < w.heap.size) args cs) (hx:ExsC w (fun b=>b < w.heap.size) xs ds) :
  ExsC w (fun b=>b < w.heap.size) (.mk op n name args :: xs) (.int .u8 op :: .int .i64 n :: .string (bstr name) :: .slice (some ⟨g,0,none⟩) k k :: ds):=by
 subst hk;exact .cons (zcw hO hc.len (zr _) (by omega)) (.inr fun b e=>by cases e;exact hO.lt) hc hx
theorem zfX {w:World} {P:Nat→Prop} {op n:Int} {name:List UInt8} {xs:List Ex} {ds:List Value} (hx:ExsC w P xs ds):ExsC w P (.mk op n name [] :: xs) (.int .u8 op :: .int .i64 n :: .string (bstr name) :: .slice none 0 0 :: ds):=.cons (Sl.nil w 4) (.inl rfl) .nil hx
theorem zl3 (w:World):∃ W,W=((((((((((w.alloc (.cells #[.int .u8 15,.int .i64 0,.string { data:=#[] },.slice (some ⟨w.heap.size+1+1+1+1+1+1+1+1+1,0,none⟩) 2 2] 29)).alloc (.cells #[.int .u8 2,.int .i64 0,.string { data:=#[97] },.slice none 0 0] 29)).alloc (.cells #[.int .u8 2,.int .i64 0,.string { data:=#[98] },.slice none 0 0] 29)).alloc (.cells #[.int .u8 1,.int .i64 2,.string { data:=#[] },.slice none 0 0] 29)).alloc (.cells #[.int .u8 1,.int .i64 3,.string { data:=#[] },.slice none 0 0] 29)).alloc (.cells #[.int .u8 1,.int .i64 2,.string { data:=#[] },.slice none 0 0] 29)).alloc (.cells #[.int .u8 2,.int .i64 0,.string { data:=#[98] },.slice none 0 0,.int .u8 7,.int .i64 0,.string { data:=#[] },.slice (some ⟨w.heap.size+1+1+1+1+1,0,none⟩) 1 1] 29)).alloc (.cells #[.int .u8 10,.int .i64 0,.string { data:=#[] },.slice (some ⟨w.heap.size+1+1+1+1+1+1,0,none⟩) 2 2] 29)).alloc (.cells #[.int .u8 2,.int .i64 0,.string { data:=#[97] },.slice none 0 0,.int .u8 10,.int .i64 0,.string { data:=#[] },.slice (some ⟨w.heap.size+1+1+1+1+1+1,0,none⟩) 2 2] 29)).alloc (.cells #[.int .u8 14,.int .i64 0,.string { data:=#[] },.slice (some ⟨w.heap.size+1+1+1+1+1+1+1+1,0,none⟩) 2 2,.int .u8 1,.int .i64 3,.string { data:=#[] },.slice none 0 0] 29))∧Below w.heap.size w W∧OwnV W (w.heap.size) 29 [.int .u8 15,.int .i64 0,.string { data:=#[] },.slice (some ⟨w.heap.size+1+1+1+1+1+1+1+1+1,0,none⟩) 2 2]∧OwnV W (w.heap.size+1+1+1+1+1) 29 [.int .u8 1,.int .i64 2,.string { data:=#[] },.slice none 0 0]∧OwnV W (w.heap.size+1+1+1+1+1+1) 29 [.int .u8 2,.int .i64 0,.string { data:=#[98] },.slice none 0 0,.int .u8 7,.int .i64 0,.string { data:=#[] },.slice (some ⟨w.heap.size+1+1+1+1+1,0,none⟩) 1 1]∧OwnV W (w.heap.size+1+1+1+1+1+1+1+1) 29 [.int .u8 2,.int .i64 0,.string { data:=#[97] },.slice none 0 0,.int .u8 10,.int .i64 0,.string { data:=#[] },.slice (some ⟨w.heap.size+1+1+1+1+1+1,0,none⟩) 2 2]∧OwnV W (w.heap.size+1+1+1+1+1+1+1+1+1) 29 [.int .u8 14,.int .i64 0,.string { data:=#[] },.slice (some ⟨w.heap.size+1+1+1+1+1+1+1+1,0,none⟩) 2 2,.int .u8 1,.int .i64 3,.string { data:=#[] },.slice none 0 0]:=⟨_,rfl,(((((((((((Below.refl _ _).alloc (by simp) _).alloc (by simp) _).alloc (by simp;try omega) _).alloc (by simp;try omega) _).alloc (by simp;try omega) _).alloc (by simp;try omega) _).alloc (by simp;try omega) _).alloc (by simp;try omega) _).alloc (by simp;try omega) _).alloc (by simp;try omega) _),((((((((((za6 _ _ _ (by simp)).alloc _).alloc _).alloc _).alloc _).alloc _).alloc _).alloc _).alloc _).alloc _),(((((za6 _ _ _ (by simp)).alloc _).alloc _).alloc _).alloc _),((((za6 _ _ _ (by simp)).alloc _).alloc _).alloc _),((za6 _ _ _ (by simp)).alloc _),(za6 _ _ _ (by simp))⟩
theorem zfl (w:World):Calls Tryz.prog 40 #[] w fun e w'=>e=.returned (.agg #[.int .u8 15,.int .i64 0,.string { data:=#[] },.slice (some ⟨w.heap.size+1+1+1+1+1+1+1+1+1,0,none⟩) 2 2])∧EsL w' w'.heap.size exA (.slice (some ⟨w.heap.size+1+1+1+1+1+1+1+1+1,0,none⟩) 2 2)∧Below w.heap.size w w':=by
 obtain ⟨W,hW,hb,h0,h5,h6,h8,h9⟩:=zl3 w;have HW:=zh hW;have Hb:=zh hb;have x0:=h0.cell (i:=0) rfl;have x1:=h0.cell (i:=1) rfl;have x2:=h0.cell (i:=2) rfl;have x3:=h0.cell (i:=3) rfl
 have hX:EsL W W.heap.size exA (.slice (some ⟨w.heap.size+1+1+1+1+1+1+1+1+1,0,none⟩) 2 2):=by
  refine ⟨_,zcw h9 (n:=2) rfl (zr _) (by decide),.inr fun g e=>by cases e;exact h9.lt,?_⟩;exact zjN (name:=[]) h8 rfl (by decide) (zfX (name:=[97]) (zjN (name:=[]) h6 rfl (by decide) (zfX (name:=[98]) (zjN (name:=[]) h5 rfl (by decide) (zfX (name:=[]) .nil) .nil)) .nil)) (zfX (name:=[]) .nil)
 have HX:=zh hX;clear hW hb h0 h5 h6 h8 h9 hX;go_enter Tryz.func40,Tryz.ntmps40
 go_wp2;rw [← HW.out];exact bodyPost_ret (v:=.agg #[.int .u8 15,.int .i64 0,.string { data:=#[] },.slice (some ⟨w.heap.size+1+1+1+1+1+1+1+1+1,0,none⟩) 2 2]) (by simp [results,Tryz.results40,go_sem,x0,x1,x2,x3]) rfl ⟨rfl,HX.out,Hb.out⟩
theorem SsL.mono' {w:World} {B B':Nat} {xs:List St} {v:Value} (h:SsL w B xs v) (hB:B≤B'):SsL w B' xs v:=SsL.mono h hB
theorem px0 {w:World} (hG:Glob w):Calls Tryz.prog 34 #[.string { data:=#[97,32,45,32,98,32,42,32,45,50,32,60,32,51] }] w fun e w'=>(∃ a cap,e=.returned (.tuple #[.agg #[.int .u8 15,.int .i64 0,.string { data:=#[] },.slice a 2 cap],.int .i64 0,.int .i64 0,.int .i64 0])∧EsL w' w'.heap.size exA (.slice a 2 cap))∧Below w.heap.size w w':=by
 have h:=zew hG (bstr [97,32,45,32,98,32,42,32,45,50,32,60,32,51]) (by rw [zaC];decide);rw [show (bstr [97,32,45,32,98,32,42,32,45,50,32,60,32,51]).data.toList=[97,32,45,32,98,32,42,32,45,50,32,60,32,51] from rfl,aw_p0] at h;refine h.mono ?_;rintro e w' ⟨⟨v,rfl,cs,rfl,hX⟩,hb⟩;obtain ⟨aa,cap,rfl⟩:=hX.form1;exact ⟨⟨aa,cap,rfl,zhH hX⟩,hb⟩
theorem px1 {w:World} (hG:Glob w):Calls Tryz.prog 34 #[.string { data:=#[40,97,32,45,32,98,41,32,45,32,40,99,32,45,32,100,41] }] w fun e w'=>(∃ a cap,e=.returned (.tuple #[.agg #[.int .u8 14,.int .i64 0,.string { data:=#[] },.slice a 2 cap],.int .i64 0,.int .i64 0,.int .i64 0])∧EsL w' w'.heap.size eyA (.slice a 2 cap))∧Below w.heap.size w w':=by
 have h:=zew hG (bstr [40,97,32,45,32,98,41,32,45,32,40,99,32,45,32,100,41]) (by rw [zaC];decide);rw [show (bstr [40,97,32,45,32,98,41,32,45,32,40,99,32,45,32,100,41]).data.toList=[40,97,32,45,32,98,41,32,45,32,40,99,32,45,32,100,41] from rfl,aw_p1] at h;refine h.mono ?_;rintro e w' ⟨⟨v,rfl,cs,rfl,hX⟩,hb⟩;obtain ⟨aa,cap,rfl⟩:=hX.form1;exact ⟨⟨aa,cap,rfl,zhH hX⟩,hb⟩
theorem pp2 {w:World} (hG:Glob w):Calls Tryz.prog 31 #[.string { data:=#[108,101,116,32,105,102,32,61,32,49,59] }] w fun e w'=>e=.returned (.tuple #[.slice none 0 0,.int .i64 1,.int .i64 5,.int .i64 120])∧Below w.heap.size w w':=by
 have h:=zbP hG (bstr [108,101,116,32,105,102,32,61,32,49,59]) (by rw [zaC];decide);rw [show (bstr [108,101,116,32,105,102,32,61,32,49,59]).data.toList=[108,101,116,32,105,102,32,61,32,49,59] from rfl,aw_p2] at h;exact h.mono fun e w' he=>⟨he.1.1,he.2⟩
theorem pp4 {w:World} (hG:Glob w):Calls Tryz.prog 31 #[.string { data:=#[120,32,61,32,49] }] w fun e w'=>e=.returned (.tuple #[.slice none 0 0,.int .i64 1,.int .i64 6,.int .i64 120])∧Below w.heap.size w w':=by
 have h:=zbP hG (bstr [120,32,61,32,49]) (by rw [zaC];decide);rw [show (bstr [120,32,61,32,49]).data.toList=[120,32,61,32,49] from rfl,aw_p4] at h;exact h.mono fun e w' he=>⟨he.1.1,he.2⟩
theorem pp3 {w:World} (hG:Glob w):Calls Tryz.prog 31 #[.string { data:=#[105,102,32,40,120,41,32,123,32,125,32,101,108,115,101,32,105,102,32,40,121,41,32,123,32,115,116,111,112,59,32,125] }] w fun e w'=>(∃ a cap,e=.returned (.tuple #[.slice a 1 cap,.int .i64 0,.int .i64 0,.int .i64 0])∧SsL w' w'.heap.size awL (.slice a 1 cap))∧Below w.heap.size w w':=by
 have h:=zbP hG (bstr [105,102,32,40,120,41,32,123,32,125,32,101,108,115,101,32,105,102,32,40,121,41,32,123,32,115,116,111,112,59,32,125]) (by rw [zaC];decide);rw [show (bstr [105,102,32,40,120,41,32,123,32,125,32,101,108,115,101,32,105,102,32,40,121,41,32,123,32,115,116,111,112,59,32,125]).data.toList=[105,102,32,40,120,41,32,123,32,125,32,101,108,115,101,32,105,102,32,40,121,41,32,123,32,115,116,111,112,59,32,125] from rfl,aw_p3] at h;refine h.mono ?_;rintro e w' ⟨⟨v,rfl,hX⟩,hb⟩;have hS:=zeM hX;obtain ⟨a,cap,rfl,-,-⟩:=hS.form;exact ⟨⟨a,cap,rfl,hS⟩,hb⟩
theorem tx0 {w:World} {B:Nat} {a:Option Addr} {cap:Nat} (hG:Glob w) (hL:EsL w B exA (.slice a 2 cap)) (hB:B≤w.heap.size):Calls Tryz.prog 33 #[.agg #[.int .u8 15,.int .i64 0,.string { data:=#[] },.slice a 2 cap]] w fun e w'=>e=.returned (.tuple #[.string { data:=#[97,32,45,32,98,32,42,32,45,50,32,60,32,51] },.int .i64 0])∧Below w.heap.size w w':=by
 have h:=zdO (op:=15) (n:=0) (name:=[]) hG aw_ok0 hL hB;rw [show Ex.mk 15 0 [] exA=exS from rfl,aw_t0] at h;exact h
theorem tx1 {w:World} {B:Nat} {a:Option Addr} {cap:Nat} (hG:Glob w) (hL:EsL w B eyA (.slice a 2 cap)) (hB:B≤w.heap.size):Calls Tryz.prog 33 #[.agg #[.int .u8 14,.int .i64 0,.string { data:=#[] },.slice a 2 cap]] w fun e w'=>e=.returned (.tuple #[.string { data:=#[97,32,45,32,98,32,45,32,40,99,32,45,32,100,41] },.int .i64 0])∧Below w.heap.size w w':=by
 have h:=zdO (op:=14) (n:=0) (name:=[]) hG aw_ok1 hL hB;rw [show Ex.mk 14 0 [] eyA=eyS from rfl,aw_t1] at h;exact h
theorem tt3 {w:World} {B:Nat} {v:Value} (hG:Glob w) (hL:SsL w B awL v) (hB:B≤w.heap.size):Calls Tryz.prog 29 #[v] w fun e w'=>e=.returned (.tuple #[.string { data:=#[105,102,32,40,120,41,32,123,10,125,32,101,108,115,101,32,105,102,32,40,121,41,32,123,10,9,115,116,111,112,59,10,125,10] },.int .i64 0])∧Below w.heap.size w w':=by
 have h:=zmF hG zkZ hL hB (by have:=aw_sz;omega);rw [aw_t3] at h;exact h
theorem pr3 {w:World} {B:Nat} {v:Value} (hL:SsL w B awL v) (hB:B≤w.heap.size):Calls Tryz.prog 30 #[v] w fun e w'=>e=.returned (.bool true)∧Below w.heap.size w w':=by
 have h:=zem awL v w B zkZ hL hB;rw [aw_r3] at h;exact h
theorem nm0 (w:World):Calls Tryz.prog 21 #[.string { data:=#[120] }] w fun e w'=>e=.returned (.bool true)∧Below w.heap.size w w':=by
 have h:=zdr [120] w;rw [aw_n0] at h;exact h
theorem nm1 (w:World):Calls Tryz.prog 21 #[.string { data:=#[105,102] }] w fun e w'=>e=.returned (.bool false)∧Below w.heap.size w w':=by
 have h:=zdr [105,102] w;rw [aw_n1] at h;exact h
theorem kd0 (w:World):Calls Tryz.prog 23 #[.string { data:=#[118,101,108] }] w fun e w'=>e=.returned (.int .u8 2)∧Below w.heap.size w w':=by
 have h:=za5 [118,101,108] w;rw [aw_k] at h;exact h
theorem se0 {w:World} {B:Nat} {a b:Option Addr} {ca cb:Nat} (hL:EsL w B exA (.slice a 2 ca)) (hM:EsL w B exA (.slice b 2 cb)) (hB:B≤w.heap.size):Calls Tryz.prog 35 #[.agg #[.int .u8 15,.int .i64 0,.string { data:=#[] },.slice a 2 ca],.agg #[.int .u8 15,.int .i64 0,.string { data:=#[] },.slice b 2 cb]] w (YesE w):=
 zeT 15 0 [] exA _ _ w ⟨a,ca,rfl⟩ ⟨b,cb,rfl⟩ (fun w' hb=>zes (szEs exA+1) exA _ _ w' B (by omega) (hL.low (hb.mono hB)) (hM.low (hb.mono hB)) (Nat.le_trans hB hb.size))
theorem zfY {w:World} (hG:Glob w):Calls Tryz.prog 15 #[] w (YesE w):=by
 have hgs:=hG.size;have HG:Hid (∀ W,Below w.heap.size w W→Glob W):=zh (fun W hb=>hG.below hb hgs);have HP0:=zh (px0 hG);clear hG;go_enter Tryz.func15,Tryz.ntmps15
 go_wp2_with fail
 go_at_call 34;refine HP0.out.mono ?_;rintro e1 w1 ⟨⟨va1,vc1,rfl,hL1⟩,hb1⟩;have hs1:=hb1.size;obtain ⟨W1,hW1,hbW1,hO1⟩:∃ W1,W1=w1.alloc (.cells #[.int .u8 15,.int .i64 0,.string { data:=#[] },.slice va1 2 vc1] 29)∧Below w1.heap.size w1 W1∧OwnV W1 w1.heap.size 29 [.int .u8 15,.int .i64 0,.string { data:=#[] },.slice va1 2 vc1]:=⟨_,rfl,(Below.refl _ _).alloc (zr _) _,OwnV.new _ _ _⟩;have hsW1:=hbW1.size;have Hb1:=zh (hb1.trans (hbW1.mono hs1));have HL1:=zh (hL1.low hbW1);have HO1:=zh hO1;have HW1:=zh hW1;have HEx:=zh (zfl W1);clear hL1 hb1 hW1 hbW1 hO1 HP0;go_upto_region 2 with (fail)
 rw [← HW1.out];go_wp2_with fail
 go_at_call 40;refine HEx.out.mono ?_;rintro e2 w2 ⟨rfl,hL2,hb2⟩;have hs2:=hb2.size;have Hb2:=zh (Hb1.out.trans (hb2.mono (by omega)));have HO2:=zh (HO1.out.below hb2 (zr _));have HL2:=zh (HL1.out.low (hb2.mono (by omega)));have HTx:=zh (tx0 (HG.out _ Hb2.out) hL2 (zr _));clear hL2 hb2 HEx HO1 HL1 Hb1;go_wp2_with fail
 go_at_call 33;refine HTx.out.mono ?_;rintro e3 w3 ⟨rfl,hb3⟩;have hs3:=hb3.size;have Hb3:=zh (Hb2.out.trans (hb3.mono (by omega)));have HO3:=zh (HO2.out.below hb3 (zr _));have HL3:=zh (HL2.out.low (hb3.mono (by omega)));have HPx:=zh (px1 (HG.out _ Hb3.out));clear hb3 HTx HO2 HL2 Hb2;go_wp2_with fail
 go_at_call 34;refine HPx.out.mono ?_;rintro e4 w4 ⟨⟨va4,vc4,rfl,hL4⟩,hb4⟩;have hs4:=hb4.size;obtain ⟨W4,hW4,hbW4,hO4⟩:∃ W4,W4=w4.alloc (.cells #[.int .u8 14,.int .i64 0,.string { data:=#[] },.slice va4 2 vc4] 29)∧Below w4.heap.size w4 W4∧OwnV W4 w4.heap.size 29 [.int .u8 14,.int .i64 0,.string { data:=#[] },.slice va4 2 vc4]:=⟨_,rfl,(Below.refl _ _).alloc (zr _) _,OwnV.new _ _ _⟩;have hsW4:=hbW4.size;have hb4':=hb4.trans (hbW4.mono hs4);have Hb4:=zh (Hb3.out.trans (hb4'.mono (by omega)));have HO4:=zh (HO3.out.below hb4' (zr _));have HL4:=zh (HL3.out.low (hb4'.mono (by omega)));have HTx:=zh (tx1 (HG.out _ Hb4.out) (hL4.low hbW4) hsW4);have y0:=hO4.cell (i:=0) rfl;have y1:=hO4.cell (i:=1) rfl;have y2:=hO4.cell (i:=2) rfl;have y3:=hO4.cell (i:=3) rfl;have HW4:=zh hW4;clear hL4 hb4 hW4 hbW4 hO4 hb4' HPx HO3 HL3 Hb3;go_upto_region 4 with (fail)
 rw [← HW4.out];go_wp2_with fail
 go_at_call 33;refine HTx.out.mono ?_;rintro e5 w5 ⟨rfl,hb5⟩;have hs5:=hb5.size;have Hb5:=zh (Hb4.out.trans (hb5.mono (by omega)));have HO5:=zh (HO4.out.below hb5 (zr _));have HL5:=zh (HL4.out.low (hb5.mono (by omega)));have HPp:=zh (pp2 (HG.out _ Hb5.out));clear hb5 HTx HO4 HL4 Hb4 y0 y1 y2 y3;go_wp2_with fail
 go_at_call 31;refine HPp.out.mono ?_;rintro e6 w6 ⟨rfl,hb6⟩;have hs6:=hb6.size;have Hb6:=zh (Hb5.out.trans (hb6.mono (by omega)));have HO6:=zh (HO5.out.below hb6 (zr _));have HL6:=zh (HL5.out.low (hb6.mono (by omega)));have HPp:=zh (pp3 (HG.out _ Hb6.out));clear hb6 HO5 HL5 Hb5;go_wp2_with fail
 go_at_call 31;refine HPp.out.mono ?_;rintro e7 w7 ⟨⟨va7,vc7,rfl,hL7⟩,hb7⟩;have hs7:=hb7.size;have Hb7:=zh (Hb6.out.trans (hb7.mono (by omega)));have HO7:=zh (HO6.out.below hb7 (zr _));have HL7:=zh (HL6.out.low (hb7.mono (by omega)));have HS7:=zh hL7;have HTt:=zh (tt3 (HG.out _ Hb7.out) hL7 (zr _));clear hb7 hL7 HO6 HL6 Hb6;go_wp2_with fail
 go_at_call 29;refine HTt.out.mono ?_;rintro e8 w8 ⟨rfl,hb8⟩;have hs8:=hb8.size;have Hb8:=zh (Hb7.out.trans (hb8.mono (by omega)));have HO8:=zh (HO7.out.below hb8 (zr _));have HL8:=zh (HL7.out.low (hb8.mono (by omega)));have HS8:=zh (HS7.out.low hb8);have HPp:=zh (pp4 (HG.out _ Hb8.out));clear hb8 HTt HO7 HL7 Hb7 HS7;go_wp2_with fail
 go_at_call 31;refine HPp.out.mono ?_;rintro e9 w9 ⟨rfl,hb9⟩;have hs9:=hb9.size;have Hb9:=zh (Hb8.out.trans (hb9.mono (by omega)));have hO9:=HO8.out.below hb9 (zr _);have HL9:=zh (HL8.out.low (hb9.mono (by omega)));have HS9:=zh (HS8.out.low (hb9.mono (by omega)));have HEx:=zh (zfl w9.drew);have x0:=hO9.cell (i:=0) rfl;have x1:=hO9.cell (i:=1) rfl;have x2:=hO9.cell (i:=2) rfl;have x3:=hO9.cell (i:=3) rfl;have HSe:Hid (∀ W B g,Below w9.heap.size w9 W→B≤W.heap.size→EsL W B exA (.slice (some ⟨g,0,none⟩) 2 2)→_):=zh (fun W B g (hb:Below w9.heap.size w9 W) (hB:B≤W.heap.size) (hM:EsL W B exA (.slice (some ⟨g,0,none⟩) 2 2))=>se0 (B:=W.heap.size) ((HL9.out.low (hb.mono (by omega))).mono (by have:=hb.size;omega)) (hM.mono hB) (zr _));have HPr:Hid (∀ W,Below w9.heap.size w9 W→_):=zh (fun W (hb:Below w9.heap.size w9 W)=>pr3 (B:=W.heap.size) ((HS9.out.low (hb.mono (by omega))).mono' (by have:=hb.size;omega)) (zr _));have HN0:=zh nm0;have HN1:=zh nm1;have HKd:=zh kd0;clear hb9 HO8 HL8 Hb8 HS8 hO9 HPp hsW4 hs1 hs2 hs3 hs4 hs5 hs6 hs7 hs8 hs9 hsW1 HL9 HS9;go_upto_region 9 with (fail)
 simp only [List.append_eq,List.cons_append,List.nil_append];refine zc7 65 [0,0,0,0,0,0,0,0,0,0,0,0,0,0,3,4,4,4,4,4,4,4,4,4,4,4,4,4,4,4,4,4,4,4,4,4,4,4,4,4,4,4,4,4,4,4,4,4,4,4,4,4,4,4,4,4,4,4,4,4,4,4,4,4,4] (fun b w'=>Below w9.heap.size w9 w'∧(b=false→w'=w9.drew)∧(b=true→∃ B,B≤w'.heap.size∧EsL w' B exA (.slice (some ⟨w9.drew.heap.size+1+1+1+1+1+1+1+1+1,0,none⟩) 2 2))) (by kernel_rfl) (by kernel_rfl) ⟨(Below.refl _ _).drew,fun _=>rfl,fun h=>by cases h⟩ ?_;simp only [List.take_succ_cons,List.take_zero,List.drop_succ_cons,List.drop_zero];try simp only [Act.put,zs1,zs3,zs2]
 apply stepsSeq2.val
 ·rintro b w' hE;have HE:=zh hE;clear hE;try simp only [Act.put,zs1,zs3,zs2]
  go_wp2;exact ⟨rfl,HE.out⟩
 try simp only [Act.put,zs1,zs3,zs2]
 apply stepsSeq2.val
 ·rintro b w' hE;have HE:=zh hE;clear hE;try simp only [Act.put,zs1,zs3,zs2]
  go_wp2;exact ⟨rfl,HE.out⟩
 try simp only [Act.put,zs1,zs3,zs2]
 apply stepsSeq2.val
 ·rintro b w' hE;have HE:=zh hE;clear hE;try simp only [Act.put,zs1,zs3,zs2]
  go_wp2;exact ⟨rfl,HE.out⟩
 try simp only [Act.put,zs1,zs3,zs2]
 apply stepsSeq2.val
 ·rintro b w' hE;have HE:=zh hE;clear hE;try simp only [Act.put,zs1,zs3,zs2]
  go_wp2;exact ⟨rfl,HE.out⟩
 try simp only [Act.put,zs1,zs3,zs2]
 apply stepsSeq2.val
 ·rintro b w' hE;have HE:=zh hE;clear hE;try simp only [Act.put,zs1,zs3,zs2]
  go_wp2;exact ⟨rfl,HE.out⟩
 try simp only [Act.put,zs1,zs3,zs2]
 apply stepsSeq2.val
 ·rintro b w' hE;have HE:=zh hE;clear hE;try simp only [Act.put,zs1,zs3,zs2]
  go_wp2;exact ⟨rfl,HE.out⟩
 try simp only [Act.put,zs1,zs3,zs2]
 apply stepsSeq2.val
 ·rintro b w' hE;have HE:=zh hE;clear hE;try simp only [Act.put,zs1,zs3,zs2]
  go_wp2;exact ⟨rfl,HE.out⟩
 try simp only [Act.put,zs1,zs3,zs2]
 apply stepsSeq2.val
 ·rintro b w' hE;have HE:=zh hE;clear hE;try simp only [Act.put,zs1,zs3,zs2]
  go_wp2;exact ⟨rfl,HE.out⟩
 try simp only [Act.put,zs1,zs3,zs2]
 apply stepsSeq2.val
 ·rintro b w' hE;have HE:=zh hE;clear hE;try simp only [Act.put,zs1,zs3,zs2]
  go_wp2;exact ⟨rfl,HE.out⟩
 try simp only [Act.put,zs1,zs3,zs2]
 apply stepsSeq2.val
 ·rintro b w' hE;have HE:=zh hE;clear hE;try simp only [Act.put,zs1,zs3,zs2]
  go_wp2;exact ⟨rfl,HE.out⟩
 try simp only [Act.put,zs1,zs3,zs2]
 apply stepsSeq2.val
 ·rintro b w' hE;have HE:=zh hE;clear hE;try simp only [Act.put,zs1,zs3,zs2]
  go_wp2;exact ⟨rfl,HE.out⟩
 try simp only [Act.put,zs1,zs3,zs2]
 apply stepsSeq2.val
 ·rintro b w' hE;have HE:=zh hE;clear hE;try simp only [Act.put,zs1,zs3,zs2]
  go_wp2;exact ⟨rfl,HE.out⟩
 try simp only [Act.put,zs1,zs3,zs2]
 apply stepsSeq2.val
 ·rintro b w' hE;have HE:=zh hE;clear hE;try simp only [Act.put,zs1,zs3,zs2]
  go_wp2;exact ⟨rfl,HE.out⟩
 try simp only [Act.put,zs1,zs3,zs2]
 apply stepsSeq2.val
 ·rintro b w' hE;have HE:=zh hE;have x0':=Below.keep hE.1 x0;have x1':=Below.keep hE.1 x1;have x2':=Below.keep hE.1 x2;have x3':=Below.keep hE.1 x3;clear hE;try simp only [Act.put,zs1,zs3,zs2]
  go_wp2;exact ⟨rfl,HE.out⟩
 try simp only [Act.put,zs1,zs3,zs2]
 apply stepsSeq2.mem
 ·rintro w' ⟨-,hE0,-⟩;obtain rfl:=hE0 rfl;try simp only [Act.put,zs1,zs3,zs2]
  go_wp2_with fail
  go_at_call 40;refine HEx.out.mono ?_;rintro e4 w4 ⟨rfl,hL4,hb4⟩;have HL4:=zh hL4;have Hb4:=zh hb4;clear hL4 hb4;go_wp2;exact ⟨rfl,Below.trans (b:=w9.drew) (Below.refl _ _).drew Hb4.out,fun h=>(by cases h),fun _=>⟨_,zr _,HL4.out⟩⟩
 try simp only [Act.put,zs1,zs3,zs2]
 apply stepsSeq2.back
 ·rintro w' hE;have HE:=zh hE;clear hE;try simp only [Act.put,zs1,zs3,zs2]
  obtain ⟨B,hB,hM⟩:=HE.out.2.2 (by first | rfl | trivial);go_wp2_with fail
  go_at_call 35;refine (HSe.out _ _ _ HE.out.1 hB hM).mono ?_;rintro e4 w4 ⟨rfl,hb4⟩;have hM4:=hM.low (hb4.mono hB);have Hb4:=zh (show Below w9.heap.size w9 w4∧B≤w4.heap.size from ⟨HE.out.1.trans (hb4.mono HE.out.1.size),Nat.le_trans hB hb4.size⟩);have HM4:=zh hM4;clear hb4 hM4 hM hB;go_wp2;first | exact ⟨rfl,Hb4.out.1,fun h=>(by cases h),fun _=>⟨B,Hb4.out.2,HM4.out⟩⟩ | exact ⟨rfl,Hb4.out.1,B,Hb4.out.2,HM4.out⟩
 try simp only [Act.put,zs1,zs3,zs2]
 apply stepsSeq2.back
 ·rintro w' hE;have HE:=zh hE;clear hE;try simp only [Act.put,zs1,zs3,zs2]
  go_wp2;first | exact ⟨rfl,HE.out⟩ | exact ⟨rfl,HE.out.1,HE.out.2.2 rfl⟩ | exact ⟨rfl,HE.out.1,HE.out.2.2 trivial⟩
 try simp only [Act.put,zs1,zs3,zs2]
 apply stepsSeq2.back
 ·rintro w' hE;have HE:=zh hE;clear hE;try simp only [Act.put,zs1,zs3,zs2]
  go_wp2;first | exact ⟨rfl,HE.out⟩ | exact ⟨rfl,HE.out.1,HE.out.2.2 rfl⟩ | exact ⟨rfl,HE.out.1,HE.out.2.2 trivial⟩
 try simp only [Act.put,zs1,zs3,zs2]
 apply stepsSeq2.back
 ·rintro w' hE;have HE:=zh hE;clear hE;try simp only [Act.put,zs1,zs3,zs2]
  go_wp2;first | exact ⟨rfl,HE.out⟩ | exact ⟨rfl,HE.out.1,HE.out.2.2 rfl⟩ | exact ⟨rfl,HE.out.1,HE.out.2.2 trivial⟩
 try simp only [Act.put,zs1,zs3,zs2]
 apply stepsSeq2.back
 ·rintro w' hE;have HE:=zh hE;clear hE;try simp only [Act.put,zs1,zs3,zs2]
  go_wp2;first | exact ⟨rfl,HE.out⟩ | exact ⟨rfl,HE.out.1,HE.out.2.2 rfl⟩ | exact ⟨rfl,HE.out.1,HE.out.2.2 trivial⟩
 try simp only [Act.put,zs1,zs3,zs2]
 apply stepsSeq2.back
 ·rintro w' hE;have HE:=zh hE;clear hE;try simp only [Act.put,zs1,zs3,zs2]
  go_wp2;first | exact ⟨rfl,HE.out⟩ | exact ⟨rfl,HE.out.1,HE.out.2.2 rfl⟩ | exact ⟨rfl,HE.out.1,HE.out.2.2 trivial⟩
 try simp only [Act.put,zs1,zs3,zs2]
 apply stepsSeq2.back
 ·rintro w' hE;have HE:=zh hE;clear hE;try simp only [Act.put,zs1,zs3,zs2]
  go_wp2;first | exact ⟨rfl,HE.out⟩ | exact ⟨rfl,HE.out.1,HE.out.2.2 rfl⟩ | exact ⟨rfl,HE.out.1,HE.out.2.2 trivial⟩
 try simp only [Act.put,zs1,zs3,zs2]
 apply stepsSeq2.back
 ·rintro w' hE;have HE:=zh hE;clear hE;try simp only [Act.put,zs1,zs3,zs2]
  go_wp2;first | exact ⟨rfl,HE.out⟩ | exact ⟨rfl,HE.out.1,HE.out.2.2 rfl⟩ | exact ⟨rfl,HE.out.1,HE.out.2.2 trivial⟩
 try simp only [Act.put,zs1,zs3,zs2]
 apply stepsSeq2.back
 ·rintro w' hE;have HE:=zh hE;clear hE;try simp only [Act.put,zs1,zs3,zs2]
  go_wp2;first | exact ⟨rfl,HE.out⟩ | exact ⟨rfl,HE.out.1,HE.out.2.2 rfl⟩ | exact ⟨rfl,HE.out.1,HE.out.2.2 trivial⟩
 try simp only [Act.put,zs1,zs3,zs2]
 apply stepsSeq2.back
 ·rintro w' hE;have HE:=zh hE;clear hE;try simp only [Act.put,zs1,zs3,zs2]
  go_wp2;first | exact ⟨rfl,HE.out⟩ | exact ⟨rfl,HE.out.1,HE.out.2.2 rfl⟩ | exact ⟨rfl,HE.out.1,HE.out.2.2 trivial⟩
 try simp only [Act.put,zs1,zs3,zs2]
 apply stepsSeq2.back
 ·rintro w' hE;have HE:=zh hE;clear hE;try simp only [Act.put,zs1,zs3,zs2]
  go_wp2;first | exact ⟨rfl,HE.out⟩ | exact ⟨rfl,HE.out.1,HE.out.2.2 rfl⟩ | exact ⟨rfl,HE.out.1,HE.out.2.2 trivial⟩
 try simp only [Act.put,zs1,zs3,zs2]
 apply stepsSeq2.back
 ·rintro w' hE;have HE:=zh hE;clear hE;try simp only [Act.put,zs1,zs3,zs2]
  go_wp2;first | exact ⟨rfl,HE.out⟩ | exact ⟨rfl,HE.out.1,HE.out.2.2 rfl⟩ | exact ⟨rfl,HE.out.1,HE.out.2.2 trivial⟩
 try simp only [Act.put,zs1,zs3,zs2]
 apply stepsSeq2.back
 ·rintro w' hE;have HE:=zh hE;clear hE;try simp only [Act.put,zs1,zs3,zs2]
  go_wp2;first | exact ⟨rfl,HE.out⟩ | exact ⟨rfl,HE.out.1,HE.out.2.2 rfl⟩ | exact ⟨rfl,HE.out.1,HE.out.2.2 trivial⟩
 try simp only [Act.put,zs1,zs3,zs2]
 apply stepsSeq2.back
 ·rintro w' hE;have HE:=zh hE;clear hE;try simp only [Act.put,zs1,zs3,zs2]
  go_wp2;first | exact ⟨rfl,HE.out⟩ | exact ⟨rfl,HE.out.1,HE.out.2.2 rfl⟩ | exact ⟨rfl,HE.out.1,HE.out.2.2 trivial⟩
 try simp only [Act.put,zs1,zs3,zs2]
 apply stepsSeq2.back
 ·rintro w' hE;have HE:=zh hE;clear hE;try simp only [Act.put,zs1,zs3,zs2]
  go_wp2;first | exact ⟨rfl,HE.out⟩ | exact ⟨rfl,HE.out.1,HE.out.2.2 rfl⟩ | exact ⟨rfl,HE.out.1,HE.out.2.2 trivial⟩
 try simp only [Act.put,zs1,zs3,zs2]
 apply stepsSeq2.back
 ·rintro w' hE;have HE:=zh hE;clear hE;try simp only [Act.put,zs1,zs3,zs2]
  go_wp2;first | exact ⟨rfl,HE.out⟩ | exact ⟨rfl,HE.out.1,HE.out.2.2 rfl⟩ | exact ⟨rfl,HE.out.1,HE.out.2.2 trivial⟩
 try simp only [Act.put,zs1,zs3,zs2]
 apply stepsSeq2.back
 ·rintro w' hE;have HE:=zh hE;clear hE;try simp only [Act.put,zs1,zs3,zs2]
  go_wp2;first | exact ⟨rfl,HE.out⟩ | exact ⟨rfl,HE.out.1,HE.out.2.2 rfl⟩ | exact ⟨rfl,HE.out.1,HE.out.2.2 trivial⟩
 try simp only [Act.put,zs1,zs3,zs2]
 apply stepsSeq2.back
 ·rintro w' hE;have HE:=zh hE;clear hE;try simp only [Act.put,zs1,zs3,zs2]
  go_wp2;first | exact ⟨rfl,HE.out⟩ | exact ⟨rfl,HE.out.1,HE.out.2.2 rfl⟩ | exact ⟨rfl,HE.out.1,HE.out.2.2 trivial⟩
 try simp only [Act.put,zs1,zs3,zs2]
 apply stepsSeq2.back
 ·rintro w' hE;have HE:=zh hE;clear hE;try simp only [Act.put,zs1,zs3,zs2]
  go_wp2;first | exact ⟨rfl,HE.out⟩ | exact ⟨rfl,HE.out.1,HE.out.2.2 rfl⟩ | exact ⟨rfl,HE.out.1,HE.out.2.2 trivial⟩
 try simp only [Act.put,zs1,zs3,zs2]
 apply stepsSeq2.back
 ·rintro w' hE;have HE:=zh hE;clear hE;try simp only [Act.put,zs1,zs3,zs2]
  go_wp2;first | exact ⟨rfl,HE.out⟩ | exact ⟨rfl,HE.out.1,HE.out.2.2 rfl⟩ | exact ⟨rfl,HE.out.1,HE.out.2.2 trivial⟩
 try simp only [Act.put,zs1,zs3,zs2]
 apply stepsSeq2.back
 ·rintro w' hE;have HE:=zh hE;clear hE;try simp only [Act.put,zs1,zs3,zs2]
  go_wp2;first | exact ⟨rfl,HE.out⟩ | exact ⟨rfl,HE.out.1,HE.out.2.2 rfl⟩ | exact ⟨rfl,HE.out.1,HE.out.2.2 trivial⟩
 try simp only [Act.put,zs1,zs3,zs2]
 apply stepsSeq2.back
 ·rintro w' hE;have HE:=zh hE;clear hE;try simp only [Act.put,zs1,zs3,zs2]
  go_wp2;first | exact ⟨rfl,HE.out⟩ | exact ⟨rfl,HE.out.1,HE.out.2.2 rfl⟩ | exact ⟨rfl,HE.out.1,HE.out.2.2 trivial⟩
 try simp only [Act.put,zs1,zs3,zs2]
 apply stepsSeq2.back
 ·rintro w' hE;have HE:=zh hE;clear hE;try simp only [Act.put,zs1,zs3,zs2]
  go_wp2;first | exact ⟨rfl,HE.out⟩ | exact ⟨rfl,HE.out.1,HE.out.2.2 rfl⟩ | exact ⟨rfl,HE.out.1,HE.out.2.2 trivial⟩
 try simp only [Act.put,zs1,zs3,zs2]
 apply stepsSeq2.back
 ·rintro w' hE;have HE:=zh hE;clear hE;try simp only [Act.put,zs1,zs3,zs2]
  go_wp2;first | exact ⟨rfl,HE.out⟩ | exact ⟨rfl,HE.out.1,HE.out.2.2 rfl⟩ | exact ⟨rfl,HE.out.1,HE.out.2.2 trivial⟩
 try simp only [Act.put,zs1,zs3,zs2]
 apply stepsSeq2.back
 ·rintro w' hE;have HE:=zh hE;clear hE;try simp only [Act.put,zs1,zs3,zs2]
  go_wp2;first | exact ⟨rfl,HE.out⟩ | exact ⟨rfl,HE.out.1,HE.out.2.2 rfl⟩ | exact ⟨rfl,HE.out.1,HE.out.2.2 trivial⟩
 try simp only [Act.put,zs1,zs3,zs2]
 apply stepsSeq2.back
 ·rintro w' hE;have HE:=zh hE;clear hE;try simp only [Act.put,zs1,zs3,zs2]
  go_wp2;first | exact ⟨rfl,HE.out⟩ | exact ⟨rfl,HE.out.1,HE.out.2.2 rfl⟩ | exact ⟨rfl,HE.out.1,HE.out.2.2 trivial⟩
 try simp only [Act.put,zs1,zs3,zs2]
 apply stepsSeq2.back
 ·rintro w' hE;have HE:=zh hE;clear hE;try simp only [Act.put,zs1,zs3,zs2]
  go_wp2;first | exact ⟨rfl,HE.out⟩ | exact ⟨rfl,HE.out.1,HE.out.2.2 rfl⟩ | exact ⟨rfl,HE.out.1,HE.out.2.2 trivial⟩
 try simp only [Act.put,zs1,zs3,zs2]
 apply stepsSeq2.back
 ·rintro w' hE;have HE:=zh hE;clear hE;try simp only [Act.put,zs1,zs3,zs2]
  go_wp2;first | exact ⟨rfl,HE.out⟩ | exact ⟨rfl,HE.out.1,HE.out.2.2 rfl⟩ | exact ⟨rfl,HE.out.1,HE.out.2.2 trivial⟩
 try simp only [Act.put,zs1,zs3,zs2]
 apply stepsSeq2.back
 ·rintro w' hE;have HE:=zh hE;clear hE;try simp only [Act.put,zs1,zs3,zs2]
  go_wp2;first | exact ⟨rfl,HE.out⟩ | exact ⟨rfl,HE.out.1,HE.out.2.2 rfl⟩ | exact ⟨rfl,HE.out.1,HE.out.2.2 trivial⟩
 try simp only [Act.put,zs1,zs3,zs2]
 apply stepsSeq2.back
 ·rintro w' hE;have HE:=zh hE;clear hE;try simp only [Act.put,zs1,zs3,zs2]
  go_wp2;first | exact ⟨rfl,HE.out⟩ | exact ⟨rfl,HE.out.1,HE.out.2.2 rfl⟩ | exact ⟨rfl,HE.out.1,HE.out.2.2 trivial⟩
 try simp only [Act.put,zs1,zs3,zs2]
 apply stepsSeq2.back
 ·rintro w' hE;have HE:=zh hE;clear hE;try simp only [Act.put,zs1,zs3,zs2]
  go_wp2;first | exact ⟨rfl,HE.out⟩ | exact ⟨rfl,HE.out.1,HE.out.2.2 rfl⟩ | exact ⟨rfl,HE.out.1,HE.out.2.2 trivial⟩
 try simp only [Act.put,zs1,zs3,zs2]
 apply stepsSeq2.back
 ·rintro w' hE;have HE:=zh hE;clear hE;try simp only [Act.put,zs1,zs3,zs2]
  go_wp2;first | exact ⟨rfl,HE.out⟩ | exact ⟨rfl,HE.out.1,HE.out.2.2 rfl⟩ | exact ⟨rfl,HE.out.1,HE.out.2.2 trivial⟩
 try simp only [Act.put,zs1,zs3,zs2]
 apply stepsSeq2.back
 ·rintro w' hE;have HE:=zh hE;clear hE;try simp only [Act.put,zs1,zs3,zs2]
  go_wp2;first | exact ⟨rfl,HE.out⟩ | exact ⟨rfl,HE.out.1,HE.out.2.2 rfl⟩ | exact ⟨rfl,HE.out.1,HE.out.2.2 trivial⟩
 try simp only [Act.put,zs1,zs3,zs2]
 apply stepsSeq2.back
 ·rintro w' hE;have HE:=zh hE;clear hE;try simp only [Act.put,zs1,zs3,zs2]
  go_wp2;first | exact ⟨rfl,HE.out⟩ | exact ⟨rfl,HE.out.1,HE.out.2.2 rfl⟩ | exact ⟨rfl,HE.out.1,HE.out.2.2 trivial⟩
 try simp only [Act.put,zs1,zs3,zs2]
 apply stepsSeq2.back
 ·rintro w' hE;have HE:=zh hE;clear hE;try simp only [Act.put,zs1,zs3,zs2]
  go_wp2;first | exact ⟨rfl,HE.out⟩ | exact ⟨rfl,HE.out.1,HE.out.2.2 rfl⟩ | exact ⟨rfl,HE.out.1,HE.out.2.2 trivial⟩
 try simp only [Act.put,zs1,zs3,zs2]
 apply stepsSeq2.back
 ·rintro w' hE;have HE:=zh hE;clear hE;try simp only [Act.put,zs1,zs3,zs2]
  go_wp2;first | exact ⟨rfl,HE.out⟩ | exact ⟨rfl,HE.out.1,HE.out.2.2 rfl⟩ | exact ⟨rfl,HE.out.1,HE.out.2.2 trivial⟩
 try simp only [Act.put,zs1,zs3,zs2]
 apply stepsSeq2.back
 ·rintro w' hE;have HE:=zh hE;clear hE;try simp only [Act.put,zs1,zs3,zs2]
  obtain ⟨B,hB,hM⟩:=HE.out.2.2 (by first | rfl | trivial);go_wp2_with fail
  go_at_call 21;refine (HN0.out _).mono ?_;rintro e4 w4 ⟨rfl,hb4⟩;have hM4:=hM.low (hb4.mono hB);have Hb4:=zh (show Below w9.heap.size w9 w4∧B≤w4.heap.size from ⟨HE.out.1.trans (hb4.mono HE.out.1.size),Nat.le_trans hB hb4.size⟩);have HM4:=zh hM4;clear hb4 hM4 hM hB;go_wp2;first | exact ⟨rfl,Hb4.out.1,fun h=>(by cases h),fun _=>⟨B,Hb4.out.2,HM4.out⟩⟩ | exact ⟨rfl,Hb4.out.1,B,Hb4.out.2,HM4.out⟩
 try simp only [Act.put,zs1,zs3,zs2]
 apply stepsSeq2.back
 ·rintro w' hE;have HE:=zh hE;clear hE;try simp only [Act.put,zs1,zs3,zs2]
  go_wp2;first | exact ⟨rfl,HE.out⟩ | exact ⟨rfl,HE.out.1,HE.out.2.2 rfl⟩ | exact ⟨rfl,HE.out.1,HE.out.2.2 trivial⟩
 try simp only [Act.put,zs1,zs3,zs2]
 apply stepsSeq2.back
 ·rintro w' hE;have HE:=zh hE;clear hE;try simp only [Act.put,zs1,zs3,zs2]
  go_wp2;first | exact ⟨rfl,HE.out⟩ | exact ⟨rfl,HE.out.1,HE.out.2.2 rfl⟩ | exact ⟨rfl,HE.out.1,HE.out.2.2 trivial⟩
 try simp only [Act.put,zs1,zs3,zs2]
 apply stepsSeq2.back
 ·rintro w' hE;have HE:=zh hE;clear hE;try simp only [Act.put,zs1,zs3,zs2]
  obtain ⟨B,hB,hM⟩:=HE.out.2.2 (by first | rfl | trivial);go_wp2_with fail
  go_at_call 21;refine (HN1.out _).mono ?_;rintro e4 w4 ⟨rfl,hb4⟩;have hM4:=hM.low (hb4.mono hB);have Hb4:=zh (show Below w9.heap.size w9 w4∧B≤w4.heap.size from ⟨HE.out.1.trans (hb4.mono HE.out.1.size),Nat.le_trans hB hb4.size⟩);have HM4:=zh hM4;clear hb4 hM4 hM hB;go_wp2;first | exact ⟨rfl,Hb4.out.1,fun h=>(by cases h),fun _=>⟨B,Hb4.out.2,HM4.out⟩⟩ | exact ⟨rfl,Hb4.out.1,B,Hb4.out.2,HM4.out⟩
 try simp only [Act.put,zs1,zs3,zs2]
 apply stepsSeq2.back
 ·rintro w' hE;have HE:=zh hE;clear hE;try simp only [Act.put,zs1,zs3,zs2]
  go_wp2;first | exact ⟨rfl,HE.out⟩ | exact ⟨rfl,HE.out.1,HE.out.2.2 rfl⟩ | exact ⟨rfl,HE.out.1,HE.out.2.2 trivial⟩
 try simp only [Act.put,zs1,zs3,zs2]
 apply stepsSeq2.back
 ·rintro w' hE;have HE:=zh hE;clear hE;try simp only [Act.put,zs1,zs3,zs2]
  go_wp2;first | exact ⟨rfl,HE.out⟩ | exact ⟨rfl,HE.out.1,HE.out.2.2 rfl⟩ | exact ⟨rfl,HE.out.1,HE.out.2.2 trivial⟩
 try simp only [Act.put,zs1,zs3,zs2]
 apply stepsSeq2.back
 ·rintro w' hE;have HE:=zh hE;clear hE;try simp only [Act.put,zs1,zs3,zs2]
  go_wp2;first | exact ⟨rfl,HE.out⟩ | exact ⟨rfl,HE.out.1,HE.out.2.2 rfl⟩ | exact ⟨rfl,HE.out.1,HE.out.2.2 trivial⟩
 try simp only [Act.put,zs1,zs3,zs2]
 apply stepsSeq2.back
 ·rintro w' hE;have HE:=zh hE;clear hE;try simp only [Act.put,zs1,zs3,zs2]
  obtain ⟨B,hB,hM⟩:=HE.out.2.2 (by first | rfl | trivial);go_wp2_with fail
  go_at_call 23;refine (HKd.out _).mono ?_;rintro e4 w4 ⟨rfl,hb4⟩;have hM4:=hM.low (hb4.mono hB);have Hb4:=zh (show Below w9.heap.size w9 w4∧B≤w4.heap.size from ⟨HE.out.1.trans (hb4.mono HE.out.1.size),Nat.le_trans hB hb4.size⟩);have HM4:=zh hM4;clear hb4 hM4 hM hB;go_wp2;first | exact ⟨rfl,Hb4.out.1,fun h=>(by cases h),fun _=>⟨B,Hb4.out.2,HM4.out⟩⟩ | exact ⟨rfl,Hb4.out.1,B,Hb4.out.2,HM4.out⟩
 try simp only [Act.put,zs1,zs3,zs2]
 apply stepsSeq2.back
 ·rintro w' hE;have HE:=zh hE;clear hE;try simp only [Act.put,zs1,zs3,zs2]
  go_wp2;first | exact ⟨rfl,HE.out⟩ | exact ⟨rfl,HE.out.1,HE.out.2.2 rfl⟩ | exact ⟨rfl,HE.out.1,HE.out.2.2 trivial⟩
 try simp only [Act.put,zs1,zs3,zs2]
 apply stepsSeq2.back
 ·rintro w' hE;have HE:=zh hE;clear hE;try simp only [Act.put,zs1,zs3,zs2]
  go_wp2;first | exact ⟨rfl,HE.out⟩ | exact ⟨rfl,HE.out.1,HE.out.2.2 rfl⟩ | exact ⟨rfl,HE.out.1,HE.out.2.2 trivial⟩
 try simp only [Act.put,zs1,zs3,zs2]
 apply stepsSeq2.back
 ·rintro w' hE;have HE:=zh hE;clear hE;try simp only [Act.put,zs1,zs3,zs2]
  go_wp2;first | exact ⟨rfl,HE.out⟩ | exact ⟨rfl,HE.out.1,HE.out.2.2 rfl⟩ | exact ⟨rfl,HE.out.1,HE.out.2.2 trivial⟩
 try simp only [Act.put,zs1,zs3,zs2]
 apply stepsSeq2.back
 ·rintro w' hE;have HE:=zh hE;clear hE;try simp only [Act.put,zs1,zs3,zs2]
  go_wp2;first | exact ⟨rfl,HE.out⟩ | exact ⟨rfl,HE.out.1,HE.out.2.2 rfl⟩ | exact ⟨rfl,HE.out.1,HE.out.2.2 trivial⟩
 try simp only [Act.put,zs1,zs3,zs2]
 apply stepsSeq2.back
 ·rintro w' hE;have HE:=zh hE;clear hE;try simp only [Act.put,zs1,zs3,zs2]
  obtain ⟨B,hB,hM⟩:=HE.out.2.2 (by first | rfl | trivial);go_wp2_with fail
  go_at_call 30;refine (HPr.out _ HE.out.1).mono ?_;rintro e4 w4 ⟨rfl,hb4⟩;have hM4:=hM.low (hb4.mono hB);have Hb4:=zh (show Below w9.heap.size w9 w4∧B≤w4.heap.size from ⟨HE.out.1.trans (hb4.mono HE.out.1.size),Nat.le_trans hB hb4.size⟩);have HM4:=zh hM4;clear hb4 hM4 hM hB;go_wp2;first | exact ⟨rfl,Hb4.out.1,fun h=>(by cases h),fun _=>⟨B,Hb4.out.2,HM4.out⟩⟩ | exact ⟨rfl,Hb4.out.1,B,Hb4.out.2,HM4.out⟩
 try simp only [Act.put,zs1,zs3,zs2]
 apply stepsSeq2.back
 ·rintro w' hE;have HE:=zh hE;clear hE;try simp only [Act.put,zs1,zs3,zs2]
  go_wp2;first | exact ⟨rfl,HE.out⟩ | exact ⟨rfl,HE.out.1,HE.out.2.2 rfl⟩ | exact ⟨rfl,HE.out.1,HE.out.2.2 trivial⟩
 try simp only [Act.put,zs1,zs3,zs2]
 refine stepsSeq2.nil ?_;rintro w10 ⟨hb10,-,-⟩;have Hbc:=zh (Hb9.out.trans (hb10.mono Hb9.out.size));clear hb10 x0 x1 x2 x3;try simp only [Act.put,zs1,zs3,zs2]
 go_wp2_with fail
 exact bodyPost_ret (v:=.bool true) (by simp [results,Tryz.results15,go_sem]) rfl ⟨rfl,Hbc.out⟩
end Go.Proofs.YtoaojdobjinhfaaGreatDoor
