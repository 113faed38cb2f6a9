/- marchesref13.expr, walked: 'and', 'or'. -/
import Derived.Test.YtdeneckmoejcfaaRExprBK
import Derived.Test.YtdeneckmoejcfaaRegionK
import Derived.Deep.RegionHeld3
set_option linter.unusedSimpArgs false
set_option linter.unusedVariables false
namespace Go.Proofs.Ytdeneckmoejcfaa
open Go.RowKit

theorem jOk_ltail {b:Code1} (hb:jOk b) {iop last:Int}:jOk (⟨iop,b.length+3⟩ :: (shiftC 1 b++[⟨10,0⟩,⟨11,b.length+4⟩,⟨1,last⟩])):=by
  intro i hi hj
  simp only [List.length_cons,List.length_append,shiftC_len,List.length_nil]
  rcases List.mem_cons.1 hi with rfl | hi
  · show 0≤(b.length:Int)+3∧(b.length:Int)+3≤_
    omega
  · rcases List.mem_append.1 hi with hi | hi
    · exact jOk_shift (k:=1) hb (by omega) i hi hj
    · simp only [List.mem_cons,List.not_mem_nil,or_false] at hi
      rcases hi with rfl | rfl | rfl
      · cases hj
      · show 0≤(b.length:Int)+4∧(b.length:Int)+4≤_
        omega
      · cases hj
set_option maxRecDepth 100000 in
set_option maxHeartbeats 2000000 in
theorem rexpr_c21 (d:Nat) (ih:∀ (op n:Int) (name:List UInt8) (args:List Ex) (v:Value) (w:World) (B:Nat) (ns:Names) (vn:Value),fineS d (.mk op n name args)=true→okE (.mk op n name args)→szE (.mk op n name args)≤100000→EsL w B args v→B≤w.heap.size→Strs w ns vn→ns.length≤1000000→Calls Try.prog 70 #[.agg #[.int .u8 op,.int .i64 n,.string (bstr name),v],vn] w fun e w'=>ExprCR w w' e (codeE ns (.mk op n name args))∧Below w.heap.size w w')
    (n:Int) (name:List UInt8) (args:List Ex) (v:Value) (w:World) (B:Nat) (ns:Names) (vn:Value) (hf:fineS (d+1) (.mk 21 n name args)=true) (hok:okE (.mk 21 n name args)) (hsz:szE (.mk 21 n name args)≤100000) (hL:EsL w B args v) (hB:B≤w.heap.size) (hS:Strs w ns vn) (hns:ns.length≤1000000) :
    Calls Try.prog 70 #[.agg #[.int .u8 21,.int .i64 n,.string (bstr name),v],vn] w fun e w'=>ExprCR w w' e (codeE ns (.mk 21 n name args))∧Below w.heap.size w w':=by
  obtain ⟨a,cap,rfl,hcc1,hcc2⟩:=hL.form
  obtain ⟨an,capn,rfl,hcn1,hcn2⟩:=Sl.form hS
  have Hih:=Lib.hid ih
  have HL:=Lib.hid hL
  have HS:=Lib.hid hS
  obtain ⟨-,-,-,hoks⟩:=hok
  have Hoks:=Lib.hid hoks
  rw [fineS,Bool.and_eq_true] at hf
  obtain ⟨hh,hall⟩:=hf
  have Hall:=Lib.hid hall
  have hsz2:szEs args≤100000:=by rw [szE] at hsz;omega
  obtain ⟨W1,hW1,hX1,hb1⟩:∃ W1,W1=w.alloc (.cells #[.int .u8 21,.int .i64 n,.string (bstr name),.slice a args.length cap] 65)∧OwnV W1 w.heap.size 65 [.int .u8 21,.int .i64 n,.string (bstr name),.slice a args.length cap]∧Below w.heap.size w W1:=⟨_,rfl,OwnV.new _ _ _,(Below.refl _ _).alloc (Nat.le_refl _) _⟩
  have Hb1:=Lib.hid hb1
  have HX1:=Lib.hid hX1
  have x0:=hX1.cell (i:=0) rfl
  have x3:=hX1.cell (i:=3) rfl
  have HW1:=Lib.hid hW1
  have hs1:=hb1.size
  have HOne:Hid (∀ (op a:Int) (W:World),_):=Lib.hid (fun (op a:Int) (W:World)=>one_any op a W)
  have hl:args.length=2:=(headE_len hh).1.trans (by rfl)
  have h0:0 < args.length:=by omega
  have h0i:(0:Int) < (args.length:Int):=by omega
  have hl1:((args.length:Int) == 1)=false:=by rw [hl];rfl
  obtain ⟨b,off,op1,n1,name1,args1,aa,ac,rfl,hbB,hbw,hat,c0',c1',c2',c3',hL1⟩:=hL.at h0
  rw [Nat.zero_mul,Nat.add_zero] at c0' c1' c2' c3'
  have c0:=Below.keep hb1 c0'
  have c1:=Below.keep hb1 c1'
  have c2:=Below.keep hb1 c2'
  have c3:=Below.keep hb1 c3'
  have hsz3:szE (.mk op1 n1 name1 args1)≤100000:=Nat.le_trans (szEs_le hat) hsz2
  have h1:1 < args.length:=by omega
  have h1i:(1:Int) < (args.length:Int):=by omega
  obtain ⟨b',off',op2,n2,name2,args2,ab,ac2,he',hbB',hbw',hat',d0',d1',d2',d3',hL2⟩:=hL.at h1
  cases he'
  rw [Nat.one_mul] at d0' d1' d2' d3'
  have hsz4:szE (.mk op2 n2 name2 args2)≤100000:=Nat.le_trans (szEs_le hat') hsz2
  have HD0:=Lib.hid d0'
  have HD1:=Lib.hid d1'
  have HD2:=Lib.hid d2'
  have HD3:=Lib.hid d3'
  have Hc:Hid (codeE ns (.mk 21 n name args)=(codeE ns (.mk op1 n1 name1 args1)).andThen fun a=>(codeE ns (.mk op2 n2 name2 args2)).andThen fun b=>.ok (joinC a (⟨12,b.length+3⟩ :: (shiftC 1 b++[⟨10,0⟩,⟨11,b.length+4⟩,⟨1,0⟩])))):=Lib.hid (by
    have e:args=[.mk op1 n1 name1 args1,.mk op2 n2 name2 args2]:=by
      match args,hl,hat,hat' with
      | [xa,xb],_,h,h'=>simpa using And.intro h h'
    rw [e,code_two ns _ n name _ _ (by omega)];rfl)
  have HE2:Hid (∀ W:World,Below w.heap.size w W→Calls Try.prog 70 #[.agg #[.int .u8 op2,.int .i64 n2,.string (bstr name2),.slice ab args2.length ac2],.slice an ns.length capn] W _):=Lib.hid (fun W hb=>Hih.out op2 n2 name2 args2 _ W B ns _ (by rw [List.all_eq_true] at hall;exact hall _ (List.mem_of_getElem? hat')) (okEs_at Hoks.out hat') hsz4 (hL2.low (hb.mono hB)) (Nat.le_trans hB hb.size) (HS.out.below hb) hns)
  have Hk2:Hid (∀ k,codeE ns (.mk op2 n2 name2 args2)=.err k→k=131):=Lib.hid (fun k h=>codeE_err ns _ k h)
  have Hok2:Hid (∀ c,codeE ns (.mk op2 n2 name2 args2)=.ok c→jOk c∧c.length≤400000):=Lib.hid (fun c h=>by
    obtain ⟨h1,h2⟩:=codeE_ok ns _ c h
    exact ⟨h1,by omega⟩)
  generalize codeE ns (.mk op2 n2 name2 args2)=R2 at *
  have HE1:Hid (∀ W:World,Below w.heap.size w W→Calls Try.prog 70 #[.agg #[.int .u8 op1,.int .i64 n1,.string (bstr name1),.slice aa args1.length ac],.slice an ns.length capn] W _):=Lib.hid (fun W hb=>Hih.out op1 n1 name1 args1 _ W B ns _ (by rw [List.all_eq_true] at hall;exact hall _ (List.mem_of_getElem? hat)) (okEs_at Hoks.out hat) hsz3 (hL1.low (hb.mono hB)) (Nat.le_trans hB hb.size) (HS.out.below hb) hns)
  have Hk:Hid (∀ k,codeE ns (.mk op1 n1 name1 args1)=.err k→k=131):=Lib.hid (fun k h=>codeE_err ns _ k h)
  have Hok:Hid (∀ c,codeE ns (.mk op1 n1 name1 args1)=.ok c→jOk c∧c.length≤400000):=Lib.hid (fun c h=>by
    obtain ⟨h1,h2⟩:=codeE_ok ns _ c h
    exact ⟨h1,by omega⟩)
  generalize codeE ns (.mk op1 n1 name1 args1)=R1 at *
  generalize codeE ns (.mk 21 n name args)=R at *
  clear c0' c1' c2' c3'
  clear d0' d1' d2' d3' ih hL hS hoks hall hb1 hbB' hbw' hat' hL2 hbB hbw hat hL1 hl hX1 hW1
  go_enter Try.func70,Try.ntmps70
  go_upto_region 1 with (fail)
  rw [← HW1.out]
  go_wp2_with fail
  refine (HE1.out _ Hb1.out).mono ?_
  rintro e2 w2 ⟨he2,hb2⟩
  have HX2:=Lib.hid (HX1.out.below hb2 (Nat.le_refl _))
  have Hb2:=Lib.hid (Hb1.out.trans (hb2.mono hs1))
  have hs2:w.heap.size≤w2.heap.size:=Nat.le_trans hs1 hb2.size
  clear hb2 c0 c1 c2 c3 x0 x3
  cases R1 with
  | err k =>
    obtain rfl:=he2
    obtain rfl:k=131:=Hk.out k rfl
    have Hc2:Hid (R=.err 131):=Lib.hid (by rw [Hc.out];rfl)
    go_wp2_with fail
    exact bodyPost_ret (v:=.tuple #[.slice none 0 0,.int .i64 131]) (by simp [results,Try.results70,go_sem]) rfl ⟨by rw [Hc2.out];rfl,Hb2.out⟩
  | ok ca =>
    obtain ⟨v2,rfl,hO2⟩:=he2
    obtain ⟨hjo,hcl⟩:=Hok.out ca rfl
    have HO2:=Lib.hid hO2
    have Hjo:=Lib.hid hjo
    have d0:=Below.keep Hb2.out HD0.out
    have d1:=Below.keep Hb2.out HD1.out
    have d2:=Below.keep Hb2.out HD2.out
    have d3:=Below.keep Hb2.out HD3.out
    have x0:=HX2.out.cell (i:=0) rfl
    have x3:=HX2.out.cell (i:=3) rfl
    clear hO2 hjo Hok
    go_wp2_with fail
    refine (HE2.out _ Hb2.out).mono ?_
    rintro e3 w3 ⟨he3,hb3⟩
    have HX3:=Lib.hid (HX2.out.below hb3 (Nat.le_refl _))
    have HO3a:=Lib.hid (HO2.out.below hb3)
    have Hb3:=Lib.hid (Hb2.out.trans (hb3.mono hs2))
    have hs3:w.heap.size≤w3.heap.size:=Nat.le_trans hs2 hb3.size
    clear hb3 d0 d1 d2 d3 x0 x3
    cases R2 with
    | err k =>
      obtain rfl:=he3
      obtain rfl:k=131:=Hk2.out k rfl
      have Hc2:Hid (R=.err 131):=Lib.hid (by rw [Hc.out];rfl)
      go_wp2_with fail
      exact bodyPost_ret (v:=.tuple #[.slice none 0 0,.int .i64 131]) (by simp [results,Try.results70,go_sem]) rfl ⟨by rw [Hc2.out];rfl,Hb3.out⟩
    | ok cb =>
      obtain ⟨v3,rfl,hO3⟩:=he3
      obtain ⟨hjo2,hcl2⟩:=Hok2.out cb rfl
      have HO3:=Lib.hid hO3
      have Hjo2:=Lib.hid hjo2
      clear hO3 hjo2 Hok2
      have Hc2:Hid (R=.ok (joinC ca (⟨12,cb.length+3⟩ :: (shiftC 1 cb++[⟨10,0⟩,⟨11,cb.length+4⟩,⟨1,0⟩])))):=Lib.hid Hc.out
      have x0:=HX3.out.cell (i:=0) rfl
      have hcb:(cb.length:Int)≤400000:=by omega
      have hcb0:(0:Int)≤(cb.length:Int):=by omega
      have hsl3:=HO3.out.sl
      obtain ⟨b3,cp3,rfl,hcp3,hcp32⟩:=Sl.form hsl3
      have HS3:=Lib.hid hsl3
      clear Hc hsl3
      go_wp2_with fail
      refine (HOne.out _ _ _).mono ?_
      rintro e5 w5 ⟨⟨v5,rfl,hO5⟩,hb5⟩
      have hO5':w5.ownsRow w3.heap.size 47 2 v5 (1+0) (cellsC [⟨12,cb.length+3⟩]++cellsC (shiftC 1 (cb.take 0))):=by
        rw [List.take_zero,show cellsC (shiftC 1 [])=[] from rfl,List.append_nil]
        exact hO5
      have Hb5:=Lib.hid hb5
      have HX5:=Lib.hid (HX3.out.below hb5 (Nat.le_refl _))
      clear hb5 hO5 x0
      go_wp2_with fail
      go_loopw [10,11,12,111,112,113,114,115,116,117,118,119,120,121,122,123,124,125,126,127,128,129] (fun t10 t11 _ _ _ _ _ _ _ _ _ _ _ _ _ _ _ _ _ _ _ _ wr=>∃ (k:Nat),k≤cb.length∧t11=.int .i64 k∧wr.ownsRow w3.heap.size 47 2 t10 (1+k) (cellsC [⟨12,cb.length+3⟩]++cellsC (shiftC 1 (cb.take k)))∧Hid (Below w3.heap.size w3 wr)) (fun _ t11 _ _ _ _ _ _ _ _ _ _ _ _ _ _ _ _ _ _ _ _ _=>cb.length - (intOf t11).toNat)
      case atStart=>exact ⟨0,by omega,by first | rfl | go_num,hO5',Lib.hid Hb5.out⟩
      case round =>
        obtain ⟨k,hk,rfl,hown,Hb⟩:=hrel
        have hszr:=Hb.out.size
        by_cases hkl:k < cb.length
        · have hki:(k:Int) < (cb.length:Int):=by omega
          obtain ⟨bb,off2,rfl,hbw,c0,c1⟩:=(HS3.out.below Hb.out).at hkl
          have Hst:=Lib.hid (shiftC_take hkl 1)
          have Hjk:=Lib.hid (Hjo2.out cb[k] (List.getElem_mem hkl))
          have HJ:=Lib.hid (jumps_any cb[k].op cb[k].a (wr.alloc (.cells #[.int .u8 cb[k].op,.int .i64 cb[k].a] 47)))
          have hY1:=OwnV.new wr 47 [.int .u8 cb[k].op,.int .i64 cb[k].a]
          have HY1:=Lib.hid hY1
          obtain ⟨iop,x,he⟩:∃ op x,cb[k]=⟨op,x⟩:=⟨_,_,rfl⟩
          have Hsh:Hid (shiftI 1 ⟨iop,x⟩=if jumpB ⟨iop,x⟩=true then ⟨iop,x+1⟩ else ⟨iop,x⟩):=Lib.hid rfl
          rw [he] at Hst Hjk HJ HY1 c0 c1
          obtain ⟨q,hq⟩:∃ q,jumpB ⟨iop,x⟩=q:=⟨_,rfl⟩
          rw [hq] at HJ Hsh Hjk
          have hltv:∀ g,u10.ownBlock=some g→g < wr.heap.size:=fun g hg=>(hown.lt g hg).2
          clear hY1 he hq
          go_wp2_with fail
          refine HJ.out.mono ?_
          rintro e6 w6 ⟨rfl,hb6⟩
          have HY2:=Lib.hid (HY1.out.below hb6 (Nat.le_refl _))
          have hown2:=own_below (hown.alloc (.cells #[.int .u8 iop,.int .i64 x] 47)) hb6 (Nat.le_refl _)
          have Hb6:=Lib.hid ((Hb.out.alloc hszr (.cells #[.int .u8 iop,.int .i64 x] 47)).trans (hb6.mono (by simp;omega)))
          have hlt2:wr.heap.size < w6.heap.size:=HY2.out.lt
          have y0:=HY2.out.cell (i:=0) rfl
          have y1:=HY2.out.cell (i:=1) rfl
          have yf:=HY2.out.free
          clear hb6 c0 c1
          cases q with
          | true =>
            obtain ⟨hj0,hj1⟩:=Hjk.out rfl
            have Hst2:Hid (shiftC 1 (cb.take (k+1))=shiftC 1 (cb.take k)++[⟨iop,x+1⟩]):=Lib.hid (by rw [Hst.out,Hsh.out,if_pos rfl])
            obtain ⟨W7,hW7,hown7,hb7⟩:∃ W7,W7=w6.setCell ⟨wr.heap.size,1,none⟩ (.int .i64 (x+1))∧W7.ownsRow w3.heap.size 47 2 u10 (1+k) (cellsC [⟨12,cb.length+3⟩]++cellsC (shiftC 1 (cb.take k)))∧Below w3.heap.size w3 W7:=⟨_,rfl,own_set_ne hown2 (fun g hg e=>by have:=hltv g hg;omega) _ _,Hb6.out.setCell (by show w3.heap.size≤wr.heap.size;exact hszr) _⟩
            have hOx:OwnV W7 wr.heap.size 47 [.int .u8 iop,.int .i64 (x+1)]:=by rw [hW7];exact HY2.out.set 1 _
            have Hb7:=Lib.hid hb7
            have HW7:=Lib.hid hW7
            have hs7:=hb7.size
            clear hb7 hW7 hown2
            go_upto_region 34 with (fail)
            rw [← HW7.out]
            have z0:=hOx.cell (i:=0) rfl
            have z1:=hOx.cell (i:=1) rfl
            go_wp2_with (at_builtin;refine wpList_append_at rfl (.tmp 126) (.tmp 128) 38 rfl hown7 info_rins Try.underlying38 rfl (by decide) rfl 1 1 rfl rfl rfl (by unfold maxLen;omega) (by omega) hs7 ?_;intro v' w8 hown8 hg8 hb8 hat8)
            go_roundw
            case rel=>exact ⟨k+1,by omega,by go_num,by rw [Hst2.out,cellsC_app,← List.append_assoc];exact hown8,Lib.hid (Hb7.out.trans hb8)⟩
            case measure=>simp [intOf];omega
          | false =>
            have Hst2:Hid (shiftC 1 (cb.take (k+1))=shiftC 1 (cb.take k)++[⟨iop,x⟩]):=Lib.hid (by rw [Hst.out,Hsh.out,if_neg (by decide)])
            have hs7:=Hb6.out.size
            go_wp2_with (at_builtin;refine wpList_append_at rfl (.tmp 126) (.tmp 128) 38 rfl hown2 info_rins Try.underlying38 rfl (by decide) rfl 1 1 rfl rfl rfl (by unfold maxLen;omega) (by omega) hs7 ?_;intro v' w8 hown8 hg8 hb8 hat8)
            go_roundw
            case rel=>exact ⟨k+1,by omega,by go_num,by rw [Hst2.out,cellsC_app,← List.append_assoc];exact hown8,Lib.hid (Hb6.out.trans hb8)⟩
            case measure=>simp [intOf];omega
        · have hki:¬ (k:Int) < (cb.length:Int):=by omega
          have hke:k=cb.length:=by omega
          have x0:=(HX3.out.below Hb.out (Nat.le_refl _)).cell (i:=0) rfl
          have hk4:(cb.length:Int)+4≤1000000:=by omega
          go_wp2_with (at_builtin;refine wpList_append_at rfl (.tmp 130) (.tmp 140) 38 rfl hown info_rins Try.underlying38 rfl (by decide) rfl 3 3 rfl rfl rfl (by unfold maxLen;omega) (by omega) hszr ?_;intro v' w8 hown8 hg8 hb8 hat8)
          have HT:Hid (SlC w8 (⟨12,cb.length+3⟩ :: (shiftC 1 cb++[⟨10,0⟩,⟨11,cb.length+4⟩,⟨1,0⟩])) v'):=Lib.hid (by
            have h:=Sl.of_own hown8
            rw [hke,List.take_length] at h
            have e:(⟨12,cb.length+3⟩ :: (shiftC 1 cb++[⟨10,0⟩,⟨11,cb.length+4⟩,⟨1,0⟩]):Code1)=[⟨12,cb.length+3⟩]++shiftC 1 cb++[⟨10,0⟩,⟨11,cb.length+4⟩,⟨1,0⟩]:=by simp
            have l:([⟨12,cb.length+3⟩]++shiftC 1 cb++[⟨10,0⟩,⟨11,cb.length+4⟩,⟨1,0⟩]:Code1).length=1+cb.length+3:=by simp [shiftC_len];omega
            unfold SlC
            rw [e,l,cellsC_app,cellsC_app]
            exact h)
          have Hb8:=Lib.hid (Hb3.out.trans ((Hb.out.trans hb8).mono hs3))
          have hb38:=Hb.out.trans hb8
          have hs8:w.heap.size≤w8.heap.size:=Nat.le_trans hs3 hb38.size
          have HJ:=Lib.hid (join_any ca _ v2 v' w8 (HO3a.out.sl.below hb38) HT.out (by omega) (by simp only [List.length_cons,List.length_append,shiftC_len,List.length_nil];omega) (jOk_small (jOk_ltail Hjo2.out) (by simp only [List.length_cons,List.length_append,shiftC_len,List.length_nil];omega)))
          clear hown hown8 hg8 hb8 hat8 hb38 x0
          go_wp2_with fail
          refine HJ.out.mono ?_
          rintro e9 w9 ⟨⟨v9,rfl,hO9⟩,hb9⟩
          have HO9:=Lib.hid (own_mono' hO9 hs8)
          have Hb9:=Lib.hid (Hb8.out.trans (hb9.mono hs8))
          clear hO9 hb9
          go_wp2_with fail
          exact bodyPost_ret (v:=.tuple #[v9,.int .i64 0]) (by simp [results,Try.results70,go_sem]) rfl ⟨by rw [Hc2.out];exact ⟨_,rfl,HO9.out⟩,Hb9.out⟩
set_option maxRecDepth 100000 in
set_option maxHeartbeats 2000000 in
theorem rexpr_c22 (d:Nat) (ih:∀ (op n:Int) (name:List UInt8) (args:List Ex) (v:Value) (w:World) (B:Nat) (ns:Names) (vn:Value),fineS d (.mk op n name args)=true→okE (.mk op n name args)→szE (.mk op n name args)≤100000→EsL w B args v→B≤w.heap.size→Strs w ns vn→ns.length≤1000000→Calls Try.prog 70 #[.agg #[.int .u8 op,.int .i64 n,.string (bstr name),v],vn] w fun e w'=>ExprCR w w' e (codeE ns (.mk op n name args))∧Below w.heap.size w w')
    (n:Int) (name:List UInt8) (args:List Ex) (v:Value) (w:World) (B:Nat) (ns:Names) (vn:Value) (hf:fineS (d+1) (.mk 22 n name args)=true) (hok:okE (.mk 22 n name args)) (hsz:szE (.mk 22 n name args)≤100000) (hL:EsL w B args v) (hB:B≤w.heap.size) (hS:Strs w ns vn) (hns:ns.length≤1000000) :
    Calls Try.prog 70 #[.agg #[.int .u8 22,.int .i64 n,.string (bstr name),v],vn] w fun e w'=>ExprCR w w' e (codeE ns (.mk 22 n name args))∧Below w.heap.size w w':=by
  obtain ⟨a,cap,rfl,hcc1,hcc2⟩:=hL.form
  obtain ⟨an,capn,rfl,hcn1,hcn2⟩:=Sl.form hS
  have Hih:=Lib.hid ih
  have HL:=Lib.hid hL
  have HS:=Lib.hid hS
  obtain ⟨-,-,-,hoks⟩:=hok
  have Hoks:=Lib.hid hoks
  rw [fineS,Bool.and_eq_true] at hf
  obtain ⟨hh,hall⟩:=hf
  have Hall:=Lib.hid hall
  have hsz2:szEs args≤100000:=by rw [szE] at hsz;omega
  obtain ⟨W1,hW1,hX1,hb1⟩:∃ W1,W1=w.alloc (.cells #[.int .u8 22,.int .i64 n,.string (bstr name),.slice a args.length cap] 65)∧OwnV W1 w.heap.size 65 [.int .u8 22,.int .i64 n,.string (bstr name),.slice a args.length cap]∧Below w.heap.size w W1:=⟨_,rfl,OwnV.new _ _ _,(Below.refl _ _).alloc (Nat.le_refl _) _⟩
  have Hb1:=Lib.hid hb1
  have HX1:=Lib.hid hX1
  have x0:=hX1.cell (i:=0) rfl
  have x3:=hX1.cell (i:=3) rfl
  have HW1:=Lib.hid hW1
  have hs1:=hb1.size
  have HOne:Hid (∀ (op a:Int) (W:World),_):=Lib.hid (fun (op a:Int) (W:World)=>one_any op a W)
  have hl:args.length=2:=(headE_len hh).1.trans (by rfl)
  have h0:0 < args.length:=by omega
  have h0i:(0:Int) < (args.length:Int):=by omega
  have hl1:((args.length:Int) == 1)=false:=by rw [hl];rfl
  obtain ⟨b,off,op1,n1,name1,args1,aa,ac,rfl,hbB,hbw,hat,c0',c1',c2',c3',hL1⟩:=hL.at h0
  rw [Nat.zero_mul,Nat.add_zero] at c0' c1' c2' c3'
  have c0:=Below.keep hb1 c0'
  have c1:=Below.keep hb1 c1'
  have c2:=Below.keep hb1 c2'
  have c3:=Below.keep hb1 c3'
  have hsz3:szE (.mk op1 n1 name1 args1)≤100000:=Nat.le_trans (szEs_le hat) hsz2
  have h1:1 < args.length:=by omega
  have h1i:(1:Int) < (args.length:Int):=by omega
  obtain ⟨b',off',op2,n2,name2,args2,ab,ac2,he',hbB',hbw',hat',d0',d1',d2',d3',hL2⟩:=hL.at h1
  cases he'
  rw [Nat.one_mul] at d0' d1' d2' d3'
  have hsz4:szE (.mk op2 n2 name2 args2)≤100000:=Nat.le_trans (szEs_le hat') hsz2
  have HD0:=Lib.hid d0'
  have HD1:=Lib.hid d1'
  have HD2:=Lib.hid d2'
  have HD3:=Lib.hid d3'
  have Hc:Hid (codeE ns (.mk 22 n name args)=(codeE ns (.mk op1 n1 name1 args1)).andThen fun a=>(codeE ns (.mk op2 n2 name2 args2)).andThen fun b=>.ok (joinC a (⟨13,b.length+3⟩ :: (shiftC 1 b++[⟨10,0⟩,⟨11,b.length+4⟩,⟨1,1⟩])))):=Lib.hid (by
    have e:args=[.mk op1 n1 name1 args1,.mk op2 n2 name2 args2]:=by
      match args,hl,hat,hat' with
      | [xa,xb],_,h,h'=>simpa using And.intro h h'
    rw [e,code_two ns _ n name _ _ (by omega)];rfl)
  have HE2:Hid (∀ W:World,Below w.heap.size w W→Calls Try.prog 70 #[.agg #[.int .u8 op2,.int .i64 n2,.string (bstr name2),.slice ab args2.length ac2],.slice an ns.length capn] W _):=Lib.hid (fun W hb=>Hih.out op2 n2 name2 args2 _ W B ns _ (by rw [List.all_eq_true] at hall;exact hall _ (List.mem_of_getElem? hat')) (okEs_at Hoks.out hat') hsz4 (hL2.low (hb.mono hB)) (Nat.le_trans hB hb.size) (HS.out.below hb) hns)
  have Hk2:Hid (∀ k,codeE ns (.mk op2 n2 name2 args2)=.err k→k=131):=Lib.hid (fun k h=>codeE_err ns _ k h)
  have Hok2:Hid (∀ c,codeE ns (.mk op2 n2 name2 args2)=.ok c→jOk c∧c.length≤400000):=Lib.hid (fun c h=>by
    obtain ⟨h1,h2⟩:=codeE_ok ns _ c h
    exact ⟨h1,by omega⟩)
  generalize codeE ns (.mk op2 n2 name2 args2)=R2 at *
  have HE1:Hid (∀ W:World,Below w.heap.size w W→Calls Try.prog 70 #[.agg #[.int .u8 op1,.int .i64 n1,.string (bstr name1),.slice aa args1.length ac],.slice an ns.length capn] W _):=Lib.hid (fun W hb=>Hih.out op1 n1 name1 args1 _ W B ns _ (by rw [List.all_eq_true] at hall;exact hall _ (List.mem_of_getElem? hat)) (okEs_at Hoks.out hat) hsz3 (hL1.low (hb.mono hB)) (Nat.le_trans hB hb.size) (HS.out.below hb) hns)
  have Hk:Hid (∀ k,codeE ns (.mk op1 n1 name1 args1)=.err k→k=131):=Lib.hid (fun k h=>codeE_err ns _ k h)
  have Hok:Hid (∀ c,codeE ns (.mk op1 n1 name1 args1)=.ok c→jOk c∧c.length≤400000):=Lib.hid (fun c h=>by
    obtain ⟨h1,h2⟩:=codeE_ok ns _ c h
    exact ⟨h1,by omega⟩)
  generalize codeE ns (.mk op1 n1 name1 args1)=R1 at *
  generalize codeE ns (.mk 22 n name args)=R at *
  clear c0' c1' c2' c3'
  clear d0' d1' d2' d3' ih hL hS hoks hall hb1 hbB' hbw' hat' hL2 hbB hbw hat hL1 hl hX1 hW1
  go_enter Try.func70,Try.ntmps70
  go_upto_region 1 with (fail)
  rw [← HW1.out]
  go_wp2_with fail
  refine (HE1.out _ Hb1.out).mono ?_
  rintro e2 w2 ⟨he2,hb2⟩
  have HX2:=Lib.hid (HX1.out.below hb2 (Nat.le_refl _))
  have Hb2:=Lib.hid (Hb1.out.trans (hb2.mono hs1))
  have hs2:w.heap.size≤w2.heap.size:=Nat.le_trans hs1 hb2.size
  clear hb2 c0 c1 c2 c3 x0 x3
  cases R1 with
  | err k =>
    obtain rfl:=he2
    obtain rfl:k=131:=Hk.out k rfl
    have Hc2:Hid (R=.err 131):=Lib.hid (by rw [Hc.out];rfl)
    go_wp2_with fail
    exact bodyPost_ret (v:=.tuple #[.slice none 0 0,.int .i64 131]) (by simp [results,Try.results70,go_sem]) rfl ⟨by rw [Hc2.out];rfl,Hb2.out⟩
  | ok ca =>
    obtain ⟨v2,rfl,hO2⟩:=he2
    obtain ⟨hjo,hcl⟩:=Hok.out ca rfl
    have HO2:=Lib.hid hO2
    have Hjo:=Lib.hid hjo
    have d0:=Below.keep Hb2.out HD0.out
    have d1:=Below.keep Hb2.out HD1.out
    have d2:=Below.keep Hb2.out HD2.out
    have d3:=Below.keep Hb2.out HD3.out
    have x0:=HX2.out.cell (i:=0) rfl
    have x3:=HX2.out.cell (i:=3) rfl
    clear hO2 hjo Hok
    go_wp2_with fail
    refine (HE2.out _ Hb2.out).mono ?_
    rintro e3 w3 ⟨he3,hb3⟩
    have HX3:=Lib.hid (HX2.out.below hb3 (Nat.le_refl _))
    have HO3a:=Lib.hid (HO2.out.below hb3)
    have Hb3:=Lib.hid (Hb2.out.trans (hb3.mono hs2))
    have hs3:w.heap.size≤w3.heap.size:=Nat.le_trans hs2 hb3.size
    clear hb3 d0 d1 d2 d3 x0 x3
    cases R2 with
    | err k =>
      obtain rfl:=he3
      obtain rfl:k=131:=Hk2.out k rfl
      have Hc2:Hid (R=.err 131):=Lib.hid (by rw [Hc.out];rfl)
      go_wp2_with fail
      exact bodyPost_ret (v:=.tuple #[.slice none 0 0,.int .i64 131]) (by simp [results,Try.results70,go_sem]) rfl ⟨by rw [Hc2.out];rfl,Hb3.out⟩
    | ok cb =>
      obtain ⟨v3,rfl,hO3⟩:=he3
      obtain ⟨hjo2,hcl2⟩:=Hok2.out cb rfl
      have HO3:=Lib.hid hO3
      have Hjo2:=Lib.hid hjo2
      clear hO3 hjo2 Hok2
      have Hc2:Hid (R=.ok (joinC ca (⟨13,cb.length+3⟩ :: (shiftC 1 cb++[⟨10,0⟩,⟨11,cb.length+4⟩,⟨1,1⟩])))):=Lib.hid Hc.out
      have x0:=HX3.out.cell (i:=0) rfl
      have hcb:(cb.length:Int)≤400000:=by omega
      have hcb0:(0:Int)≤(cb.length:Int):=by omega
      have hsl3:=HO3.out.sl
      obtain ⟨b3,cp3,rfl,hcp3,hcp32⟩:=Sl.form hsl3
      have HS3:=Lib.hid hsl3
      clear Hc hsl3
      go_wp2_with fail
      refine (HOne.out _ _ _).mono ?_
      rintro e5 w5 ⟨⟨v5,rfl,hO5⟩,hb5⟩
      have hO5':w5.ownsRow w3.heap.size 47 2 v5 (1+0) (cellsC [⟨13,cb.length+3⟩]++cellsC (shiftC 1 (cb.take 0))):=by
        rw [List.take_zero,show cellsC (shiftC 1 [])=[] from rfl,List.append_nil]
        exact hO5
      have Hb5:=Lib.hid hb5
      have HX5:=Lib.hid (HX3.out.below hb5 (Nat.le_refl _))
      clear hb5 hO5 x0
      go_wp2_with fail
      go_loopw [10,11,12,111,112,113,114,115,116,117,118,119,120,121,122,123,124,125,126,127,128,129] (fun t10 t11 _ _ _ _ _ _ _ _ _ _ _ _ _ _ _ _ _ _ _ _ wr=>∃ (k:Nat),k≤cb.length∧t11=.int .i64 k∧wr.ownsRow w3.heap.size 47 2 t10 (1+k) (cellsC [⟨13,cb.length+3⟩]++cellsC (shiftC 1 (cb.take k)))∧Hid (Below w3.heap.size w3 wr)) (fun _ t11 _ _ _ _ _ _ _ _ _ _ _ _ _ _ _ _ _ _ _ _ _=>cb.length - (intOf t11).toNat)
      case atStart=>exact ⟨0,by omega,by first | rfl | go_num,hO5',Lib.hid Hb5.out⟩
      case round =>
        obtain ⟨k,hk,rfl,hown,Hb⟩:=hrel
        have hszr:=Hb.out.size
        by_cases hkl:k < cb.length
        · have hki:(k:Int) < (cb.length:Int):=by omega
          obtain ⟨bb,off2,rfl,hbw,c0,c1⟩:=(HS3.out.below Hb.out).at hkl
          have Hst:=Lib.hid (shiftC_take hkl 1)
          have Hjk:=Lib.hid (Hjo2.out cb[k] (List.getElem_mem hkl))
          have HJ:=Lib.hid (jumps_any cb[k].op cb[k].a (wr.alloc (.cells #[.int .u8 cb[k].op,.int .i64 cb[k].a] 47)))
          have hY1:=OwnV.new wr 47 [.int .u8 cb[k].op,.int .i64 cb[k].a]
          have HY1:=Lib.hid hY1
          obtain ⟨iop,x,he⟩:∃ op x,cb[k]=⟨op,x⟩:=⟨_,_,rfl⟩
          have Hsh:Hid (shiftI 1 ⟨iop,x⟩=if jumpB ⟨iop,x⟩=true then ⟨iop,x+1⟩ else ⟨iop,x⟩):=Lib.hid rfl
          rw [he] at Hst Hjk HJ HY1 c0 c1
          obtain ⟨q,hq⟩:∃ q,jumpB ⟨iop,x⟩=q:=⟨_,rfl⟩
          rw [hq] at HJ Hsh Hjk
          have hltv:∀ g,u10.ownBlock=some g→g < wr.heap.size:=fun g hg=>(hown.lt g hg).2
          clear hY1 he hq
          go_wp2_with fail
          refine HJ.out.mono ?_
          rintro e6 w6 ⟨rfl,hb6⟩
          have HY2:=Lib.hid (HY1.out.below hb6 (Nat.le_refl _))
          have hown2:=own_below (hown.alloc (.cells #[.int .u8 iop,.int .i64 x] 47)) hb6 (Nat.le_refl _)
          have Hb6:=Lib.hid ((Hb.out.alloc hszr (.cells #[.int .u8 iop,.int .i64 x] 47)).trans (hb6.mono (by simp;omega)))
          have hlt2:wr.heap.size < w6.heap.size:=HY2.out.lt
          have y0:=HY2.out.cell (i:=0) rfl
          have y1:=HY2.out.cell (i:=1) rfl
          have yf:=HY2.out.free
          clear hb6 c0 c1
          cases q with
          | true =>
            obtain ⟨hj0,hj1⟩:=Hjk.out rfl
            have Hst2:Hid (shiftC 1 (cb.take (k+1))=shiftC 1 (cb.take k)++[⟨iop,x+1⟩]):=Lib.hid (by rw [Hst.out,Hsh.out,if_pos rfl])
            obtain ⟨W7,hW7,hown7,hb7⟩:∃ W7,W7=w6.setCell ⟨wr.heap.size,1,none⟩ (.int .i64 (x+1))∧W7.ownsRow w3.heap.size 47 2 u10 (1+k) (cellsC [⟨13,cb.length+3⟩]++cellsC (shiftC 1 (cb.take k)))∧Below w3.heap.size w3 W7:=⟨_,rfl,own_set_ne hown2 (fun g hg e=>by have:=hltv g hg;omega) _ _,Hb6.out.setCell (by show w3.heap.size≤wr.heap.size;exact hszr) _⟩
            have hOx:OwnV W7 wr.heap.size 47 [.int .u8 iop,.int .i64 (x+1)]:=by rw [hW7];exact HY2.out.set 1 _
            have Hb7:=Lib.hid hb7
            have HW7:=Lib.hid hW7
            have hs7:=hb7.size
            clear hb7 hW7 hown2
            go_upto_region 34 with (fail)
            rw [← HW7.out]
            have z0:=hOx.cell (i:=0) rfl
            have z1:=hOx.cell (i:=1) rfl
            go_wp2_with (at_builtin;refine wpList_append_at rfl (.tmp 126) (.tmp 128) 38 rfl hown7 info_rins Try.underlying38 rfl (by decide) rfl 1 1 rfl rfl rfl (by unfold maxLen;omega) (by omega) hs7 ?_;intro v' w8 hown8 hg8 hb8 hat8)
            go_roundw
            case rel=>exact ⟨k+1,by omega,by go_num,by rw [Hst2.out,cellsC_app,← List.append_assoc];exact hown8,Lib.hid (Hb7.out.trans hb8)⟩
            case measure=>simp [intOf];omega
          | false =>
            have Hst2:Hid (shiftC 1 (cb.take (k+1))=shiftC 1 (cb.take k)++[⟨iop,x⟩]):=Lib.hid (by rw [Hst.out,Hsh.out,if_neg (by decide)])
            have hs7:=Hb6.out.size
            go_wp2_with (at_builtin;refine wpList_append_at rfl (.tmp 126) (.tmp 128) 38 rfl hown2 info_rins Try.underlying38 rfl (by decide) rfl 1 1 rfl rfl rfl (by unfold maxLen;omega) (by omega) hs7 ?_;intro v' w8 hown8 hg8 hb8 hat8)
            go_roundw
            case rel=>exact ⟨k+1,by omega,by go_num,by rw [Hst2.out,cellsC_app,← List.append_assoc];exact hown8,Lib.hid (Hb6.out.trans hb8)⟩
            case measure=>simp [intOf];omega
        · have hki:¬ (k:Int) < (cb.length:Int):=by omega
          have hke:k=cb.length:=by omega
          have x0:=(HX3.out.below Hb.out (Nat.le_refl _)).cell (i:=0) rfl
          have hk4:(cb.length:Int)+4≤1000000:=by omega
          go_wp2_with (at_builtin;refine wpList_append_at rfl (.tmp 130) (.tmp 140) 38 rfl hown info_rins Try.underlying38 rfl (by decide) rfl 3 3 rfl rfl rfl (by unfold maxLen;omega) (by omega) hszr ?_;intro v' w8 hown8 hg8 hb8 hat8)
          have HT:Hid (SlC w8 (⟨13,cb.length+3⟩ :: (shiftC 1 cb++[⟨10,0⟩,⟨11,cb.length+4⟩,⟨1,1⟩])) v'):=Lib.hid (by
            have h:=Sl.of_own hown8
            rw [hke,List.take_length] at h
            have e:(⟨13,cb.length+3⟩ :: (shiftC 1 cb++[⟨10,0⟩,⟨11,cb.length+4⟩,⟨1,1⟩]):Code1)=[⟨13,cb.length+3⟩]++shiftC 1 cb++[⟨10,0⟩,⟨11,cb.length+4⟩,⟨1,1⟩]:=by simp
            have l:([⟨13,cb.length+3⟩]++shiftC 1 cb++[⟨10,0⟩,⟨11,cb.length+4⟩,⟨1,1⟩]:Code1).length=1+cb.length+3:=by simp [shiftC_len];omega
            unfold SlC
            rw [e,l,cellsC_app,cellsC_app]
            exact h)
          have Hb8:=Lib.hid (Hb3.out.trans ((Hb.out.trans hb8).mono hs3))
          have hb38:=Hb.out.trans hb8
          have hs8:w.heap.size≤w8.heap.size:=Nat.le_trans hs3 hb38.size
          have HJ:=Lib.hid (join_any ca _ v2 v' w8 (HO3a.out.sl.below hb38) HT.out (by omega) (by simp only [List.length_cons,List.length_append,shiftC_len,List.length_nil];omega) (jOk_small (jOk_ltail Hjo2.out) (by simp only [List.length_cons,List.length_append,shiftC_len,List.length_nil];omega)))
          clear hown hown8 hg8 hb8 hat8 hb38 x0
          go_wp2_with fail
          refine HJ.out.mono ?_
          rintro e9 w9 ⟨⟨v9,rfl,hO9⟩,hb9⟩
          have HO9:=Lib.hid (own_mono' hO9 hs8)
          have Hb9:=Lib.hid (Hb8.out.trans (hb9.mono hs8))
          clear hO9 hb9
          go_wp2_with fail
          exact bodyPost_ret (v:=.tuple #[v9,.int .i64 0]) (by simp [results,Try.results70,go_sem]) rfl ⟨by rw [Hc2.out];exact ⟨_,rfl,HO9.out⟩,Hb9.out⟩
end Go.Proofs.Ytdeneckmoejcfaa
