/- marchesref13.stmt, walked. -/
import Derived.Test.YtdeneckmoejcfaaRExprBZs
import Derived.Deep.AppendLies
set_option linter.unusedSimpArgs false
set_option linter.unusedVariables false
set_option maxRecDepth 100000
set_option maxHeartbeats 6000000
namespace Go.Proofs.Ytdeneckmoejcfaa
open Go.RowKit

def StmtCR (w w' : World) (e : Ending) : CR (znA × Nat) -> Prop
  | .ok r => ∃ v, e = .returned (.tuple #[v, .int .i64 r.2, .int .i64 0]) /\ OwnC w' w.heap.size 47 v r.1
  | .err k => e = .returned (.tuple #[.slice none 0 0, .int .i64 0, .int .i64 k]) /\ (k = 131 ∨ k = 132 ∨ k = 5)
theorem joinAll_snoc (cs:List znA) (c:znA):znJ (cs++[c])=znB (znJ cs) c:=by simp [znJ]
theorem sumLen_snoc (cs:List znA) (c:znA):zo5 (cs++[c])=zo5 cs+c.length:=by
 induction cs with
 | nil=>simp [zo5]
 | cons x r ih=>simp only [zo5,List.cons_append,List.map_cons,List.foldr_cons] at ih ⊢;omega
theorem codeT_es (ns:znU) (op n:Int) (name:List UInt8) (es:List Ex) (body els:List St) {k:Int} (h:znG ns es=.err k):zon ns (.mk op n name es body els)=.err k:=by
 rw [zon,h];rfl
def codeT2 (ns : znU) (op n : Int) (name : List UInt8) (out : znA) (els : List St) (rb rl : CR (znA × Nat)) : CR (znA × Nat) :=
  if op = 1 then (if zai name ns 0 ≠ 0 then .err 132 else if 32 <= ns.length then .err 5 else .ok (znB out [⟨3, ns.length⟩], 0))
  else if op = 2 then (if zai name ns 0 = 0 then .err 131 else .ok (znB out [⟨3, (zai name ns 0 : Int) - 1⟩], 0))
  else if op = 3 then .ok (znB out [⟨5, n⟩], 0)
  else if op = 6 then .ok ([⟨14, 0⟩], 0)
  else if op = 7 then .ok ([⟨15, 0⟩], 0)
  else rb.andThen fun b =>
    if op = 5 then .ok (zpC out b.1, b.2)
    else rl.andThen fun o => .ok (ifC out b.1 o.1 (decide (els ≠ [])), max b.2 o.2)
theorem codeT_eq (ns:znU) (op n:Int) (name:List UInt8) (es:List Ex) (body els:List St) {cs:List znA} (h:znG ns es=.ok cs):zon ns (.mk op n name es body els)=codeT2 ns op n name (znJ cs) els (znQ ns body) (znQ ns els):=by
 rw [zon,h];rfl
theorem codeT2_1 (ns:znU) (n:Int) (name:List UInt8) (out:znA) (els:List St) (rb rl:CR (znA × Nat)):codeT2 ns 1 n name out els rb rl=if zai name ns 0≠0 then .err 132 else if 32<=ns.length then .err 5 else .ok (znB out [⟨3,ns.length⟩],0):=rfl
theorem codeT2_2 (ns:znU) (n:Int) (name:List UInt8) (out:znA) (els:List St) (rb rl:CR (znA × Nat)):codeT2 ns 2 n name out els rb rl=if zai name ns 0=0 then .err 131 else .ok (znB out [⟨3,(zai name ns 0:Int) - 1⟩],0):=rfl
theorem codeT2_3 (ns:znU) (n:Int) (name:List UInt8) (out:znA) (els:List St) (rb rl:CR (znA × Nat)):codeT2 ns 3 n name out els rb rl=.ok (znB out [⟨5,n⟩],0):=rfl
theorem codeT2_6 (ns:znU) (n:Int) (name:List UInt8) (out:znA) (els:List St) (rb rl:CR (znA × Nat)):codeT2 ns 6 n name out els rb rl=.ok ([⟨14,0⟩],0):=rfl
theorem codeT2_7 (ns:znU) (n:Int) (name:List UInt8) (out:znA) (els:List St) (rb rl:CR (znA × Nat)):codeT2 ns 7 n name out els rb rl=.ok ([⟨15,0⟩],0):=rfl
theorem whole_eq (O b:znA):znB (znB O [⟨12,0⟩]) b=O++(⟨12,O.length⟩ :: znF (O.length+1) b):=by
 have e:znB O [⟨12,0⟩]=O++[⟨12,O.length⟩]:=by
  unfold znB znF
  rw [List.map_singleton,show znK O.length ⟨12,0⟩=⟨12,O.length⟩ from by
   rw [znK,yP (show zn5 ⟨12,0⟩=true from rfl)];show (⟨12,0+(O.length:Int)⟩:InsS)=_
   rw [Int.zero_add]]
 rw [e,znB,yA,List.length_singleton,List.append_assoc];rfl
theorem cells_patch (O b:znA) (x y:Int):(znH (O++(⟨12,x⟩ :: b))).set (O.length * 2+1) (.int .i64 y)=znH (O++(⟨12,y⟩ :: b)):=by
 rw [zrL,zrL,List.set_append_right _ _ (by rw [zpx];omega),zpx,show O.length * 2+1 - O.length * 2=1 from by omega];rfl
theorem cells_end (O b:znA) (x:Int) (i:InsS):znH (O++(⟨12,x⟩ :: (b++[i])))=znH (O++(⟨12,x⟩ :: b))++[.int .u8 i.op,.int .i64 i.a]:=by
 rw [show O++((⟨12,x⟩:InsS) :: (b++[i]))=(O++(⟨12,x⟩ :: b))++[i] from by simp,zrL];rfl
theorem cells_mid (O b:znA) (x:Int):(znH (O++(⟨12,x⟩ :: b)))[O.length * 2+1]? = some (.int .i64 x):=by
 rw [zrL,List.getElem?_append_right (by rw [zpx];omega),zpx,show O.length * 2+1 - O.length * 2=1 from by omega];rfl
theorem rstmt_step (op n:Int) (name:List UInt8) (es:List Ex) (body els:List St) (ve vb vl:Value) (w:World) (B:Nat) (ns:znU) (vn:Value) (hrg:1<=op/\op<=7) (hfe:es.all (zbd 40)=true) (hok:okEs es) (hsz:szS (.mk op n name es body els)<=100000) (hE:EsL w B es ve) (hvb:∃ a c,vb=.slice a body.length c) (hvl:∃ a c,vl=.slice a els.length c) (hlb:els.length<=1000000) (hB:B<=w.heap.size) (hS:Strs w ns vn) (hns:ns.length<=900000)
  (hA:∀ w',Below w.heap.size w w'->Calls Try.prog 38 #[vb,vn] w' fun e w''=>StmtCR w' w'' e (znQ ns body)/\Below w'.heap.size w' w'') (hC:∀ w',Below w.heap.size w w'->Calls Try.prog 38 #[vl,vn] w' fun e w''=>StmtCR w' w'' e (znQ ns els)/\Below w'.heap.size w' w'') :
  Calls Try.prog 57 #[.agg #[.int .u8 op,.int .i64 n,.string (bstr name),ve,vb,vl],vn] w fun e w'=>StmtCR w w' e (zon ns (.mk op n name es body els))/\Below w.heap.size w w':=by
 obtain ⟨ae,ce,rfl,hlce,hlce2⟩:=hE.form;obtain ⟨ab,cb,rfl⟩:=hvb;obtain ⟨al,cl,rfl⟩:=hvl;obtain ⟨an,capn,rfl,hcn1,hcn2⟩:=Sl.form hS;have hszE:szEs es<=100000:=by rw [szS] at hsz;omega
 have hszB:szSs body<=100000:=by rw [szS] at hsz;omega
 have hszL:szSs els<=100000:=by rw [szS] at hsz;omega
 have Hoks:=zh hok;have HE:=zh hE;have HA:=zh hA;have HC:=zh hC;have HS:=zh hS;have Hfe:=zh hfe;have HOne:Hid (∀ (op a:Int) (W:World),_):=zh (fun (op a:Int) (W:World)=>one_any op a W);have HFi:Hid (∀ W:World,Below w.heap.size w W->Calls Try.prog 71 #[.slice an ns.length capn,.string (bstr name)] W _):=zh (fun W hb=>rfind_any ns name _ W (HS.out.below hb) (by omega));obtain ⟨W1,hW1,hX1,hb1⟩:∃ W1,W1=w.alloc (.cells #[.int .u8 op,.int .i64 n,.string (bstr name),.slice ae es.length ce,.slice ab body.length cb,.slice al els.length cl] 59)/\OwnV W1 w.heap.size 59 [.int .u8 op,.int .i64 n,.string (bstr name),.slice ae es.length ce,.slice ab body.length cb,.slice al els.length cl]/\Below w.heap.size w W1:=⟨_,rfl,OwnV.new _ _ _,(yR _ _).alloc (zr _) _⟩;have Hb1:=zh hb1;have HX1:=zh hX1;have hs1:=hb1.size;obtain ⟨final,hfin⟩:∃ q,zon ns (.mk op n name es body els)=q:=⟨_,rfl⟩;have HFe:Hid (∀ k,znG ns es=.err k->final=.err k):=zh (fun k h=>by rw [<- hfin,codeT_es ns op n name es body els h]);have HFo:Hid (∀ cs,znG ns es=.ok cs->final=codeT2 ns op n name (znJ cs) els (znQ ns body) (znQ ns els)):=zh (fun cs h=>by rw [<- hfin,codeT_eq ns op n name es body els h]);rw [hfin]
 have HBo:Hid (∀ r,znQ ns body=.ok r->jOk r.1/\r.1.length<=400000/\r.2<=1000000):=zh (fun r h=>by
  obtain ⟨h1,h2,h3⟩:=codeL_ok ns body r h
  exact ⟨h1,by omega,by omega⟩)
 have HLo:Hid (∀ r,znQ ns els=.ok r->jOk r.1/\r.1.length<=400000/\r.2<=1000000):=zh (fun r h=>by
  obtain ⟨h1,h2,h3⟩:=codeL_ok ns els r h
  exact ⟨h1,by omega,by omega⟩)
 have HEk:Hid (∀ k,znG ns es=.err k->k=131):=zh (fun k h=>zoZ ns es k h)
 generalize znQ ns body=RB at *
 generalize znQ ns els=RL at *
 clear hE hok hX1 hb1 hA hC hfe hS hfin hsz;go_enter Try.func57,Try.ntmps57
 go_upto_region 1 with (fail)
 rw [<- hW1];clear hW1;go_wp2_with fail
 go_loopw [4,5,6,7,8,9,10,19,20,21,22,23,24,25,26,27,28,29,30,31,32,33,34,35,36,37,38,39,40,41] (fun _ _ _ t7 t8 _ _ _ _ _ _ _ _ _ _ _ _ _ _ _ _ _ _ _ _ _ _ _ _ _ wr=>∃ (k:Nat) (done:List znA),k<=es.length/\t8=.int .i64 k/\wr.ownsRow w.heap.size 47 2 t7 (znJ done).length (znH (znJ done))/\Hid (znG ns es=(znG ns (es.drop k)).andThen fun r=>.ok (done++r))/\Hid ((∀ c ∈ done,jOk c)/\zo5 done<=4 * szEs (es.take k))/\Hid (Below W1.heap.size W1 wr)) (fun _ _ _ _ t8 _ _ _ _ _ _ _ _ _ _ _ _ _ _ _ _ _ _ _ _ _ _ _ _ _ _=>es.length - (intOf t8).toNat)
 case atStart=>exact ⟨0,[],by omega,by first | rfl | go_num,World.ownsRow_nil _ _ _ _,zh (by rw [List.drop_zero];cases znG ns es <;> rfl),zh ⟨by simp,by simp [zo5]⟩,zh (yR _ _)⟩
 case round =>
  obtain ⟨k,done,hk,rfl,hown,HD,HJd,HB⟩:=hrel;have Hbw:Hid (Below w.heap.size w wr):=zh (Hb1.out.trans (HB.out.mono hs1));have hsr:w.heap.size<=wr.heap.size:=Hbw.out.size;have HXr:=zh (HX1.out.below HB.out (zr _))
  have hdl:(znJ done).length<=400000:=by
   have h1:=(joinAll_ok HJd.out.1).2;have h2:=HJd.out.2;have h3:szEs (es.take k)<=szEs es:=by have:=ziA (es.take k) (es.drop k);rw [List.take_append_drop] at this;omega
   omega
  by_cases hkl:k < es.length
  ·have hki:(k:Int) < (es.length:Int):=by omega
   obtain ⟨b,off,op1,n1,name1,args1,aa,ac,rfl,hbB,hbw2,hat,c0,c1,c2,c3,hL1⟩:=(HE.out.low (Hbw.out.mono hB)).at hkl;have hsz1:szE (.mk op1 n1 name1 args1)<=100000:=yT (zns hat) hszE;have HI:=zh (rexpr_any 40 op1 n1 name1 args1 _ wr B ns _ (by have:=Hfe.out;rw [List.all_eq_true] at this;exact this _ (List.mem_of_getElem? hat)) (zgR Hoks.out hat) hsz1 hL1 (yT hB hsr) (HS.out.below Hbw.out) (by omega))
   have Hdr:Hid (znG ns (es.drop k)=(znV ns (.mk op1 n1 name1 args1)).andThen fun c=>(znG ns (es.drop (k+1))).andThen fun cs=>.ok (c :: cs)):=zh (by
    obtain ⟨h1,h2⟩:=List.getElem?_eq_some_iff.1 hat
    rw [List.drop_eq_getElem_cons h1,h2,znG])
   have Hsz:=zh (zhi hat);have Hok1:Hid (∀ c,znV ns (.mk op1 n1 name1 args1)=.ok c->jOk c/\c.length<=4 * szE (.mk op1 n1 name1 args1)):=zh (fun c h=>zsA ns _ c h)
   generalize znV ns (.mk op1 n1 name1 args1)=R1 at *
   generalize szE (.mk op1 n1 name1 args1)=z1 at *
   have x3:=HXr.out.cell (i:=3) rfl;clear hat hL1
   cases R1 with
   | err q =>
    have HDe:Hid (znG ns es=.err q):=zh (by rw [HD.out,Hdr.out];rfl);have hq:=HEk.out q HDe.out;have HFq:=zh (HFe.out q HDe.out);subst hq;go_wp2_with fail
    refine HI.out.mono ?_;rintro e2 w2 ⟨he2,hb2⟩;obtain rfl:=he2;have Hb2:=zh (Hbw.out.trans (hb2.mono hsr));clear hb2;go_wp2_with fail
    exact yE (v:=.tuple #[.slice none 0 0,.int .i64 0,.int .i64 131]) (by simp [results,Try.results57,go_sem]) rfl ⟨by rw [HFq.out];exact ⟨rfl,.inl rfl⟩,Hb2.out⟩
   | ok c =>
    obtain ⟨hjc,hcl⟩:=Hok1.out c rfl;have hcl2:c.length<=400000:=by omega
    have HDn:Hid (znG ns es=(znG ns (es.drop (k+1))).andThen fun r=>.ok ((done++[c])++r)):=zh (by
     rw [HD.out,Hdr.out];show ((znG ns (es.drop (k+1))).andThen fun cs=>.ok (c :: cs)).andThen _=_
     cases znG ns (es.drop (k+1)) with
     | err e=>rfl
     | ok r=>show CR.ok (done++c :: r)=CR.ok (done++[c]++r);rw [List.append_assoc];rfl)
    have HJn:Hid ((∀ x ∈ done++[c],jOk x)/\zo5 (done++[c])<=4 * szEs (es.take (k+1))):=zh ⟨fun x hx=>by
     rcases List.mem_append.1 hx with hx | hx
     ·exact HJd.out.1 x hx
     ·rw [List.mem_singleton] at hx;rw [hx];exact hjc,by rw [sumLen_snoc,Hsz.out];have:=HJd.out.2;omega⟩
    have hsl:=Sl.of_own hown;have HJ:Hid (∀ (v2:Value) (W:World),Below wr.heap.size wr W->SlC W c v2->Calls Try.prog 58 #[u7,v2] W _):=zh (fun v2 W hb h2=>join_any (znJ done) c u7 v2 W (SlC.below hsl hb) h2 (by omega) (by omega) (jOk_small hjc (by omega)));clear hsl hjc hown;go_wp2_with fail
    refine HI.out.mono ?_;rintro e2 w2 ⟨⟨v2,rfl,hO2⟩,hb2⟩;have HJ2:=zh (HJ.out v2 w2 hb2 hO2.sl);have HB2:=zh (HB.out.trans (hb2.mono HB.out.size));have hs2:w.heap.size<=w2.heap.size:=yT hsr hb2.size;clear hb2 hO2;go_wp2_with fail
    refine HJ2.out.mono ?_;rintro e3 w3 ⟨⟨v3,rfl,hO3⟩,hb3⟩;have hO3':w3.ownsRow w.heap.size 47 2 v3 (znJ (done++[c])).length (znH (znJ (done++[c]))):=by rw [joinAll_snoc];exact znE hO3 hs2
    have HB3:=zh (HB2.out.trans (hb3.mono HB2.out.size));clear hb3 hO3;go_wp2_with fail
    go_roundw
    case rel=>exact ⟨k+1,done++[c],by omega,by go_num,hO3',HDn,HJn,HB3⟩
    case measure=>simp [intOf];omega
  ·have hki:¬ (k:Int) < (es.length:Int):=by omega
   have hke:k=es.length:=by omega
   have HDo:Hid (znG ns es=.ok done):=zh (by
    have h:=HD.out;rw [hke,List.drop_length] at h;rw [h];show CR.ok (done++[])=_
    rw [List.append_nil])
   have HFq:=zh (HFo.out done HDo.out);have HJo:=zh (joinAll_ok HJd.out.1).1
   generalize znJ done=O at *
   have HO:Hid (OwnC wr w.heap.size 47 u7 O):=zh hown;have x2:=HXr.out.cell (i:=2) rfl;have x3:=HXr.out.cell (i:=3) rfl;clear HD HDo HFe HFo HEk hown;go_upto_region 9 with (fail)
   go_wp2_with fail
   refine (HFi.out _ Hbw.out).mono ?_;rintro e2 w2 ⟨rfl,rfl⟩;have x0:=HXr.out.cell (i:=0) rfl;have x1:=HXr.out.cell (i:=1) rfl;have x4:=HXr.out.cell (i:=4) rfl;have x5:=HXr.out.cell (i:=5) rfl;rcases (show op=1∨op=2∨op=3∨op=4∨op=5∨op=6∨op=7 by omega) with rfl | rfl | rfl | rfl | rfl | rfl | rfl
   ·have HF2:Hid (final=_):=zh (HFq.out.trans (codeT2_1 _ _ _ _ _ _ _));clear HFq
    generalize zai name ns 0=p at *
    by_cases hp:p=0
    ·have hp1:¬ (p:Int) - 1 >= 0:=by omega
     have hp2:(p:Int) - 1 < 0:=by omega
     by_cases hn32:32<=ns.length
     ·have hn1:(ns.length:Int) >= 32:=by omega
      have HFz:Hid (final=.err 5):=zh (by rw [HF2.out,yN (by omega),yP hn32]);clear HF2 hp;go_wp2_with fail
      exact yE (v:=.tuple #[.slice none 0 0,.int .i64 0,.int .i64 5]) (by simp [results,Try.results57,go_sem]) rfl ⟨by rw [HFz.out];exact ⟨rfl,.inr (.inr rfl)⟩,Hbw.out⟩
     ·have hn1:¬ (ns.length:Int) >= 32:=by omega
      have HFz:Hid (final=.ok (znB O [⟨3,ns.length⟩],0)):=zh (by rw [HF2.out,yN (by omega),yN hn32]);clear HF2 hp;go_wp2_with fail
      refine (HOne.out _ _ _).mono ?_;rintro e3 w3 ⟨⟨v3,rfl,hO3⟩,hb3⟩;have HJ:=zh (join_any O [⟨3,ns.length⟩] u7 v3 w3 (HO.out.sl.below hb3) hO3.sl (by omega) (by simp) (jOk_small (zo3 rfl) (by simp)));have Hb3:=zh (Hbw.out.trans (hb3.mono hsr));have hs3:w.heap.size<=w3.heap.size:=yT hsr hb3.size;clear hb3 hO3;go_wp2_with fail
      refine HJ.out.mono ?_;rintro e4 w4 ⟨⟨v4,rfl,hO4⟩,hb4⟩;have HO4:=zh (znE hO4 hs3);have Hb4:=zh (Hb3.out.trans (hb4.mono hs3));clear hb4 hO4;go_wp2_with fail
      exact yE (v:=.tuple #[v4,.int .i64 0,.int .i64 0]) (by simp [results,Try.results57,go_sem]) rfl ⟨by rw [HFz.out];exact ⟨_,rfl,HO4.out⟩,Hb4.out⟩
    ·have hp1:(p:Int) - 1 >= 0:=by omega
     have HFz:Hid (final=.err 132):=zh (by rw [HF2.out,yP hp]);clear HF2 hp;go_wp2_with fail
     exact yE (v:=.tuple #[.slice none 0 0,.int .i64 0,.int .i64 132]) (by simp [results,Try.results57,go_sem]) rfl ⟨by rw [HFz.out];exact ⟨rfl,.inr (.inl rfl)⟩,Hbw.out⟩
   ·have HF2:Hid (final=_):=zh (HFq.out.trans (codeT2_2 _ _ _ _ _ _ _));clear HFq
    generalize zai name ns 0=p at *
    by_cases hp:p=0
    ·have hp2:(p:Int) - 1 < 0:=by omega
     have HFz:Hid (final=.err 131):=zh (by rw [HF2.out,yP hp]);clear HF2 hp;go_wp2_with fail
     exact yE (v:=.tuple #[.slice none 0 0,.int .i64 0,.int .i64 131]) (by simp [results,Try.results57,go_sem]) rfl ⟨by rw [HFz.out];exact ⟨rfl,.inl rfl⟩,Hbw.out⟩
    ·have hp1:0<=(p:Int) - 1:=by omega
     have HFz:Hid (final=.ok (znB O [⟨3,(p:Int) - 1⟩],0)):=zh (by rw [HF2.out,yN hp]);clear HF2 hp;go_wp2_with fail
     refine (HOne.out _ _ _).mono ?_;rintro e3 w3 ⟨⟨v3,rfl,hO3⟩,hb3⟩;have HJ:=zh (join_any O [⟨3,(p:Int) - 1⟩] u7 v3 w3 (HO.out.sl.below hb3) hO3.sl (by omega) (by simp) (jOk_small (zo3 rfl) (by simp)));have Hb3:=zh (Hbw.out.trans (hb3.mono hsr));have hs3:w.heap.size<=w3.heap.size:=yT hsr hb3.size;clear hb3 hO3;go_wp2_with fail
     refine HJ.out.mono ?_;rintro e4 w4 ⟨⟨v4,rfl,hO4⟩,hb4⟩;have HO4:=zh (znE hO4 hs3);have Hb4:=zh (Hb3.out.trans (hb4.mono hs3));clear hb4 hO4;go_wp2_with fail
     exact yE (v:=.tuple #[v4,.int .i64 0,.int .i64 0]) (by simp [results,Try.results57,go_sem]) rfl ⟨by rw [HFz.out];exact ⟨_,rfl,HO4.out⟩,Hb4.out⟩
   ·have HFz:Hid (final=.ok (znB O [⟨5,n⟩],0)):=zh (by rw [HFq.out,codeT2_3]);clear HFq;go_wp2_with fail
    refine (HOne.out _ _ _).mono ?_;rintro e3 w3 ⟨⟨v3,rfl,hO3⟩,hb3⟩;have HJ:=zh (join_any O [⟨5,n⟩] u7 v3 w3 (HO.out.sl.below hb3) hO3.sl (by omega) (by simp) (jOk_small (zo3 rfl) (by simp)));have Hb3:=zh (Hbw.out.trans (hb3.mono hsr));have hs3:w.heap.size<=w3.heap.size:=yT hsr hb3.size;clear hb3 hO3;go_wp2_with fail
    refine HJ.out.mono ?_;rintro e4 w4 ⟨⟨v4,rfl,hO4⟩,hb4⟩;have HO4:=zh (znE hO4 hs3);have Hb4:=zh (Hb3.out.trans (hb4.mono hs3));clear hb4 hO4;go_wp2_with fail
    exact yE (v:=.tuple #[v4,.int .i64 0,.int .i64 0]) (by simp [results,Try.results57,go_sem]) rfl ⟨by rw [HFz.out];exact ⟨_,rfl,HO4.out⟩,Hb4.out⟩
   ·obtain ⟨ao,co,rfl,_,_⟩:=Sl.form HO.out.sl;go_wp2_with fail
    refine (HA.out _ Hbw.out).mono ?_;rintro e3 w3 ⟨he3,hb3⟩;have Hb3:=zh (Hbw.out.trans (hb3.mono hsr));have hs3:w.heap.size<=w3.heap.size:=yT hsr hb3.size;have HX3:=zh (HXr.out.below hb3 (zr _));have HO3:=zh (HO.out.below hb3);clear hb3 x0 x1 x2 x3 x4 x5 HO
    cases RB with
    | err q =>
     obtain ⟨rfl,hq⟩:=he3;have hq0:(q != 0)=true:=by rcases hq with rfl | rfl | rfl <;> rfl
     have Hq:=zh hq;have HFz:Hid (final=.err q):=zh HFq.out;clear HFq hq;go_wp2_with fail
     exact yE (v:=.tuple #[.slice none 0 0,.int .i64 0,.int .i64 q]) (by simp [results,Try.results57,go_sem]) rfl ⟨by rw [HFz.out];exact ⟨rfl,Hq.out⟩,Hb3.out⟩
    | ok rb =>
     obtain ⟨cbd,m⟩:=rb;obtain ⟨v3,rfl,hOb⟩:=he3;obtain ⟨hjb,hlb2,hmb⟩:=HBo.out _ rfl;have HOb:Hid (OwnC w3 wr.heap.size 47 v3 cbd):=zh hOb;have hjb:jOk cbd:=hjb;have hlb2:cbd.length<=400000:=hlb2;have hmb:m<=1000000:=hmb;obtain ⟨ab3,cb3,rfl,_,_⟩:=Sl.form hOb.sl;have x0:=HX3.out.cell (i:=0) rfl;have x5:=HX3.out.cell (i:=5) rfl;clear hOb;have Hrb:Hid (final=RL.andThen fun o=>.ok (ifC O cbd o.1 (decide (els≠[])),max m o.2)):=zh HFq.out;clear HFq;go_wp2_with fail
     refine (HC.out _ Hb3.out).mono ?_;rintro e7 w7a ⟨he7,hb7a⟩;have Hb7a:=zh (Hb3.out.trans (hb7a.mono hs3));have hs7a:w.heap.size<=w7a.heap.size:=yT hs3 hb7a.size;have HX7:=zh (HX3.out.below hb7a (zr _));have HOz:=zh (HO3.out.below hb7a);have HBz:=zh (HOb.out.below hb7a);clear hb7a x0 x5 HO3 HOb
     cases RL with
     | err q =>
      obtain ⟨rfl,hq⟩:=he7;have hq0:(q != 0)=true:=by rcases hq with rfl | rfl | rfl <;> rfl
      have Hq:=zh hq;have HFz:Hid (final=.err q):=zh Hrb.out;clear Hrb hq;go_wp2_with fail
      exact yE (v:=.tuple #[.slice none 0 0,.int .i64 0,.int .i64 q]) (by simp [results,Try.results57,go_sem]) rfl ⟨by rw [HFz.out];exact ⟨rfl,Hq.out⟩,Hb7a.out⟩
     | ok re =>
      obtain ⟨cel,m2⟩:=re;obtain ⟨v7a,rfl,hOe⟩:=he7;obtain ⟨hje,hle2',hme⟩:=HLo.out _ rfl;have HOe:Hid (OwnC w7a w3.heap.size 47 v7a cel):=zh hOe;have hje:jOk cel:=hje;have hle2':cel.length<=400000:=hle2';have hme:m2<=1000000:=hme;obtain ⟨ae3,ce3,rfl,_,_⟩:=Sl.form hOe.sl;have HFz0:Hid (final=.ok (ifC O cbd cel (decide (els≠[])),max m m2)):=zh Hrb.out;clear hOe Hrb;obtain ⟨mx,hmx⟩:∃ mx:Nat,max m m2=mx:=⟨_,rfl⟩;rw [hmx] at HFz0;have HFz:=HFz0;clear HFz0;by_cases hmm:m < m2
      ·have hmi:(m2:Int) > (m:Int):=by omega
       obtain rfl:mx=m2:=by omega
       clear hmx hmm;go_wp2_with fail
       refine (HOne.out _ _ _).mono ?_;rintro e4 w4 ⟨⟨v4,rfl,hO4⟩,hb4⟩;have Hb4:=zh (Hb7a.out.trans (hb4.mono hs7a));have hs4:w.heap.size<=w4.heap.size:=yT hs7a hb4.size;have HOa:=zh (HOz.out.below hb4);have HBa:=zh (HBz.out.below hb4);have HEa:=zh (HOe.out.below hb4);have HX8:=zh (HX7.out.below hb4 (zr _));have HJ:=zh (join_any O [⟨12,0⟩] _ v4 w4 HOa.out.sl hO4.sl (by omega) (by simp) (fun i hi hj=>by rw [List.mem_singleton] at hi;subst hi;exact ⟨by decide,by decide⟩));clear hb4 hO4;go_wp2_with fail
       refine HJ.out.mono ?_;rintro e5 w5 ⟨⟨v5,rfl,hO5⟩,hb5⟩;have Hb5:=zh (Hb4.out.trans (hb5.mono hs4));have hs5:w.heap.size<=w5.heap.size:=yT hs4 hb5.size;have HE5:=zh (HEa.out.below hb5).sl;have HX9:=zh (HX8.out.below hb5 (zr _));have HJ5:=zh (join_any (znB O [⟨12,0⟩]) cbd v5 _ w5 hO5.sl (HBa.out.below hb5).sl (by rw [znT];simp only [List.length_singleton];omega) (by omega) (jOk_small hjb (by omega)));clear hb5 hO5 HJ;go_wp2_with fail
       refine HJ5.out.mono ?_;rintro e6 w6 ⟨⟨v6,rfl,hO6⟩,hb6⟩;have Hb56:=zh hb6;have hs6:w5.heap.size<=w6.heap.size:=hb6.size;have x5:=(HX9.out.below hb6 (zr _)).cell (i:=5) rfl;obtain ⟨N,hN⟩:∃ N,N=O.length+1+cbd.length:=⟨_,rfl⟩
       have hO6':w6.ownsRow w5.heap.size 47 2 v6 N (znH (O++(⟨12,O.length⟩ :: znF (O.length+1) cbd))):=by
        have h:=hO6;unfold OwnC at h;rw [znT,znT,List.length_singleton,<- hN,whole_eq] at h;exact h
       obtain ⟨g,cp6,rfl,hg1,hg2⟩:=hO6'.form (by omega);have HN:=zh hN;have hN6:(N:Int)<=1000000:=by omega
       have hNo:(O.length:Int) < (N:Int):=by omega
       have hONat:O.length < N:=by omega
       clear hb6 hO6 HJ5 hN;by_cases hel:0 < els.length
       ·have hel2:(els.length:Int) > 0:=by omega
        have hne:decide (els≠[])=true:=by rw [yQ];intro h;rw [h] at hel;simp at hel
        have Hne:=zh hne;clear hne;go_upto_region 42 with (at_builtin;refine zbj rfl (.tmp 137) (.tmp 145) 38 rfl hO6' info_rins Try.underlying38 rfl (by decide) rfl 1 1 rfl rfl rfl (by unfold maxLen;omega) (by omega) hs6 ?_;intro v7 w7 hown7 hg7 hb7 hat7)
        have hown7':w7.ownsRow w5.heap.size 47 2 v7 (N+1) (znH (O++(⟨12,O.length⟩ :: (znF (O.length+1) cbd++[⟨11,(N:Int)+1+cel.length⟩])))):=by rw [cells_end];exact hown7
        obtain ⟨g7,cp7,rfl,hg71,hg72⟩:=hown7'.form (by omega);have hst:=hown7'.stored (O.length * 2+1) (.int .i64 ((N:Int)+1));have hf7:=hown7'.frozenAt;have hc7:w7.cell? ⟨g7,O.length * 2+1,none⟩=some (.int .i64 O.length):=by rw [hown7'.cellAt (O.length * 2+1) (by omega)];exact cells_mid _ _ _
        have hNo2:(O.length:Int) < (N:Int)+1:=by omega
        obtain ⟨W8,hW8,hO8,hb58⟩:∃ W8,W8=w7.setCell ⟨g7,O.length * 2+1,none⟩ (.int .i64 ((N:Int)+1))/\W8.ownsRow w5.heap.size 47 2 (.slice (some ⟨g7,0,none⟩) (N+1) cp7) (N+1) (znH (O++(⟨12,(N:Int)+1⟩ :: (znF (O.length+1) cbd++[⟨11,(N:Int)+1+cel.length⟩]))))/\Below w5.heap.size w5 W8:=⟨_,rfl,by rw [<- cells_patch];exact hst.1,((Hb56.out.trans hb7).setCell (by exact hg71) _)⟩;have HW8:=zh hW8;clear hown7 hg7 hb7 hat7 hO6' hown7' hst hW8;have HSe:Hid (SlC W8 cel (.slice ae3 cel.length ce3)):=zh (HE5.out.below hb58)
        have HSw:Hid (SlC W8 (O++(⟨12,(N:Int)+1⟩ :: (znF (O.length+1) cbd++[⟨11,(N:Int)+1+cel.length⟩]))) _):=zh (by
         have h:=Sl.of_own hO8;unfold SlC;rw [show List.length (O++(⟨12,(N:Int)+1⟩ :: (znF (O.length+1) cbd++[⟨11,(N:Int)+1+cel.length⟩])))=N+1 from by simp only [yA,yB,zn8,yL];have:=HN.out;omega]
         exact h)
        have Hb8:=zh (Hb5.out.trans (hb58.mono hs5));have hs8:w.heap.size<=W8.heap.size:=yT hs5 hb58.size;have HJ9:=zh (join_any _ cel _ _ W8 HSw.out HSe.out (by simp only [yA,yB,zn8,yL];omega) (by omega) (jOk_small hje (by omega)));have HFy:Hid (final=.ok (znB (O++(⟨12,(N:Int)+1⟩ :: (znF (O.length+1) cbd++[⟨11,(N:Int)+1+cel.length⟩]))) cel,mx)):=zh (by rw [HFz.out];rw [Hne.out,ifC,yP rfl,HN.out];simp)
        generalize (O++(⟨12,(N:Int)+1⟩ :: (znF (O.length+1) cbd++[⟨11,(N:Int)+1+cel.length⟩])))=whole at *
        clear hO8 hb58 HFz;go_upto_region 43 with (fail)
        rw [<- HW8.out];go_wp2_with fail
        refine HJ9.out.mono ?_;rintro e9 w9 ⟨⟨v9,rfl,hO9⟩,hb9⟩;have HO9:=zh (znE hO9 hs8);have Hb9:=zh (Hb8.out.trans (hb9.mono hs8));clear hO9 hb9;go_wp2_with fail
        exact yE (v:=.tuple #[v9,.int .i64 mx,.int .i64 0]) (by simp [results,Try.results57,go_sem]) rfl ⟨by rw [HFy.out];exact ⟨_,rfl,HO9.out⟩,Hb9.out⟩
       ·have hel2:¬ (els.length:Int) > 0:=by omega
        have hne:decide (els≠[])=false:=by rw [decide_eq_false_iff_not];intro h;exact h (List.eq_nil_of_length_eq_zero (by omega))
        have Hne:=zh hne;clear hne;go_upto_region 42 with (fail)
        have hst:=hO6'.stored (O.length * 2+1) (.int .i64 (N:Int));have hf6:=hO6'.frozenAt;have hc6:w6.cell? ⟨g,O.length * 2+1,none⟩=some (.int .i64 O.length):=by rw [hO6'.cellAt (O.length * 2+1) (by omega)];exact cells_mid _ _ _
        obtain ⟨W8,hW8,hO8,hb58⟩:∃ W8,W8=w6.setCell ⟨g,O.length * 2+1,none⟩ (.int .i64 (N:Int))/\W8.ownsRow w5.heap.size 47 2 (.slice (some ⟨g,0,none⟩) N cp6) N (znH (O++(⟨12,(N:Int)⟩ :: znF (O.length+1) cbd)))/\Below w5.heap.size w5 W8:=⟨_,rfl,by rw [<- cells_patch];exact hst.1,(Hb56.out.setCell (by exact hg1) _)⟩;have HW8:=zh hW8;clear hO6' hst hW8;have HSe:Hid (SlC W8 cel (.slice ae3 cel.length ce3)):=zh (HE5.out.below hb58)
        have HSw:Hid (SlC W8 (O++(⟨12,(N:Int)⟩ :: znF (O.length+1) cbd)) _):=zh (by
         have h:=Sl.of_own hO8;unfold SlC;rw [show List.length (O++(⟨12,(N:Int)⟩ :: znF (O.length+1) cbd))=N from by simp only [yA,yB,zn8];have:=HN.out;omega]
         exact h)
        have Hb8:=zh (Hb5.out.trans (hb58.mono hs5));have hs8:w.heap.size<=W8.heap.size:=yT hs5 hb58.size;have HJ9:=zh (join_any _ cel _ _ W8 HSw.out HSe.out (by simp only [yA,yB,zn8];omega) (by omega) (jOk_small hje (by omega)));have HFy:Hid (final=.ok (znB (O++(⟨12,(N:Int)⟩ :: znF (O.length+1) cbd)) cel,mx)):=zh (by rw [HFz.out];rw [Hne.out,ifC,yN (by decide),HN.out];simp)
        generalize (O++(⟨12,(N:Int)⟩ :: znF (O.length+1) cbd))=whole at *
        clear hO8 hb58 HFz;go_upto_region 43 with (fail)
        rw [<- HW8.out];go_wp2_with fail
        refine HJ9.out.mono ?_;rintro e9 w9 ⟨⟨v9,rfl,hO9⟩,hb9⟩;have HO9:=zh (znE hO9 hs8);have Hb9:=zh (Hb8.out.trans (hb9.mono hs8));clear hO9 hb9;go_wp2_with fail
        exact yE (v:=.tuple #[v9,.int .i64 mx,.int .i64 0]) (by simp [results,Try.results57,go_sem]) rfl ⟨by rw [HFy.out];exact ⟨_,rfl,HO9.out⟩,Hb9.out⟩
      ·have hmi:¬ (m2:Int) > (m:Int):=by omega
       obtain rfl:mx=m:=by omega
       clear hmx hmm;go_wp2_with fail
       refine (HOne.out _ _ _).mono ?_;rintro e4 w4 ⟨⟨v4,rfl,hO4⟩,hb4⟩;have Hb4:=zh (Hb7a.out.trans (hb4.mono hs7a));have hs4:w.heap.size<=w4.heap.size:=yT hs7a hb4.size;have HOa:=zh (HOz.out.below hb4);have HBa:=zh (HBz.out.below hb4);have HEa:=zh (HOe.out.below hb4);have HX8:=zh (HX7.out.below hb4 (zr _));have HJ:=zh (join_any O [⟨12,0⟩] _ v4 w4 HOa.out.sl hO4.sl (by omega) (by simp) (fun i hi hj=>by rw [List.mem_singleton] at hi;subst hi;exact ⟨by decide,by decide⟩));clear hb4 hO4;go_wp2_with fail
       refine HJ.out.mono ?_;rintro e5 w5 ⟨⟨v5,rfl,hO5⟩,hb5⟩;have Hb5:=zh (Hb4.out.trans (hb5.mono hs4));have hs5:w.heap.size<=w5.heap.size:=yT hs4 hb5.size;have HE5:=zh (HEa.out.below hb5).sl;have HX9:=zh (HX8.out.below hb5 (zr _));have HJ5:=zh (join_any (znB O [⟨12,0⟩]) cbd v5 _ w5 hO5.sl (HBa.out.below hb5).sl (by rw [znT];simp only [List.length_singleton];omega) (by omega) (jOk_small hjb (by omega)));clear hb5 hO5 HJ;go_wp2_with fail
       refine HJ5.out.mono ?_;rintro e6 w6 ⟨⟨v6,rfl,hO6⟩,hb6⟩;have Hb56:=zh hb6;have hs6:w5.heap.size<=w6.heap.size:=hb6.size;have x5:=(HX9.out.below hb6 (zr _)).cell (i:=5) rfl;obtain ⟨N,hN⟩:∃ N,N=O.length+1+cbd.length:=⟨_,rfl⟩
       have hO6':w6.ownsRow w5.heap.size 47 2 v6 N (znH (O++(⟨12,O.length⟩ :: znF (O.length+1) cbd))):=by
        have h:=hO6;unfold OwnC at h;rw [znT,znT,List.length_singleton,<- hN,whole_eq] at h;exact h
       obtain ⟨g,cp6,rfl,hg1,hg2⟩:=hO6'.form (by omega);have HN:=zh hN;have hN6:(N:Int)<=1000000:=by omega
       have hNo:(O.length:Int) < (N:Int):=by omega
       have hONat:O.length < N:=by omega
       clear hb6 hO6 HJ5 hN;by_cases hel:0 < els.length
       ·have hel2:(els.length:Int) > 0:=by omega
        have hne:decide (els≠[])=true:=by rw [yQ];intro h;rw [h] at hel;simp at hel
        have Hne:=zh hne;clear hne;go_upto_region 42 with (at_builtin;refine zbj rfl (.tmp 137) (.tmp 145) 38 rfl hO6' info_rins Try.underlying38 rfl (by decide) rfl 1 1 rfl rfl rfl (by unfold maxLen;omega) (by omega) hs6 ?_;intro v7 w7 hown7 hg7 hb7 hat7)
        have hown7':w7.ownsRow w5.heap.size 47 2 v7 (N+1) (znH (O++(⟨12,O.length⟩ :: (znF (O.length+1) cbd++[⟨11,(N:Int)+1+cel.length⟩])))):=by rw [cells_end];exact hown7
        obtain ⟨g7,cp7,rfl,hg71,hg72⟩:=hown7'.form (by omega);have hst:=hown7'.stored (O.length * 2+1) (.int .i64 ((N:Int)+1));have hf7:=hown7'.frozenAt;have hc7:w7.cell? ⟨g7,O.length * 2+1,none⟩=some (.int .i64 O.length):=by rw [hown7'.cellAt (O.length * 2+1) (by omega)];exact cells_mid _ _ _
        have hNo2:(O.length:Int) < (N:Int)+1:=by omega
        obtain ⟨W8,hW8,hO8,hb58⟩:∃ W8,W8=w7.setCell ⟨g7,O.length * 2+1,none⟩ (.int .i64 ((N:Int)+1))/\W8.ownsRow w5.heap.size 47 2 (.slice (some ⟨g7,0,none⟩) (N+1) cp7) (N+1) (znH (O++(⟨12,(N:Int)+1⟩ :: (znF (O.length+1) cbd++[⟨11,(N:Int)+1+cel.length⟩]))))/\Below w5.heap.size w5 W8:=⟨_,rfl,by rw [<- cells_patch];exact hst.1,((Hb56.out.trans hb7).setCell (by exact hg71) _)⟩;have HW8:=zh hW8;clear hown7 hg7 hb7 hat7 hO6' hown7' hst hW8;have HSe:Hid (SlC W8 cel (.slice ae3 cel.length ce3)):=zh (HE5.out.below hb58)
        have HSw:Hid (SlC W8 (O++(⟨12,(N:Int)+1⟩ :: (znF (O.length+1) cbd++[⟨11,(N:Int)+1+cel.length⟩]))) _):=zh (by
         have h:=Sl.of_own hO8;unfold SlC;rw [show List.length (O++(⟨12,(N:Int)+1⟩ :: (znF (O.length+1) cbd++[⟨11,(N:Int)+1+cel.length⟩])))=N+1 from by simp only [yA,yB,zn8,yL];have:=HN.out;omega]
         exact h)
        have Hb8:=zh (Hb5.out.trans (hb58.mono hs5));have hs8:w.heap.size<=W8.heap.size:=yT hs5 hb58.size;have HJ9:=zh (join_any _ cel _ _ W8 HSw.out HSe.out (by simp only [yA,yB,zn8,yL];omega) (by omega) (jOk_small hje (by omega)));have HFy:Hid (final=.ok (znB (O++(⟨12,(N:Int)+1⟩ :: (znF (O.length+1) cbd++[⟨11,(N:Int)+1+cel.length⟩]))) cel,mx)):=zh (by rw [HFz.out];rw [Hne.out,ifC,yP rfl,HN.out];simp)
        generalize (O++(⟨12,(N:Int)+1⟩ :: (znF (O.length+1) cbd++[⟨11,(N:Int)+1+cel.length⟩])))=whole at *
        clear hO8 hb58 HFz;go_upto_region 43 with (fail)
        rw [<- HW8.out];go_wp2_with fail
        refine HJ9.out.mono ?_;rintro e9 w9 ⟨⟨v9,rfl,hO9⟩,hb9⟩;have HO9:=zh (znE hO9 hs8);have Hb9:=zh (Hb8.out.trans (hb9.mono hs8));clear hO9 hb9;go_wp2_with fail
        exact yE (v:=.tuple #[v9,.int .i64 mx,.int .i64 0]) (by simp [results,Try.results57,go_sem]) rfl ⟨by rw [HFy.out];exact ⟨_,rfl,HO9.out⟩,Hb9.out⟩
       ·have hel2:¬ (els.length:Int) > 0:=by omega
        have hne:decide (els≠[])=false:=by rw [decide_eq_false_iff_not];intro h;exact h (List.eq_nil_of_length_eq_zero (by omega))
        have Hne:=zh hne;clear hne;go_upto_region 42 with (fail)
        have hst:=hO6'.stored (O.length * 2+1) (.int .i64 (N:Int));have hf6:=hO6'.frozenAt;have hc6:w6.cell? ⟨g,O.length * 2+1,none⟩=some (.int .i64 O.length):=by rw [hO6'.cellAt (O.length * 2+1) (by omega)];exact cells_mid _ _ _
        obtain ⟨W8,hW8,hO8,hb58⟩:∃ W8,W8=w6.setCell ⟨g,O.length * 2+1,none⟩ (.int .i64 (N:Int))/\W8.ownsRow w5.heap.size 47 2 (.slice (some ⟨g,0,none⟩) N cp6) N (znH (O++(⟨12,(N:Int)⟩ :: znF (O.length+1) cbd)))/\Below w5.heap.size w5 W8:=⟨_,rfl,by rw [<- cells_patch];exact hst.1,(Hb56.out.setCell (by exact hg1) _)⟩;have HW8:=zh hW8;clear hO6' hst hW8;have HSe:Hid (SlC W8 cel (.slice ae3 cel.length ce3)):=zh (HE5.out.below hb58)
        have HSw:Hid (SlC W8 (O++(⟨12,(N:Int)⟩ :: znF (O.length+1) cbd)) _):=zh (by
         have h:=Sl.of_own hO8;unfold SlC;rw [show List.length (O++(⟨12,(N:Int)⟩ :: znF (O.length+1) cbd))=N from by simp only [yA,yB,zn8];have:=HN.out;omega]
         exact h)
        have Hb8:=zh (Hb5.out.trans (hb58.mono hs5));have hs8:w.heap.size<=W8.heap.size:=yT hs5 hb58.size;have HJ9:=zh (join_any _ cel _ _ W8 HSw.out HSe.out (by simp only [yA,yB,zn8];omega) (by omega) (jOk_small hje (by omega)));have HFy:Hid (final=.ok (znB (O++(⟨12,(N:Int)⟩ :: znF (O.length+1) cbd)) cel,mx)):=zh (by rw [HFz.out];rw [Hne.out,ifC,yN (by decide),HN.out];simp)
        generalize (O++(⟨12,(N:Int)⟩ :: znF (O.length+1) cbd))=whole at *
        clear hO8 hb58 HFz;go_upto_region 43 with (fail)
        rw [<- HW8.out];go_wp2_with fail
        refine HJ9.out.mono ?_;rintro e9 w9 ⟨⟨v9,rfl,hO9⟩,hb9⟩;have HO9:=zh (znE hO9 hs8);have Hb9:=zh (Hb8.out.trans (hb9.mono hs8));clear hO9 hb9;go_wp2_with fail
        exact yE (v:=.tuple #[v9,.int .i64 mx,.int .i64 0]) (by simp [results,Try.results57,go_sem]) rfl ⟨by rw [HFy.out];exact ⟨_,rfl,HO9.out⟩,Hb9.out⟩
   ·obtain ⟨ao,co,rfl,_,_⟩:=Sl.form HO.out.sl;go_wp2_with fail
    refine (HA.out _ Hbw.out).mono ?_;rintro e3 w3 ⟨he3,hb3⟩;have Hb3:=zh (Hbw.out.trans (hb3.mono hsr));have hs3:w.heap.size<=w3.heap.size:=yT hsr hb3.size;have HX3:=zh (HXr.out.below hb3 (zr _));have HO3:=zh (HO.out.below hb3);clear hb3 x0 x1 x2 x3 x4 x5 HO
    cases RB with
    | err q =>
     obtain ⟨rfl,hq⟩:=he3;have hq0:(q != 0)=true:=by rcases hq with rfl | rfl | rfl <;> rfl
     have Hq:=zh hq;have HFz:Hid (final=.err q):=zh HFq.out;clear HFq hq;go_wp2_with fail
     exact yE (v:=.tuple #[.slice none 0 0,.int .i64 0,.int .i64 q]) (by simp [results,Try.results57,go_sem]) rfl ⟨by rw [HFz.out];exact ⟨rfl,Hq.out⟩,Hb3.out⟩
    | ok rb =>
     obtain ⟨cbd,m⟩:=rb;obtain ⟨v3,rfl,hOb⟩:=he3;obtain ⟨hjb,hlb2,hmb⟩:=HBo.out _ rfl;have HOb:Hid (OwnC w3 wr.heap.size 47 v3 cbd):=zh hOb;have hjb:jOk cbd:=hjb;have hlb2:cbd.length<=400000:=hlb2;have hmb:m<=1000000:=hmb;obtain ⟨ab3,cb3,rfl,_,_⟩:=Sl.form hOb.sl;have x0:=HX3.out.cell (i:=0) rfl;have x5:=HX3.out.cell (i:=5) rfl;clear hOb;have HFz:Hid (final=.ok (zpC O cbd,m)):=zh HFq.out;have HOz:=HO3;have HBz:=HOb;clear HFq;go_wp2_with fail
     refine (HOne.out _ _ _).mono ?_;rintro e4 w4 ⟨⟨v4,rfl,hO4⟩,hb4⟩;have Hb4:=zh (Hb3.out.trans (hb4.mono hs3));have hs4:w.heap.size<=w4.heap.size:=yT hs3 hb4.size;have HOa:=zh (HOz.out.below hb4);have HBa:=zh (HBz.out.below hb4);have HJ:=zh (join_any O [⟨12,0⟩] _ v4 w4 HOa.out.sl hO4.sl (by omega) (by simp) (fun i hi hj=>by rw [List.mem_singleton] at hi;subst hi;exact ⟨by decide,by decide⟩));clear hb4 hO4;go_wp2_with fail
     refine HJ.out.mono ?_;rintro e5 w5 ⟨⟨v5,rfl,hO5⟩,hb5⟩;have Hb5:=zh (Hb4.out.trans (hb5.mono hs4));have hs5:w.heap.size<=w5.heap.size:=yT hs4 hb5.size;have HJ5:=zh (join_any (znB O [⟨12,0⟩]) cbd v5 _ w5 hO5.sl (HBa.out.below hb5).sl (by rw [znT];simp only [List.length_singleton];omega) (by omega) (jOk_small hjb (by omega)));clear hb5 hO5 HJ;go_wp2_with fail
     refine HJ5.out.mono ?_;rintro e6 w6 ⟨⟨v6,rfl,hO6⟩,hb6⟩;have Hb6:=zh (Hb5.out.trans (hb6.mono hs5));have hs6:w.heap.size<=w6.heap.size:=yT hs5 hb6.size;obtain ⟨N,hN⟩:∃ N,N=O.length+1+cbd.length:=⟨_,rfl⟩
     have hO6':w6.ownsRow w.heap.size 47 2 v6 N (znH (O++(⟨12,O.length⟩ :: znF (O.length+1) cbd))):=by
      have h:=znE hO6 hs5;rw [znT,znT,List.length_singleton,<- hN,whole_eq] at h;exact h
     obtain ⟨g,cp6,rfl,hg1,hg2⟩:=hO6'.form (by omega);clear hb6 hO6 HJ5;have hst:=hO6'.stored (O.length * 2+1) (.int .i64 ((N:Int)+1));have hf6:=hO6'.frozenAt
     have hc6:w6.cell? ⟨g,O.length * 2+1,none⟩=some (.int .i64 O.length):=by
      rw [hO6'.cellAt (O.length * 2+1) (by omega)];exact cells_mid _ _ _
     obtain ⟨W7,hW7,hO7,hb7⟩:∃ W7,W7=w6.setCell ⟨g,O.length * 2+1,none⟩ (.int .i64 ((N:Int)+1))/\W7.ownsRow w.heap.size 47 2 (.slice (some ⟨g,0,none⟩) N cp6) N (znH (O++(⟨12,(N:Int)+1⟩ :: znF (O.length+1) cbd)))/\Below w.heap.size w W7:=⟨_,rfl,by rw [<- cells_patch];exact hst.1,Hb6.out.setCell (by exact hg1) _⟩;have HW7:=zh hW7;have Hb7:=zh hb7;have hs7:=hb7.size;have hNo:(O.length:Int) < (N:Int):=by omega
     have hN6:(N:Int)<=1000000:=by omega
     have HN:=zh hN;clear hst hW7 hb7 hO6' hN;go_upto_region 33 with (fail)
     rw [<- HW7.out];go_wp2_with (at_builtin;refine zbj rfl (.tmp 108) (.tmp 110) 38 rfl hO7 info_rins Try.underlying38 rfl (by decide) rfl 1 1 rfl rfl rfl (by unfold maxLen;omega) (by omega) hs7 ?_;intro v' w8 hown8 hg8 hb8 hat8)
     have HO8:Hid (OwnC w8 w.heap.size 47 v' (zpC O cbd)):=zh (by
      have e:zpC O cbd=(O++(⟨12,(N:Int)+1⟩ :: znF (O.length+1) cbd))++[⟨11,0⟩]:=by
       unfold zpC;rw [HN.out];simp
      unfold OwnC;rw [whileC_len,show O.length+cbd.length+2=N+1 from by have:=HN.out;omega,e,zrL]
      exact hown8)
     have Hb8:=zh (Hb7.out.trans hb8);clear hown8 hg8 hb8 hat8 hO7;go_wp2_with fail
     exact yE (v:=.tuple #[v',.int .i64 m,.int .i64 0]) (by simp [results,Try.results57,go_sem]) rfl ⟨by rw [HFz.out];exact ⟨_,rfl,HO8.out⟩,Hb8.out⟩
   ·have HFz:Hid (final=.ok ([⟨14,0⟩],0)):=zh (by rw [HFq.out,codeT2_6]);clear HFq;go_wp2_with fail
    refine (HOne.out _ _ _).mono ?_;rintro e3 w3 ⟨⟨v3,rfl,hO3⟩,hb3⟩;have HO3:=zh (znE hO3 hsr);have Hb3:=zh (Hbw.out.trans (hb3.mono hsr));clear hb3 hO3;go_wp2_with fail
    exact yE (v:=.tuple #[v3,.int .i64 0,.int .i64 0]) (by simp [results,Try.results57,go_sem]) rfl ⟨by rw [HFz.out];exact ⟨_,rfl,HO3.out⟩,Hb3.out⟩
   ·have HFz:Hid (final=.ok ([⟨15,0⟩],0)):=zh (by rw [HFq.out,codeT2_7]);clear HFq;go_wp2_with fail
    refine (HOne.out _ _ _).mono ?_;rintro e3 w3 ⟨⟨v3,rfl,hO3⟩,hb3⟩;have HO3:=zh (znE hO3 hsr);have Hb3:=zh (Hbw.out.trans (hb3.mono hsr));clear hb3 hO3;go_wp2_with fail
    exact yE (v:=.tuple #[v3,.int .i64 0,.int .i64 0]) (by simp [results,Try.results57,go_sem]) rfl ⟨by rw [HFz.out];exact ⟨_,rfl,HO3.out⟩,Hb3.out⟩
end Go.Proofs.Ytdeneckmoejcfaa
