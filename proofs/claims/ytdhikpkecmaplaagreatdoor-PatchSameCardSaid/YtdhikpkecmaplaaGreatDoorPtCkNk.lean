/- The laws of patch: small, and Same of two books that are the same, walked. -/
import Derived.Test.YtdhikpkecmaplaaGreatDoorAwSMk
import Derived.Test.YtdhikpkecmaplaaGreatDoorBookMNk
import Derived.Test.YtdhikpkecmaplaaGreatDoorPrENk
set_option linter.unusedSimpArgs false
set_option linter.unusedVariables false
set_option maxRecDepth 100000
set_option maxHeartbeats 3000000
namespace Go.Proofs.YtdhikpkecmaplaaGreatDoor
open Go.RowKit

theorem sameSys_any {w:World} {l:List Sys} {v u:Value} (h1:Syss w l v) (h2:Syss w l u):Calls Tryz.prog 25 #[v,u] w (zbe true w):=by
 obtain ⟨a,ca,rfl,hca1,hca2⟩:=h1.form;obtain ⟨b,cb,rfl,hcb1,hcb2⟩:=h2.form;have H1:=zh h1;have H2:=zh h2;clear h1 h2;go_enter Tryz.func25,Tryz.ntmps25
 go_wp2_with fail
 go_loopw [4,5,11,12,13,14,15,16,17,18,19,20,21,22,23,24,25] (fun _ t5 _ _ _ _ _ _ _ _ _ _ _ _ _ _ _ wr=>∃ k:Nat,k<=l.length/\t5=.int .i64 k/\Hid (Below w.heap.size w wr)) (fun _ t5 _ _ _ _ _ _ _ _ _ _ _ _ _ _ _ _=>l.length - (intOf t5).toNat)
 case atStart=>exact ⟨0,by omega,by first | rfl | go_num,zh (yR _ _)⟩
 case round =>
  obtain ⟨k,hk,rfl,HB⟩:=hrel;by_cases hkl:k < l.length
  ·have hki:(k:Int) < (l.length:Int):=by omega
   have hcl:(l.length:Int)<=9223372036854775807:=by omega
   obtain ⟨g1,o1,rfl,hg1,hc1⟩:=(Syss.below H1.out HB.out (zr _)).at hkl;obtain ⟨g2,o2,rfl,hg2,hc2⟩:=(Syss.below H2.out HB.out (zr _)).at hkl;have c:=hc1 k hkl;have d:=hc2 k hkl;obtain ⟨c0,c1,c2,c3⟩:=c;obtain ⟨d0,d1,d2,d3⟩:=d;clear hc1 hc2;go_wp2_with fail
   refine zac (DrewOf _) (by kernel_rfl) (by kernel_rfl) (DrewOf.start _) ?_
   repeat
    try simp only [Act.put,zs1,zs3,zs2]
    apply stepsSeq.cons
    ·rintro w' ⟨nq,rfl⟩;simp only [Act.put,zs1,zs3,zs2];go_wp2_with (fail)
     first | exact ⟨rfl,nq,rfl⟩ | exact ⟨rfl,nq,(World.drewN_drewN _ _ _).symm⟩ | exact ⟨rfl,nq,by simp⟩
   try simp only [Act.put,zs1,zs3,zs2]
   refine stepsSeq.nil ?_;rintro w' ⟨nq,rfl⟩;go_wp2_with fail
   go_roundw
   case rel=>exact ⟨k+1,by omega,by go_num,zh (HB.out.trans (c:=wr.drewN nq) ⟨rfl,rfl,rfl,zr _,fun _ _=>rfl⟩)⟩
   case measure=>simp [intOf];omega
  ·have hki:¬ (k:Int) < (l.length:Int):=by omega
   go_wp2_with fail
   go_ret;exact ⟨rfl,HB.out⟩
def SmallE (a b c : Nat) (e : Ending) : Prop := ∃ q : Bool, e = .returned (.bool q) /\ (q = true -> a <= 20 /\ b <= 20 /\ c <= 40)
theorem small_any {w:World} {ys:List Sys} {b:Bk} {vs vc vp:Value} {B:Nat} (hB:B<=w.heap.size) (h:BkIn B w ys b vs vc vp) (hOk:BkOk ys b):Calls Tryz.prog 14 #[bkV b vs vc vp] w fun e w'=>SmallE ys.length b.scr.length b.pend.length e/\Below w.heap.size w w':=by
 obtain ⟨ay,cs,rfl,hcs1,hcs2⟩:=h.sys.form;obtain ⟨ac,cc,rfl,hcc1,hcc2⟩:=h.scr.form;obtain ⟨ap,cp,rfl,hcp1,hcp2⟩:=h.pend.form;have H:=zh h;obtain ⟨W0,hW0,hb0,hX,hs0⟩:=box1 w [.int .i64 b.tick,.slice ay ys.length cs,.slice ac b.scr.length cc,.slice ap b.pend.length cp] 26;have HW0:=zh hW0;have HX:=zh hX;have Hb0:=zh hb0;have HC:Hid (Strs W0 b.scr (.slice ac b.scr.length cc)):=zh (Strs.low h.scr hb0 (zr _));have HP:Hid (Pts W0 b.pend (.slice ap b.pend.length cp)):=zh (h.pend.below hb0 (zr _));unfold bkV;clear h H hW0 hb0 hX;go_enter Tryz.func14,Tryz.ntmps14
 go_upto_region 1 with (fail)
 rw [<- HW0.out];go_wp2_with fail
 go_loopw [3,4,6,7,8,9,10,11,12,13,14,15,16,17,18,19,20] (fun t3 t4 _ _ _ _ _ _ _ _ _ _ _ _ _ _ _ wr=>∃ (k:Nat) (z:Int),k<=b.scr.length/\t4=.int .i64 k/\t3=.int .i64 z/\Hid (Below W0.heap.size W0 wr)) (fun _ t4 _ _ _ _ _ _ _ _ _ _ _ _ _ _ _ _=>b.scr.length - (intOf t4).toNat)
 case atStart=>exact ⟨0,0,by omega,by first | rfl | go_num,by first | rfl | go_num,zh (yR _ _)⟩
 case round =>
  obtain ⟨k,z,hk,rfl,rfl,HB⟩:=hrel;have x2:=(HX.out.below HB.out (zr _)).cell (i:=2) rfl;by_cases hkl:k < b.scr.length
  ·have hki:(k:Int) < (b.scr.length:Int):=by omega
   have hcl:(b.scr.length:Int)<=9223372036854775807:=by omega
   obtain ⟨g1,o1,rfl,hg1,hc1⟩:=(Strs.low HC.out HB.out (zr _)).here (by omega);have c:=hc1 k hkl;clear hc1;go_wp2_with fail
   go_roundw
   case rel=>exact ⟨k+1,_,by omega,by go_num,rfl,HB⟩
   case measure=>simp [intOf];omega
  ·have hki:¬ (k:Int) < (b.scr.length:Int):=by omega
   go_wp2_with fail
   go_loopw [3,5,21,22,23,24,25,26,27,28,29,30,31,32,33,34,35,36] (fun t3 t5 _ _ _ _ _ _ _ _ _ _ _ _ _ _ _ _ wr=>∃ (k:Nat) (z:Int),k<=b.pend.length/\t5=.int .i64 k/\t3=.int .i64 z/\Hid (Below W0.heap.size W0 wr)) (fun _ t5 _ _ _ _ _ _ _ _ _ _ _ _ _ _ _ _ _=>b.pend.length - (intOf t5).toNat)
   case atStart=>exact ⟨0,z,by omega,by first | rfl | go_num,by first | rfl | go_num,HB⟩
   case round =>
    clear HB hk hkl hki x2;obtain ⟨k,z,hk,rfl,rfl,HB⟩:=hrel;have x3:=(HX.out.below HB.out (zr _)).cell (i:=3) rfl;by_cases hkl:k < b.pend.length
    ·have hki:(k:Int) < (b.pend.length:Int):=by omega
     have hcl:(b.pend.length:Int)<=9223372036854775807:=by omega
     obtain ⟨g1,o1,rfl,hg1,hc1⟩:=(HP.out.below HB.out (zr _)).at (by omega);obtain ⟨c0,c1,c2⟩:=hc1 k hkl;clear hc1;go_wp2_with fail
     go_roundw
     case rel=>exact ⟨k+1,_,by omega,by go_num,rfl,HB⟩
     case measure=>simp [intOf];omega
    ·have hki:¬ (k:Int) < (b.pend.length:Int):=by omega
     have x1:=(HX.out.below HB.out (zr _)).cell (i:=1) rfl;have x2:=(HX.out.below HB.out (zr _)).cell (i:=2) rfl;have Hbe:=zh (Hb0.out.trans (HB.out.mono Hb0.out.size));by_cases h1:(ys.length:Int)<=20
     all_goals by_cases h2:(b.scr.length:Int)<=20
     all_goals by_cases h3:(b.pend.length:Int)<=40
     all_goals by_cases h4:z<=6000
     all_goals
      go_wp2_with fail
      go_ret;exact ⟨⟨_,rfl,fun h=>by first | exact ⟨by omega,by omega,by omega⟩ | cases h⟩,Hbe.out⟩

theorem sl_nil (w:World) (sz:Nat):Sl w sz 0 [] (.slice none 0 0):=⟨none,0,rfl,zr _,by decide,(Nat.zero_mul _).symm,fun hn=>absurd hn (Nat.lt_irrefl 0)⟩

def ParG (s : List UInt8) (w' : World) (e : Ending) : Prop := ∃ a n c ln co f xs, e = .returned (.tuple #[.slice a n c, .int .i64 ln, .int .i64 co, .int .i64 f]) /\ SsL w' w'.heap.size xs (.slice a n c) /\ okSs xs /\ szSs xs <= 100000 /\ (f ≠ 0 -> znC s = ⟨zqz, ln, co, f⟩) /\ (f = 0 -> zbg s = .ok xs)
theorem par_gen {w:World} (hG:Glob w) (s:List UInt8) (hs:s.length<=9223372036854775807):Calls Tryz.prog 27 #[.string (bstr s)] w fun e w'=>ParG s w' e/\Below w.heap.size w w':=by
 refine (zbP hG (bstr s) (by rw [zcQ];exact hs)).mono ?_;rw [show (bstr s).data.toList=s by unfold bstr;simp];rintro e w' ⟨he,hb⟩;refine ⟨?_,hb⟩
 cases hp:zbg s with
 | err a c d =>
  rw [hp] at he;obtain ⟨rfl,h0⟩:=he
  exact ⟨none,0,0,a,c,d,[],rfl,⟨[],⟨none,0,rfl,zr _,by decide,rfl,by simp⟩,.inl rfl,.nil⟩,trivial,by simp [szSs],fun _=>zpI hp,fun h=>absurd h h0⟩
 | ok l =>
  rw [hp] at he;obtain ⟨v,rfl,cs,hR,hT⟩:=he;obtain ⟨hok,hsz⟩:=zq8 hp;have hL:SsL w' w'.heap.size l v:=zeM ⟨cs,hR,hT⟩;obtain ⟨a,c,rfl,-,-⟩:=hL.form;exact ⟨a,_,c,0,0,0,l,rfl,hL,hok,hsz,fun h=>absurd rfl h,fun _=>hp⟩

def cmB : List UInt8 := [35, 32, 116, 104, 101, 32, 115, 97, 109, 101, 10]
theorem cm_lex (t:List UInt8):lexF (cmB++t) 1 1=lexF t 2 1:=by
 have e:zam (cmB++t) false 1 1=zam t false 2 1:=by
  simp [cmB,zam]
 rw [zbY,zbY t,e]
theorem text_said {l:List St} (h:zaJ 40 l=true) (hok:okSs l) (hlen:(cmB++zaM [] l).length<=16384):zbg (cmB++zaM [] l)=.ok l:=by
 have hS:=zk1 40 l h hok;obtain ⟨us,a,c,h2,h1⟩:=lx_lines l (fun s hs=>lx_stmt (hS s hs)) [] [] (fun b hb=>by cases hb) 2 1;rw [List.append_nil,zda] at h1;have h3:lexF (cmB++zaM [] l) 1 1=.ok (us++[endT a c]):=(cm_lex _).trans h1;unfold zbg;rw [zcO,yN (by omega),h3];have hlen2:us.length=(toksTs l).length:=by rw [<- h2,List.length_map]
 have:=all_back (l:=us++[endT a c]) (d:=40) (by omega) l [] 0 ((us++[endT a c]).length+1) hS (zmV h2) (by rw [Nat.zero_add,<- hlen2];exact zl6 us a c) (by omega);simp only;rw [this];rfl
theorem comp_right {l:List St} {p:ProgS} (h:zol l=.ok p):zaJ 40 l=true:=by
 unfold zol at h;split at h
 ·rename_i h1;exact h1
 ·cases h
theorem long_err {s:List UInt8} (h:16384 < s.length):zbg s=.err 0 0 3:=by
 unfold zbg;rw [zcO,yP h]
structure SameI (ys : List Sys) (t : Int) (scr : List (List UInt8)) (k : Nat) (pend : List Pt) : Prop where
  sub : ∀ p ∈ pend, p.tick = t + 1 /\ 0 <= p.slot /\ p.slot < k /\ (scr.map znC)[p.slot.toNat]? = some (znC p.src) /\ p.src.length <= 16384
  vb : VB (znI ys) (rOf (errE ys)) ⟨t, scr, pend⟩
  len : pend.length <= k
theorem same_start {ys:List Sys} {b:Bk} (h:VB (znI ys) (rOf (errE ys)) b):SameI ys b.tick b.scr 0 []:=
 ⟨fun p hp=>(by cases hp),⟨h.lo,h.hi,h.sys,h.many,Nat.zero_le _,h.scr,fun p hp=>(by cases hp),.nil⟩,zr _⟩
theorem behind_none {t:Int}:∀ (l:List Pt),(∀ x ∈ l,x.tick<=t)->znZ t l=[]
 | [],_=>rfl
 | x :: r,h=>by
  unfold znZ;rw [List.dropWhile_cons,yP (by simpa using h x (List.mem_cons_self ..))];exact behind_none r (fun y hy=>h y (List.mem_cons_of_mem _ hy))
theorem same_put {t:Int} {pend:List Pt} {p:Pt} (h:∀ x ∈ pend,x.tick=t+1) (hp:p.tick=t+1):zok p pend=pend++[p]:=by
 have hb:znZ p.tick pend=[]:=behind_none pend fun x hx=>by rw [h x hx,hp];exact Int.le_refl _
 have hu:=zpZ p.tick pend;rw [hb,List.append_nil] at hu;unfold zok;rw [hb,hu]
theorem same_err {ys:List Sys} {t:Int} {scr:List (List UInt8)} {k:Nat} {pend:List Pt} {src s:List UInt8} (h:SameI ys t scr k pend) (hk:k < scr.length) (hs:scr[k]? = some s) (hp:znC src=znC s):errE ys (k:Int) src=0:=by
 have h1:=h.vb.scr k s hs;unfold rOf at h1;have h2:errE ys (k:Int) s=0:=by simpa using h1
 unfold errE at h2 ⊢;rw [hp];exact h2
theorem same_step {ys:List Sys} {t:Int} {scr:List (List UInt8)} {k:Nat} {pend:List Pt} {src s:List UInt8} (h:SameI ys t scr k pend) (ht:t < 1073741824) (hk:k < scr.length) (hs:scr[k]? = some s) (hp:znC src=znC s) (hl:src.length<=16384) :
  znO (znI ys) (errE ys) ⟨t,scr,pend⟩ ⟨t+1,k,src⟩=(some ⟨t,scr,pend++[⟨t+1,k,src⟩]⟩,false,0)/\SameI ys t scr (k+1) (pend++[⟨t+1,k,src⟩]):=by
 have he:=same_err h hk hs hp;have hm:=h.vb.many;have hm':scr.length<=16:=hm;have hlen:=h.len
 have hno:(pend.any fun x=>x.same ⟨t+1,k,src⟩)=false:=by
  rw [List.any_eq_false];intro x hx hq;obtain ⟨-,e⟩:=Pt.same_iff.1 hq;have:=(h.sub x hx).2.2.1;rw [e] at this;exact absurd this (Int.lt_irrefl _)
 have hput:zok ⟨t+1,(k:Int),src⟩ pend=pend++[⟨t+1,k,src⟩]:=same_put (fun x hx=>(h.sub x hx).1) rfl
 have hsub:znO (znI ys) (errE ys) ⟨t,scr,pend⟩ ⟨t+1,k,src⟩=(some ⟨t,scr,pend++[⟨t+1,k,src⟩]⟩,false,0):=by
  unfold znO;rw [valid_iff.2 h.vb];simp only;rw [yN (by rintro (e | e);cases e;omega),yN (by omega),yN (by omega),yN (fun e=>e he),yN (by rw [hno];decide),yN (by omega),hput]
 refine ⟨hsub,?_,(zqF hsub).2.1,?_⟩
 ·intro p hp2;rcases List.mem_append.1 hp2 with hp2 | hp2
  ·obtain ⟨a1,a2,a3,a4,a5⟩:=h.sub p hp2;exact ⟨a1,a2,by omega,a4,a5⟩
  ·rw [List.mem_singleton.1 hp2];refine ⟨rfl,by show (0:Int)<=(k:Int);omega,by show (k:Int) < ((k+1:Nat):Int);omega,?_,hl⟩;show (scr.map znC)[((k:Nat):Int).toNat]? = _;rw [Int.toNat_natCast,List.getElem?_map,hs,hp];rfl
 ·rw [yA,List.length_singleton];omega
theorem same_apply {β:Type} {f:List UInt8->β}:∀ (l:List Pt) (scr:List (List UInt8)),(∀ p ∈ l,(scr.map f)[p.slot.toNat]? = some (f p.src))->(zn4 scr l).map f=scr.map f:=by
 intro l
 induction l with
 | nil=>intro scr _;rfl
 | cons p r ih =>
  intro scr h;have h0:=h p (List.mem_cons_self ..)
  have e:(scr.set p.slot.toNat p.src).map f=scr.map f:=by
   rw [List.map_set];apply List.ext_getElem?;intro i;by_cases hi:p.slot.toNat=i
   ·subst hi;rw [List.getElem?_set_self (List.getElem?_eq_some_iff.1 h0).1,h0]
   ·rw [List.getElem?_set_ne hi]
  show (zn4 (scr.set p.slot.toNat p.src) r).map f=_;rw [ih _ (fun q hq=>by rw [e];exact h q (List.mem_cons_of_mem _ hq)),e]
theorem same_end {ys:List Sys} {t:Int} {scr:List (List UInt8)} {k:Nat} {pend:List Pt} (h:SameI ys t scr k pend) (ht:t < 1073741824) :
  zoe (znI ys) (rOf (errE ys)) ⟨t,scr,pend⟩ (t+1)=(some (⟨t+1,zn4 scr pend,[]⟩,pend),0)/\VB (znI ys) (rOf (errE ys)) ⟨t+1,zn4 scr pend,[]⟩/\((zn4 scr pend).map fun s=>(znC s).prog)=scr.map fun s=>(znC s).prog:=by
 have hb:znZ (t+1) pend=[]:=behind_none pend fun x hx=>by rw [(h.sub x hx).1];exact Int.le_refl _
 have hu:=zpZ (t+1) pend;rw [hb,List.append_nil] at hu;have hlo:=h.vb.lo
 have e:advB (t+1) ⟨t,scr,pend⟩=⟨t+1,zn4 scr pend,[]⟩:=by
  unfold advB;simp only;rw [hu,hb]
 have ha:zoe (znI ys) (rOf (errE ys)) ⟨t,scr,pend⟩ (t+1)=(some (⟨t+1,zn4 scr pend,[]⟩,pend),0):=by
  unfold zoe;rw [valid_iff.2 h.vb,yN (by have:0<=t:=hlo;rintro (h | h | h) <;> first | cases h | omega),yN (by show ¬ t+1 < t;omega),e];show (some (_,upTo (t+1) pend),_)=_;rw [hu]
 refine ⟨ha,?_,?_⟩
 ·have:=adv_valid (t:=t+1) h.vb (by show t<=t+1;omega) (by omega);rw [e] at this;exact this
 ·have h1:((zn4 scr pend).map znC)=scr.map znC:=same_apply pend scr fun p hp=>(h.sub p hp).2.2.2.1
  have h2:=congrArg (List.map ScS.prog) h1;rw [List.map_map,List.map_map] at h2;exact h2

theorem apply_ok {P:List UInt8->Prop}:∀ (l:List Pt) (s:List (List UInt8)),(∀ p ∈ l,P p.src)->(∀ x ∈ s,P x)->∀ x ∈ zn4 s l,P x
  | [],_,_,h=>h
  | p :: r, s, hp, h => apply_ok r _ (fun q hq => hp q (List.mem_cons_of_mem _ hq)) (fun x hx => by
      rcases List.mem_or_eq_of_mem_set hx with h1 | h1
      · exact h x h1
      · rw [h1];exact hp p (List.mem_cons_self ..))

theorem prgs_at {B:Nat} {w:World} {ps:List ProgS} {a:Option Addr} {n cap:Nat} (h:PrgsV B w ps (.slice a n cap)) {j:Nat} (hj:j < ps.length) :
  ∃ b off,a=some ⟨b,off,none⟩/\∃ (ac:Option Addr) (cc:Nat),w.cell? ⟨b,off+j * 4,none⟩=some (.slice ac ps[j].code.length cc)/\w.cell? ⟨b,off+j * 4+1,none⟩=some (.int .i64 ps[j].locals)/\w.cell? ⟨b,off+j * 4+2,none⟩=some (.int .u32 (w32 ps[j].reads))/\w.cell? ⟨b,off+j * 4+3,none⟩=some (.int .u32 (w32 ps[j].writes))/\SlC w ps[j].code (.slice ac ps[j].code.length cc):=by
 obtain ⟨xs,rfl,h2,h3⟩:=h;have hjl:j < xs.length:=by simpa using hj
 obtain ⟨b,off,e,-,hc⟩:=Sl.at (by omega) (Sl.of_own h2) (Nat.lt_of_le_of_lt (Nat.zero_le _) hjl);have f:=zeW zqf 4 (fun _=>rfl) xs j hjl;have f0:=f 0 (by omega);have f1:=f 1 (by omega);have f2:=f 2 (by omega);have f3:=f 3 (by omega);have d0:=hc (j * 4) (by omega);have d1:=hc (j * 4+1) (by omega);have d2:=hc (j * 4+2) (by omega);have d3:=hc (j * 4+3) (by omega);rw [Nat.add_zero] at f0;have hs:=Sl.of_own (h3 xs[j] (List.getElem_mem hjl));obtain ⟨ac,cc,e2,-,-⟩:=Sl.form hs;simp only [List.getElem_map];rw [<- Nat.add_assoc] at d1 d2 d3;refine ⟨b,off,e,ac,cc,?_,d1.trans f1,d2.trans f2,d3.trans f3,by rw [<- e2];exact hs⟩;rw [<- e2];exact d0.trans f0

theorem comp_len {l:List St} {p:ProgS} (hc:zol l=.ok p):p.code.length<=1000000:=by
 unfold zol at hc;split at hc
 ·cases hr:znQ [] l with
  | err k=>rw [hr] at hc;cases hc
  | ok r =>
   rw [hr] at hc;unfold CR.andThen at hc;simp only at hc;split at hc
   ·cases hc
   ·cases hc;simp only;omega
 ·cases hc
theorem comp_code {l:List St} {k:Int} (hc:zol l=.err k):k≠0:=by
 unfold zol at hc;split at hc
 ·cases hr:znQ [] l with
  | err k =>
   have:=zoT _ _ _ hr;rw [hr] at hc;cases hc
   omega
  | ok r =>
   rw [hr] at hc;unfold CR.andThen at hc;simp only at hc;split at hc
   ·cases hc;decide
   ·cases hc
 ·cases hc;decide
theorem press_small (s:List UInt8):(znC s).prog.code.length<=1000000:=by
 cases hp:zbg s with
 | err a b c=>rw [zpI hp];exact Nat.zero_le _
 | ok l =>
  cases hc:zol l with
  | err k=>rw [zpW hp hc];exact Nat.zero_le _
  | ok p=>rw [zpX hp hc];exact comp_len hc

structure DoS where
  kind : Int
  p : Pt
structure SafeI (w0 w : World) (gb Bs : Nat) (ys : List Sys) (b : Bk) (vs vc vp vt : Value) : Prop where
  below : Below w0.heap.size w0 w
  box : OwnV w gb 26 [.int .i64 b.tick, vs, vc, vp]
  bk : BkIn w.heap.size w ys b vs vc vp
  ok : BkOk ys b
  vb : VB (znI ys) (rOf (errE ys)) b
  scr : w.ownsRow Bs 9 1 vt b.scr.length (b.scr.map fun s => Value.string (bstr s))
  apart : ys.length = 0 ∨ ∀ g, vs.ownBlock = some g -> vt.ownBlock ≠ some g
  base : w0.heap.size <= Bs
  lo : w0.heap.size <= gb
theorem set_good {ys:List Sys} {b:Bk} {f:Int} (h:VB (znI ys) (rOf (errE ys)) b) (h0:0<=f) (h1:f<=10000):setB ys b f=true:=by
 unfold setB;rw [valid_iff.2 h,decide_eq_true h0,decide_eq_true h1];rfl
theorem own_ge {w:World} {B:Nat} {e:TypeId} {s n:Nat} {v:Value} {xs:List Value} (h:w.ownsRow B e s v n xs):∀ g,v.ownBlock=some g->B<=g:=fun g e=>(h.lt g e).1

theorem same_skip {ys:List Sys} {t:Int} {scr:List (List UInt8)} {k:Nat} {pend:List Pt} (h:SameI ys t scr k pend):SameI ys t scr (k+1) pend:=
 ⟨fun p hp=>by obtain ⟨a1,a2,a3,a4⟩:=h.sub p hp;exact ⟨a1,a2,by omega,a4⟩,h.vb,Nat.le_succ_of_le h.len⟩
theorem same_long {ys:List Sys} {t:Int} {scr:List (List UInt8)} {k:Nat} {pend:List Pt} {src:List UInt8} (h:SameI ys t scr k pend) (ht:t < 1073741824) (hk:k < scr.length) (hl:16384 < src.length):znO (znI ys) (errE ys) ⟨t,scr,pend⟩ ⟨t+1,k,src⟩=(none,true,3):=by
 have he:errE ys (k:Int) src=3:=by
  unfold errE;rw [zpI (long_err hl)];rfl
 unfold znO;rw [valid_iff.2 h.vb];simp only;rw [yN (by rintro (e | e);cases e;omega),yN (by omega),yN (by omega),yP (by rw [he];decide),he]
theorem same_press {ys:List Sys} {b:Bk} (h:VB (znI ys) (rOf (errE ys)) b) {k:Nat} {s:List UInt8} (hs:b.scr[k]? = some s):(znC s).e=0:=by
 have h1:=h.scr k s hs;unfold rOf at h1;exact zqo (by simpa using h1)
theorem press_get {s:List UInt8} {xs:List St} (h:(znC s).e=0) (hp:zbg s=.ok xs):∃ P,zol xs=.ok P/\znC s=⟨P,0,0,0⟩:=by
 cases hc:zol xs with
 | err k=>rw [zpW hp hc] at h;exact absurd (show k=0 from h) (comp_code hc)
 | ok P=>exact ⟨P,rfl,zpX hp hc⟩
theorem cat_cm (T:List UInt8):({ data:=#[35,32,116,104,101,32,115,97,109,101,10] }:ByteArray)++bstr T=bstr (cmB++T):=by
 apply ByteArray.ext;rw [ByteArray.data_append];unfold bstr cmB;simp
theorem same_yes40 (p:ProgS) (va vb:Value) (w:World) (hA:SlC w p.code va) (hB:SlC w p.code vb) (hl:p.code.length<=1000000):Calls Tryz.prog 29 #[zow p va,zow p vb] w (zbe true w):=by
 have h:=same_any p p va vb w hA hB hl hl
 have e:(sameC p.code p.code && (decide (p.locals=p.locals) && (decide (p.reads=p.reads) && decide (p.writes=p.writes))))=true:=by
  rw [(sameC_iff p.code p.code).2 rfl];simp
 rw [e] at h;exact h
theorem patchSame_any {w:World} {ys:List Sys} {b:Bk} {vs vc vp:Value} {seed:Int} (hG:Glob w) (hOk:BkOk ys b) (hB:BkIn w.heap.size w ys b vs vc vp):Calls Tryz.prog 4 #[bkV b vs vc vp,.int .u64 seed] w (zbe true w):=by
 obtain ⟨ay,cy,rfl,-,-⟩:=hB.sys.form;obtain ⟨ac,cc,rfl,-,-⟩:=hB.scr.form;obtain ⟨ap,cp,rfl,-,-⟩:=hB.pend.form;have HG:Hid (∀ W,Below w.heap.size w W->Glob W):=zh (fun W hb=>hG.below hb hG.size);have HB:Hid (∀ W,Below w.heap.size w W->BkIn W.heap.size W ys b (.slice ay ys.length cy) (.slice ac b.scr.length cc) (.slice ap b.pend.length cp)):=zh (fun W hb=>(hB.below hb).mono hb.size);have Hok:=zh hOk;have HSm:Hid (∀ W,Below w.heap.size w W->Calls Tryz.prog 14 #[.agg #[.int .i64 b.tick,.slice ay ys.length cy,.slice ac b.scr.length cc,.slice ap b.pend.length cp]] W fun e w'=>SmallE ys.length b.scr.length b.pend.length e/\Below W.heap.size W w'):=zh (fun W hb=>small_any (zr _) (HB.out W hb) hOk);have HVl:Hid (∀ W,Below w.heap.size w W->Calls Tryz.prog 15 #[.agg #[.int .i64 b.tick,.slice ay ys.length cy,.slice ac b.scr.length cc,.slice ap b.pend.length cp]] W (zbe (znM (znI ys) (rOf (errE ys)) b) W)):=zh (fun W hb=>zri (HG.out W hb) hOk (HB.out W hb));obtain ⟨W0,hW0,hb0,hX,hs0⟩:=box1 w [.int .i64 b.tick,.slice ay ys.length cy,.slice ac b.scr.length cc,.slice ap b.pend.length cp] 26;have HAw:=zh (zqE (HG.out W0 hb0));have HW0:=zh hW0;have HX:=zh hX;have Hb0:=zh hb0;unfold bkV;clear hG hOk hB hW0 hX hb0 hs0;go_enter Tryz.func4,Tryz.ntmps4
 go_upto_region 1 with (fail)
 rw [<- HW0.out];go_wp2_with fail
 go_at_call 13;refine HAw.out.mono ?_;rintro e1 w1 ⟨rfl,hb⟩;have Hb1:=zh (Hb0.out.trans (hb.mono Hb0.out.size));have HX:=zh (HX.out.below hb (zr _));clear hb Hb0;obtain ⟨x0,x1,x2,x3⟩:=yc4 HX.out;go_wp2_with fail
 refine (HSm.out _ Hb1.out).mono ?_;rintro e2 w2 ⟨⟨q,rfl,hq⟩,hb⟩;have Hb2:=zh (Hb1.out.trans (hb.mono Hb1.out.size));have HX:=zh (HX.out.below hb (zr _));clear hb Hb1 x0 x1 x2 x3;obtain ⟨x0,x1,x2,x3⟩:=yc4 HX.out
 cases q with
 | false =>
  go_wp2_with fail
  go_ret
  exact ⟨rfl,Hb2.out⟩
 | true =>
 obtain ⟨hq1,hq2,hq3⟩:=hq rfl;clear hq;go_wp2_with fail
 refine (HVl.out _ Hb2.out).mono ?_;rintro e3 w3 ⟨rfl,hb⟩;have Hb3:=zh (Hb2.out.trans (hb.mono Hb2.out.size));have HX:=zh (HX.out.below hb (zr _));clear hb Hb2 x0 x1 x2 x3;obtain ⟨x0,x1,x2,x3⟩:=yc4 HX.out;obtain ⟨q,hq⟩:∃ q,znM (znI ys) (rOf (errE ys)) b=q:=⟨_,rfl⟩;rw [hq]
 cases q with
 | false =>
  go_wp2_with fail
  go_ret
  exact ⟨rfl,Hb3.out⟩
 | true =>
 have HV:=zh hq;clear hq;have x0:=HX.out.cell (i:=0) rfl;by_cases htm:b.tick >= 1073741824
 ·go_wp2_with fail
  go_ret;exact ⟨rfl,Hb3.out⟩
 have Htm:=zh (show b.tick < 1073741824 by omega);have x3:=HX.out.cell (i:=3) rfl;have xf:=HX.out.free;obtain ⟨W4,hW4,hX4,ho4⟩:∃ W4,W4=w3.setCell ⟨w.heap.size,3,none⟩ (.slice none 0 0)/\OwnV W4 w.heap.size 26 [.int .i64 b.tick,.slice ay ys.length cy,.slice ac b.scr.length cc,.slice none 0 0]/\Only (fun k=>k=w.heap.size) w3 W4:=⟨_,rfl,HX.out.set 3 _,(Only.refl (fun k=>k=w.heap.size) w3).setIn rfl _⟩;have hb4:=Hb3.out.trans (ho4.below (B:=w.heap.size) (fun k e=>by have e':k=w.heap.size:=e;omega) Hb3.out.size);have Hb4:=zh hb4;have HVB:=zh (same_start (valid_iff.1 HV.out));have Hok0:Hid (∀ pend,(∀ p ∈ pend,okI p.tick/\okI p.slot/\p.src.length<=9223372036854775807)->BkOk ys ⟨b.tick,b.scr,pend⟩):=zh (fun pend h=>⟨Hok.out.sys,Hok.out.tick,Hok.out.scr,h⟩);have hB4:BkIn W4.heap.size W4 ys ⟨b.tick,b.scr,[]⟩ (.slice ay ys.length cy) (.slice ac b.scr.length cc) (.slice none 0 0):=⟨(HB.out _ hb4).sys,(HB.out _ hb4).scr,sl_nil _ 3,(HB.out _ hb4).l1,(HB.out _ hb4).l2,.inl rfl⟩;have HB4:=zh hB4;have hst:=zh (zsf (seed:=seed) (fuel:=50) (HG.out _ hb4) (Hok0.out [] (fun p hp=>by cases hp)) hB4);rw [set_good HVB.out.vb (by decide) (by decide)] at hst;unfold bkV at hst;have hs34:=ho4.size;have hglt:=HX.out.lt;have HX4:=zh hX4;have HW4:=zh hW4;have hbs:b.scr.length<=16:=(valid_iff.1 HV.out).many;have hys:ys.length<=16:=zph (valid_iff.1 HV.out).sys;clear hb4 hB4 hX4 hW4 ho4 HX Hb3 HSm HVl HAw;go_upto_region 6 with (fail)
 rw [<- HW4.out];clear x0 x3 xf;obtain ⟨x0,x1,x2,x3⟩:=yc4 HX4.out;go_wp2_with fail
 go_at_call 22;refine hst.out.mono ?_;rintro e5 w5 ⟨⟨us,ul,rfl,hr1,hr2⟩,hb5⟩;obtain ⟨au,cu,rfl,-,-⟩:=Sl.form (Sl.of_own hr1);obtain ⟨aq,cq,rfl⟩:=hr2.len;obtain ⟨pn,hpn⟩:∃ pn,(b.scr.map fun s=>(znC s).prog).length=pn:=⟨_,rfl⟩;have hpb:pn<=b.scr.length:=by rw [<- hpn,List.length_map];exact zr _
 have Hpn:=zh hpn;rw [hpn] at hr2 ⊢;obtain ⟨W5,hW5,hb6,hSt,hs5⟩:=box1 w5 [.slice au ys.length cu,.slice aq pn cq,.int .u64 seed,.int .i64 50] 49;have hb45:Below W4.heap.size W4 W5:=hb5.trans (hb6.mono hb5.size);have HW5:=zh hW5;have HR1:Hid (Syss W5 ys (.slice au ys.length cu)):=zh (Syss.below (Sl.of_own hr1) hb6 (zr _));have HR2:=zh (hr2.below hb6);have HSt:=zh hSt;have HX5:=zh (HX4.out.below hb45 (zr _));have HB5:=zh ((HB4.out.below hb45).mono hb45.size);have Hb5:=zh (Hb4.out.trans (hb45.mono Hb4.out.size));have hlS:=hSt.lt;have hs45:=hb5.size;have hu5:∀ g,(Value.slice au ys.length cu).ownBlock=some g->¬ g=w.heap.size:=fun g e e2=>by have:=(hr1.lt g e).1;omega
 have Hu5:=zh hu5;have Hlow4:=zh (show w.heap.size < W4.heap.size from HX4.out.lt);clear hr1 hr2 hb5 hW5 hb6 hSt hs5 hb45 hst HX4 HB4 Hb4 x0 x1 x2 x3 hpn hu5;go_upto_region 7 with (fail)
 rw [<- HW5.out];go_wp2_with fail
 go_loopw [4,7,8,9,10,11,12,13,14,15,16,45,46,47,48,49,50,51,52,53,54,55,56,57,58,59,60,61,62,63,64,65,66,67,68,69,70,71,72,73,74,75,76,77,78,79,80,81,82,83,84,85,86,87,88] (fun _ t7 _ _ _ _ _ _ _ _ _ _ _ _ _ _ _ _ _ _ _ _ _ _ _ _ _ _ _ _ _ _ _ _ _ _ _ _ _ _ _ _ _ _ _ _ _ _ _ _ _ _ _ _ _ wr=>∃ (k:Nat) (pend:List Pt) (a1 a2 a3:Option Addr) (k1 k2 k3:Nat),k<=b.scr.length/\t7=.int .i64 k/\Hid (SameI ys b.tick b.scr k pend)/\Hid (OwnV wr w.heap.size 26 [.int .i64 b.tick,.slice a1 ys.length k1,.slice a2 b.scr.length k2,.slice a3 pend.length k3])/\Hid (BkIn wr.heap.size wr ys ⟨b.tick,b.scr,pend⟩ (.slice a1 ys.length k1) (.slice a2 b.scr.length k2) (.slice a3 pend.length k3))/\Hid (Only (fun g=>g=w.heap.size) W5 wr)) (fun _ t7 _ _ _ _ _ _ _ _ _ _ _ _ _ _ _ _ _ _ _ _ _ _ _ _ _ _ _ _ _ _ _ _ _ _ _ _ _ _ _ _ _ _ _ _ _ _ _ _ _ _ _ _ _ _=>b.scr.length - (intOf t7).toNat)
 case atStart=>exact ⟨0,[],ay,ac,none,cy,cc,0,by omega,by first | rfl | go_num,HVB,HX5,HB5,zh (Only.refl _ _)⟩
 case round =>
  clear HX5 HB5;obtain ⟨k,pend,a1,a2,a3,k1,k2,k3,hk,rfl,HI,HX,HB,HO⟩:=hrel;have hbw:=Hb5.out.trans (HO.out.below (B:=w.heap.size) (fun g e=>by have e':g=w.heap.size:=e;omega) Hb5.out.size);have Hbw:=zh hbw;have x2:=HX.out.cell (i:=2) rfl;have hpl:pend.length<=16:=by have:=HI.out.len;omega
  have hpok:∀ p ∈ pend,okI p.tick/\okI p.slot/\p.src.length<=9223372036854775807:=fun p hp=>by
   obtain ⟨e1,e2,e3,-,e5⟩:=HI.out.sub p hp;have h1:=HI.out.vb.lo;have h2:=HI.out.vb.hi;simp only at h1 h2;exact ⟨⟨by omega,by omega⟩,⟨by omega,by omega⟩,by omega⟩
  have Hpok:=zh hpok
  have hwt:IntKind.i64.wrap (b.tick+1)=b.tick+1:=by
   have h1:=HI.out.vb.lo;simp only at h1;have:=Htm.out;rw [IntKind.wrap_i64];omega
  clear hpok hbw;by_cases hkl:k < b.scr.length
  ·have hki:(k:Int) < (b.scr.length:Int):=by omega
   have hll:(b.scr.length:Int)<=16:=by omega
   obtain ⟨g1,o1,rfl,hg1,hc1⟩:=Strs.here HB.out.scr (by show 0 < b.scr.length;omega);have c0:=hc1 k hkl;simp only at c0;have hsk:b.scr[k]? = some b.scr[k]:=yD hkl;have hsl:=Hok.out.scr _ (List.getElem_mem hkl);have Hsk:=zh hsk
   generalize b.scr[k]=s at *
   have hpr:=same_press HI.out.vb (k:=k) hsk;have hpar:=zh (par_gen (HG.out _ Hbw.out) s hsl);have Hpr:=zh hpr;clear hc1 hsk hpr;go_wp2_with fail
   go_at_call 27;refine hpar.out.mono ?_;rintro e6 w6 ⟨⟨la,ln,lc,pl,pc,f,xs,rfl,hL,hok,hsz,hf1,hf2⟩,hb6⟩
   obtain rfl:f=0:=by
    rcases Int.decEq f 0 with e | e
    ·exfalso;have h1:=hf1 e;have h2:=Hpr.out;rw [h1] at h2;exact e h2
    ·exact e
   have hps:=hf2 rfl;obtain ⟨P,hcm,hpp⟩:=press_get Hpr.out hps;have Hpp:=zh hpp;have Hcm:=zh hcm;have hrt:=comp_right hcm;have hb56:=Hbw.out.trans (hb6.mono Hbw.out.size);have htx:=zh (zmF (B:=w6.heap.size) (HG.out _ hb56) hok hL (zr _) (yT hsz (by decide)));have hts:zhE xs=zdN (zaM [] xs):=yP hrt;rw [hts] at htx;have Hrt:=zh hrt;have Hxo:=zh hok;have Hb6:=zh hb6;clear hL hok hsz hf1 hf2 hb6 hps hcm hpp hrt hb56 hts hpar x2;unfold zdN at htx;by_cases hlong:16384 < (zaM [] xs).length
   ·rw [yP hlong] at htx;go_wp2_with fail
    go_at_call 28;refine htx.out.mono ?_;rintro e7 w7 ⟨rfl,hb7⟩;have hb:=Hb6.out.trans (hb7.mono Hb6.out.size);have HX7:=zh (HX.out.below hb (zr _));have HB7:=zh ((HB.out.below hb).mono hb.size);have HO7:=zh (HO.out.trans (Only.of_below hb));clear hb hb7 c0;go_wp2_with fail
    go_roundw
    case rel=>exact ⟨k+1,pend,a1,_,a3,k1,k2,k3,by omega,by go_num,zh (same_skip HI.out),HX7,HB7,HO7⟩
    case measure=>simp [intOf];omega
   rw [yN hlong] at htx;have hTl:((bstr (zaM [] xs)).size:Int)<=16384:=by rw [zcQ];omega
   have Hlong:=zh (show (zaM [] xs).length<=16384 by omega);have hTn:(bstr (zaM [] xs)).size=(zaM [] xs).length:=zcQ _;have hback:=fun h=>text_said (l:=xs) Hrt.out Hxo.out h
   have Hback:=zh hback;clear hlong hback
   generalize zaM [] xs=T at *
   have hcat:=cat_cm T;go_wp2_with fail
   go_at_call 28;refine htx.out.mono ?_;rintro e7 w7 ⟨rfl,hb7⟩;have hb:=Hb6.out.trans (hb7.mono Hb6.out.size);have hbg:=Hbw.out.trans (hb.mono Hbw.out.size);have HX7:=zh (HX.out.below hb (zr _));have HB7:=zh ((HB.out.below hb).mono hb.size);have HO7:=zh (HO.out.trans (Only.of_below hb));have hcl:(cmB++T).length=11+T.length:=by rw [yA];rfl
   have hsb:=zh (zpw (p:=⟨b.tick+1,k,cmB++T⟩) (HG.out _ hbg) (Hok0.out pend Hpok.out) (by show (cmB++T).length<=_;have:=Hlong.out;omega) HB7.out);unfold bkV Pt.val at hsb;simp only at hsb;obtain ⟨x0,x1,x2,x3⟩:=yc4 HX7.out;have hlw7:w.heap.size < w7.heap.size:=HX7.out.lt;have Hbg:=zh hbg;clear hb hb7 c0 htx hbg;rcases Nat.lt_or_ge 16384 (cmB++T).length with hL | hL
   ·rw [same_long HI.out Htm.out hkl hL] at hsb;have hgt:((bstr T).size:Int) > 16373:=by rw [zcQ];omega
    clear hL;go_wp2_with fail
    go_at_call 18;refine hsb.out.mono ?_;rintro e8 w8 ⟨⟨rfl,-⟩,hb8⟩;unfold zor;generalize cond true (znC (cmB++T)).line 0=L;generalize cond true (znC (cmB++T)).col 0=C;obtain ⟨W9,hW9,hb9,-,-,-⟩:=zqb w8 [.int .i64 0,.slice none 0 0,.slice none 0 0,.slice none 0 0] [.int .i64 L,.int .i64 C] 26 38;have Hb9:=zh (Hbg.out.trans ((hb8.trans (hb9.mono hb8.size)).mono Hbg.out.size));have HW9:=zh hW9;clear hW9 hb9 hb8 hsb x0 x1 x2 x3;go_upto_region 14 with (fail)
    rw [<- HW9.out];go_wp2_with fail
    go_ret;exact ⟨by first | rfl | (simp [hgt];done) | (simp;omega),Hb9.out⟩
   ·have hst2:=same_step HI.out Htm.out hkl Hsk.out (src:=cmB++T) ((zpX (Hback.out hL) Hcm.out).trans Hpp.out.symm) hL;obtain ⟨q,hq⟩:∃ q:Pt,(⟨b.tick+1,k,cmB++T⟩:Pt)=q:=⟨_,rfl⟩;rw [hst2.1] at hsb;have hI9:=hst2.2;rw [hq] at hsb hI9;have HI9:=zh hI9;obtain ⟨pd,hpd⟩:∃ pd,pend++[q]=pd:=⟨_,rfl⟩;rw [hpd] at hsb HI9;clear hst2 hL hI9 hq hpd;go_wp2_with fail
    go_at_call 18;refine hsb.out.mono ?_;rintro e8 w8 ⟨⟨us2,uc2,up2,rfl,hO⟩,hb8⟩;unfold bkV;obtain ⟨m1,q1,rfl,-,-⟩:=Sl.form (Sl.of_own hO.sys);obtain ⟨m2,q2,rfl,-,-⟩:=Sl.form (Sl.of_own hO.scr);obtain ⟨m3,q3,rfl,-,-⟩:=Sl.form (Sl.of_own hO.pend)
    simp only at *
    obtain ⟨W9,hW9,hb9,hN,-,-⟩:=zqb w8 [.int .i64 b.tick,.slice m1 ys.length q1,.slice m2 b.scr.length q2,.slice m3 pd.length q3] [.int .i64 0,.int .i64 0] 26 38;have hb79:Below w7.heap.size w7 W9:=hb8.trans (hb9.mono hb8.size);have hX9:=HX7.out.below hb79 (zr _);have hB9:=(hO.bk.below hb9).mono hb9.size;have HW9:=zh hW9;obtain ⟨u0,u1,u2,u3⟩:=yc4 hN;obtain ⟨z0,z1,z2,z3⟩:=yc4 hX9;have zf:=hX9.free;obtain ⟨W10,hW10,hX10,hg10⟩:=set4 hX9 (.int .i64 b.tick) (.slice m1 ys.length q1) (.slice m2 b.scr.length q2) (.slice m3 pd.length q3);have ho10:Only (fun k=>k=w.heap.size) W9 W10:=Only.of_grown hg10 (fun r e=>by cases e;rfl);have hge:∀ g,w7.heap.size<=g->¬ g=w.heap.size:=fun g e e2=>by omega
    have HX10:=zh hX10;have HB10:Hid (BkIn W10.heap.size W10 ys ⟨b.tick,b.scr,pd⟩ (.slice m1 ys.length q1) (.slice m2 b.scr.length q2) (.slice m3 pd.length q3)):=zh ⟨ho10.sl hB9.sys (.inr fun g e=>hge g (own_ge hO.sys g e)),ho10.sl hB9.scr (.inr fun g e=>hge g (own_ge hO.scr g e)),ho10.sl hB9.pend (.inr fun g e=>hge g (own_ge hO.pend g e)),hB9.l1.mono ho10.size,hB9.l2.mono ho10.size,hB9.l3.mono ho10.size⟩;have HO10:=zh ((HO7.out.trans (Only.of_below hb79)).trans' ho10);have HW10:=zh hW10;clear hb8 hO hW9 hb9 hN hb79 hX9 hB9 hW10 hX10 hg10 ho10 hge hsb x0 x1 x2 x3;go_upto_region 14 with (fail)
    rw [<- HW9.out];go_wp2_with fail
    rw [<- HW10.out];go_roundw
    case rel=>exact ⟨k+1,pd,m1,m2,m3,q1,q2,q3,by omega,by go_num,HI9,HX10,HB10,HO10⟩
    case measure=>simp [intOf];omega
  ·have hki:¬ (k:Int) < (b.scr.length:Int):=by omega
   obtain ⟨he1,he2,he3⟩:=same_end HI.out Htm.out;have had:=zh (zq4 (t:=b.tick+1) (HG.out _ Hbw.out) (Hok0.out pend Hpok.out) HB.out);rw [he1] at had;unfold bkV at had;simp only at had;have x0:=HX.out.cell (i:=0) rfl;have x1:=HX.out.cell (i:=1) rfl;have x3:=HX.out.cell (i:=3) rfl;have hokc:BkOk ys ⟨b.tick+1,zn4 b.scr pend,[]⟩:=⟨Hok.out.sys,by have h1:=HI.out.vb.lo;simp only at h1;have:=Htm.out;exact ⟨by show _<=b.tick+1;omega,by show b.tick+1<=_;omega⟩,apply_ok _ _ (fun p hp=>(Hpok.out p hp).2.2) Hok.out.scr,fun p hp=>by cases hp⟩;have Hokc:=zh hokc;have He2:=zh he2;have He3:=zh he3;have hal:(zn4 b.scr pend).length=b.scr.length:=zpz _ _;have HSt2:=zh (HO.out.own HSt.out (show ¬ w5.heap.size=w.heap.size by have:=Hlow4.out;omega));have HR12:Hid (Syss wr ys (.slice au ys.length cu)):=zh (HO.out.sl HR1.out (.inr Hu5.out));have HR22:=zh (HR2.out.only HO.out (fun g e=>by have e':g=w.heap.size:=e;have:=Hlow4.out;omega));clear he1 he2 he3 hokc;go_wp2_with fail
   go_at_call 20;refine had.out.mono ?_;rintro e8 w8 ⟨⟨us2,uc2,up2,ul2,rfl,r1,r2,r3,r5⟩,hb8⟩;have hBk:=adv_bk (c:=⟨b.tick+1,zn4 b.scr pend,[]⟩) r1 r2 r3;unfold bkV;obtain ⟨m1,q1,rfl,-,-⟩:=hBk.sys.form;obtain ⟨m2,q2,rfl,-,-⟩:=hBk.scr.form;obtain ⟨m3,q3,rfl,-,-⟩:=hBk.pend.form;obtain ⟨m4,q4,rfl,-,-⟩:=Sl.form (Sl.of_own r5)
   simp only [yL] at *
   obtain ⟨sn,hsn⟩:∃ sn,(zn4 b.scr pend).length=sn:=⟨_,rfl⟩;rw [hsn] at hBk ⊢;obtain ⟨W9,hW9,hb9,hN,-⟩:=box1 w8 [.int .i64 (b.tick+1),.slice m1 ys.length q1,.slice m2 sn q2,.slice m3 0 q3] 26;have hb19:Below wr.heap.size wr W9:=hb8.trans (hb9.mono hb8.size);have Hb19:=zh hb19;have hbg9:=Hbw.out.trans (hb19.mono Hbw.out.size);have Hbg9:=zh hbg9;have hst3:=zh (zsf (seed:=seed) (fuel:=50) (HG.out _ hbg9) Hokc.out ((hBk.below hb9).mono hb9.size));rw [set_good He2.out (by decide) (by decide)] at hst3;have hst4:Hid (Calls Tryz.prog 22 #[.agg #[.int .i64 (b.tick+1),.slice m1 ys.length q1,.slice m2 sn q2,.slice m3 0 q3],.int .u64 seed,.int .i64 50] W9 fun e w'=>SetE W9 w' ys (b.scr.map fun s=>(znC s).prog) seed 50 e true/\Below W9.heap.size W9 w'):=zh (by have h:=hst3.out;rw [He3.out] at h;exact h);have HW9:=zh hW9;have HN:=zh hN;obtain ⟨u0,u1,u2,u3⟩:=yc4 hN;clear r1 r2 r3 r5 hb8 hBk hW9 hb9 hN hb19 hbg9 hst3 had x0 x1 x2 x3;go_upto_region 18 with (fail)
   rw [<- HW9.out];go_wp2_with fail
   go_at_call 22;refine hst4.out.mono ?_;rintro e10 w10 ⟨⟨us3,ul3,rfl,s1,s2⟩,hb10⟩;obtain ⟨au3,cu3,rfl,-,-⟩:=Sl.form (Sl.of_own s1);obtain ⟨aq3,cq3,rfl⟩:=s2.len;rw [Hpn.out] at s2 ⊢;obtain ⟨W11,hW11,hb11,hS3,-⟩:=box1 w10 [.slice au3 ys.length cu3,.slice aq3 pn cq3,.int .u64 seed,.int .i64 50] 49;have hb9b:Below W9.heap.size W9 W11:=hb10.trans (hb11.mono hb10.size);have hbr:Below wr.heap.size wr W11:=Hb19.out.trans (hb9b.mono Hb19.out.size);have HW11:=zh hW11;have HS3:=zh hS3;have HR13:Hid (Syss W11 ys (.slice au3 ys.length cu3)):=zh (Syss.below (Sl.of_own s1) hb11 (zr _));have HR23:=zh (s2.below hb11);have HSt3:=zh (HSt2.out.below hbr (zr _));have HR14:Hid (Syss W11 ys (.slice au ys.length cu)):=zh (Syss.below HR12.out hbr (zr _));have HR24:=zh (HR22.out.below hbr);have Hbg11:=zh (Hbw.out.trans (hbr.mono Hbw.out.size));have x3:=(HX.out.below hbr (zr _)).cell (i:=3) rfl;have u3:=(HN.out.below hb9b (zr _)).cell (i:=3) rfl;obtain ⟨s0,s1'⟩:=yc2 HSt3.out;obtain ⟨t0,t1⟩:=yc2 hS3;have hsys:=zh (sameSys_any HR14.out HR13.out);clear s1 s2 hb10 hW11 hb11 hS3 hb9b hbr u0 u1 u2 hst4;go_upto_region 19 with (fail)
   rw [<- HW11.out];go_wp2_with fail
   go_at_call 25;refine hsys.out.mono ?_;rintro e12 w12 ⟨rfl,hb12⟩;have Hb12:=zh hb12;have hpn16:(pn:Int)<=16:=by omega
   clear hb12 x3 u3 s0 s1' t0 t1 hsys;go_wp2_with fail
   go_loopw [4,22,145,146,147,148,149,150,151,152,153,154,155,156,157,158,159,160,161,162,163] (fun _ t22 _ _ _ _ _ _ _ _ _ _ _ _ _ _ _ _ _ _ _ wr=>∃ j:Nat,j<=pn/\t22=.int .i64 j/\Hid (Below W11.heap.size W11 wr)) (fun _ t22 _ _ _ _ _ _ _ _ _ _ _ _ _ _ _ _ _ _ _ _=>pn - (intOf t22).toNat)
   case atStart=>exact ⟨0,by omega,by first | rfl | go_num,Hb12⟩
   case round =>
    obtain ⟨j,hj,rfl,HL3⟩:=hrel;have s1:=(HSt3.out.below HL3.out (zr _)).cell (i:=1) rfl;by_cases hjl:j < pn
    ·as_aux_lemma =>
      have hji:(j:Int) < (pn:Int):=by omega
      have t1:=(HS3.out.below HL3.out (zr _)).cell (i:=1) rfl;have hjl2:j < (b.scr.map fun s=>(znC s).prog).length:=by rw [Hpn.out];exact hjl
      obtain ⟨g1,o1,rfl,ac,cc,c0,c1,c2,c3,hC1⟩:=prgs_at (HR24.out.below HL3.out) hjl2;obtain ⟨g2,o2,rfl,ac2,cc2,d0,d1,d2,d3,hC2⟩:=prgs_at (HR23.out.below HL3.out) hjl2;have hsm:((b.scr.map fun s=>(znC s).prog)[j]).code.length<=1000000:=by rw [List.getElem_map];exact press_small _
      generalize (b.scr.map fun s=>(znC s).prog)[j]=P at *
      have HSa:=zh (fun W (h:Below wr.heap.size wr W)=>same_yes40 P _ _ W (SlC.below hC1 h) (SlC.below hC2 h) hsm);unfold zow at HSa;clear hC1 hC2 hsm hjl2;go_wp2_with fail
      refine zac (fun w'=>Below wr.heap.size wr w') (by kernel_rfl) (by kernel_rfl) ((yR _ _).drew) ?_
      repeat
       try simp only [Act.put,zs1,zs3,zs2]
       apply stepsSeq.cons
       ·intro w' hb1;have Hb1':=zh hb1;have s1':=Below.keep hb1 s1;have t1':=Below.keep hb1 t1;have c0':=Below.keep hb1 c0;have c1':=Below.keep hb1 c1;have c2':=Below.keep hb1 c2;have c3':=Below.keep hb1 c3;have d0':=Below.keep hb1 d0;have d1':=Below.keep hb1 d1;have d2':=Below.keep hb1 d2;have d3':=Below.keep hb1 d3;simp only [Act.put,zs1,zs3,zs2];go_wp2_with (go_at_call 29;refine (HSa.out _ hb1).mono ?_;rintro e2 w2 ⟨rfl,hb2⟩)
        first | exact ⟨rfl,Hb1'.out⟩ | exact ⟨rfl,Hb1'.out.trans (hb2.mono Hb1'.out.size)⟩
      try simp only [Act.put,zs1,zs3,zs2]
      refine stepsSeq.nil ?_;intro w' hb1;have HL4:=zh (HL3.out.trans (hb1.mono HL3.out.size));go_wp2_with fail
      go_roundw
      case rel=>exact ⟨j+1,by omega,by go_num,HL4⟩
      case measure=>simp [intOf];omega
    ·have hji:¬ (j:Int) < (pn:Int):=by omega
     go_wp2_with fail
     go_ret;exact ⟨rfl,Hbg11.out.trans (HL3.out.mono Hbg11.out.size)⟩
end Go.Proofs.YtdhikpkecmaplaaGreatDoor
