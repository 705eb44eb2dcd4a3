/- Part 18 of the proof: RdrF HexP RdrJ ParP TbkP -/
import Derived.Lib.Bytealg
import Derived.Lib.SplitLaws
import Derived.Test.YtejbcledkhioeaaGreatDoorQ14
namespace Go.Proofs.YtejbcledkhioeaaGreatDoor
set_option linter.unusedVariables false
set_option linter.unusedSimpArgs false
set_option maxRecDepth 100000
set_option maxHeartbeats 4000000
open Go.RowKit Tryz
section
variable {B b A hi:Nat} {w:World} {col:Nat→Nat} {v1 v2 v3 v6 v7 v8:Value} {m:AP} {st ln:Nat} {ws:List ByteArray}
theorem mh (s:ByteArray):(El s).1.size≤s.size∧(El s).2.1.size≤s.size:=by
 have h1:=Qo s
 have h2:=J4 (Nk s)
 have h3:=J4 (Nl s)
 unfold El
 split
 ·exact⟨by simp only;omega,by simp only;omega⟩
 ·exact⟨Nat.zero_le _,Nat.zero_le _⟩
theorem WS:(prog.info? 51).map (fun i=>(i.zero,i.size,i.bytes))=some (some (.agg #[.string ⟨#[]⟩,.string ⟨#[]⟩]),2,32):=by kernel_rfl
theorem aT {x0 x1:ByteArray} {t:List ByteArray} (h:Uv B b A hi w col v1 v2 v3 v6 v7 v8 m st ln (x0::x1::t)):
 Calls prog 89 #[.pointer (some ⟨b,0,none⟩),.slice (some ⟨A,0,none⟩) (t.length+2) (t.length+2)] w (Jd (fun W m'=>Ru B b W m' st ln) B b w (Av 2 m (x1::t))):=by
 obtain⟨A2,c2,BJ,e2,hP⟩:=h.rd.six.p1
 subst e2
 obtain⟨i0,hi0,hz,hs',hby⟩:=info_parts WS
 have hc1:=h.rd.blk.q 0 rfl
 have hbl:=h.rd.blk.lt
 have Md:=h.wd.lt
 have hhi:=h.hhi
 have hlow:=h.rd.low
 have htop:=h.rd.top
 have hq:=h.lens.types
 have htl:t.length≤4194304:=by have:=Oj (x0::x1::t);have:=h.wd.tot;simp at*;omega
 have HW:=AA h.wd;have HE:=AA h.env;have HR:=AA h.rd;have HP:=AA hP
 clear h hP
 go_enter func89,ntmps89
 go_wp2_with fail
 refine(strings_Join A 1 (t.length+1) (x1::t) ⟨#[32]⟩ w (fun j x hx=>by have:=HW.out.at_ (j+1) x hx;rw [Nat.add_comm 1 j];exact this) Md (by simp;omega) (by simp) (by have h1:=Ut (x1::t);have h2:=HW.out.tot;have h3:Em (x0::x1::t)=x0.size+1+Em (x1::t):=rfl;show(Lib.join _ [32]).length≤_;omega)).mono ?_
 rintro e w1 ⟨rfl,hb1⟩
 have hjs:(IL (x1::t)).size≤1048577:=by
  have h1:=Ut (x1::t);have h2:=HW.out.tot;have h3:Em (x0::x1::t)=x0.size+1+Em (x1::t):=rfl
  show(List.toArray _).size≤_
  rw [List.size_toArray]
  omega
 obtain⟨mx,hmx⟩:=(HE.out.up hb1 (by omega)).mx w1 (Below.refl _ _)
 have HB1:=AA hb1
 have hsz1:=hb1.size
 have HC:=AA (QC (IL (x1::t)) (by omega) mx w1 hmx)
 have HJ:=AA hjs
 clear hb1 hmx hjs
 go_wp2_with fail
 refine HC.out.mono ?_
 clear HC
 rintro e w2 ⟨hb2,rfl⟩
 have hle:=mh (IL (x1::t))
 have Qv:=AA hle
 have yD:Hid (Av 2 m (x1::t)=if(El (IL (x1::t))).2.2=0 then some {m with types:=m.types++ [⟨(El (IL (x1::t))).1,(El (IL (x1::t))).2.1⟩]} else none):=AA rfl
 have HB2:=AA (HB1.out.trans (hb2.mono HB1.out.size))
 clear hb2 hle
 generalize (El (IL (x1::t))).1=rp at*
 generalize (El (IL (x1::t))).2.1=rr at*
 generalize (El (IL (x1::t))).2.2=re at*
 go_wp2_with fail
 generalize hw3:w2.alloc (.cells #[.string rp,.string rr] 51)=w3
 have hsz2:=HB2.out.size
 have AA1:Below w2.heap.size w2 w3:=by rw [←hw3];exact(Below.refl _ _).alloc (Nat.le_refl _) _
 have hx:AL w3 w2.heap.size 51 [.string rp,.string rr]:=by rw [←hw3];exact AL.new w2 _ [.string rp,.string rr]
 have hlt3:w2.heap.size<w3.heap.size:=by rw [←hw3];simp
 have HB3:=AA (HB2.out.trans (AA1.mono hsz2))
 have g1:=(HB3.out.cell (p:=⟨b,0,none⟩) (show b<w.heap.size by omega)).trans hc1
 have gx0:=hx.q 0 rfl
 have gx1:=hx.q 1 rfl
 clear hw3 AA1 hx
 refine(Qs _ _).mono ?_
 rintro e w4 ⟨rfl,⟨h0,rfl⟩ | ⟨h0,rfl⟩⟩
 case inr=>
  have HN:Hid (Av 2 m (x1::t)=none):=AA (by rw [yD.out,if_neg (by rw [beq_eq_false_iff_ne] at h0;omega)])
  clear h0
  go_wp2_with fail
  exact⟨rfl,.inl ⟨HN.out,rfl,HB3.out⟩⟩
 have HN:Hid (Av 2 m (x1::t)=some {m with types:=m.types++ [⟨rp,rr⟩]}):=AA (by rw [yD.out,if_pos (by rw [beq_iff_eq] at h0;omega)])
 have hrw:(re:Int)=0:=by rw [beq_iff_eq] at h0;exact h0
 clear h0 yD
 generalize (re:Int)=rz at*
 subst hrw
 have hb5:Below w3.heap.size w3 (w3.alloc (.cells #[.string rp,.string rr] 51)).drew:=((Below.refl _ _).alloc (Nat.le_refl _) _).drew
 have SG:=HB3.out.size
 have JX:=AA (HB3.out.trans (hb5.mono SG))
 have k1:=(hb5.cell (p:=⟨b,0,none⟩) (show b<w3.heap.size by omega)).trans g1
 have kx0:=(hb5.cell (p:=⟨w2.heap.size,0,none⟩) hlt3).trans gx0
 have kx1:=(hb5.cell (p:=⟨w2.heap.size,1,none⟩) hlt3).trans gx1
 have ql:=AA (BI HP.out.own JX.out)
 have GK:Hid (Row (w3.alloc (.cells #[.string rp,.string rr] 51)).drew (w3.heap.size+1) (some ⟨w3.heap.size,0,none⟩) [.string rp,.string rr]):=AA (Ak w3 [.string rp,.string rr] 51)
 clear hb5
 go_wp2_with fail
 go_region_law (refine Au rfl (.tmp 21) (.tmp 23) 22 rfl B 51 i0 _ 2 32 underlying22 hi0 hz hs' hby rfl (by omega) _ m.types.length BJ rfl ql.out (w3.heap.size+1) _ 1 1 [.string rp,.string rr] rfl rfl GK.out (by intro u hu;simp at hu;rcases hu with rfl | rfl<;>rfl) (by unfold maxLen;omega) (by omega) (by simp;omega) ?_;intro A4 c4 w4 h2 h3 h4;have Du:=HR.out.old JX.out h3 (fun g e=>(HP.out.lt g e).1);have TJ:=Du.frozen 0;have hc4:=Du.cell 0;have H2:=AA h2;have H3:=AA h3;have H4:=AA h4;clear h2 h3 h4 Du)
 all_goals
  go_end0
  refine .inr ⟨_,HN.out,rfl,HR.out.eF HP.out JX.out (lo:=w.heap.size) (hi:=w.heap.size) (x:=⟨rp,rr⟩) (Mw.2 ⟨rfl,(show rp.size≤140737488351232 by have:=Qv.out.1;have:=HJ.out;omega),(show rr.size≤140737488351232 by have:=Qv.out.2;have:=HJ.out;omega)⟩) (Nat.le_refl _) (by simp;omega) H2.out H3.out H4.out⟩
theorem Uw:(El (IL [])).2.2=15:=by decide+kernel
theorem aU {x0:ByteArray} (h:Uv B b A hi w col v1 v2 v3 v6 v7 v8 m st ln [x0]) (Inv:World→AP→Prop):
 Calls prog 89 #[.pointer (some ⟨b,0,none⟩),.slice (some ⟨A,0,none⟩) 1 1] w (Jd Inv B b w (Av 2 m [])):=by
 have yD:Hid (Av 2 m []=none):=AA (by unfold Av;exact if_neg (by rw [Uw];decide))
 have hhi:=h.hhi
 have hbl:=h.rd.blk.lt
 obtain⟨mx,hmx⟩:=h.env.mx w (Below.refl _ _)
 have HC:=AA (QC (IL []) (by decide) mx w hmx)
 clear h hmx
 go_enter func89,ntmps89
 go_wp2_with fail
 refine(strings_Join_none _ _ _ w).mono ?_
 rintro e w1 ⟨rfl,rfl⟩
 go_wp2_with fail
 refine HC.out.mono ?_
 clear HC
 rintro e w2 ⟨hb2,rfl⟩
 rw [Uw]
 generalize (El (IL [])).1=rp at*
 generalize (El (IL [])).2.1=rr at*
 have HB:=AA hb2
 clear hb2
 go_wp2_with fail
 refine(AY _).mono ?_
 rintro e w4 ⟨rfl,rfl⟩
 go_wp2_with fail
 exact⟨rfl,.inl ⟨yD.out,rfl,HB.out.alloc HB.out.size _⟩⟩
theorem mq (h:Uv B b A hi w col v1 v2 v3 v6 v7 v8 m st ln ws) (h0:ws≠ []):
 Calls prog 89 #[.pointer (some ⟨b,0,none⟩),.slice (some ⟨A,0,none⟩) ws.length ws.length] w (Jd (fun W m'=>Ru B b W m' st ln) B b w (Av 2 m ws.tail)):=by
 rcases ws with _ | ⟨x0,_ | ⟨x1,t⟩⟩
 ·exact absurd rfl h0
 ·exact aU h _
 ·exact aT h
end
theorem U0: ∀(p q u:List UInt8),Jc p=some u→Jc (p++q)=(Jc q).map (u++ ·)
 | [],q,u,h=>by
  have h:some ([]:List UInt8)=some u:=h
  injection h with h
  subst h
  show Jc q=(Jc q).map ([]++ ·)
  cases hq:Jc q<;>rfl
 | [a],q,u,h=>by cases h
 | a::b::p,q,u,h=>by
  have h:(match KL a,KL b with
   | some x,some y=>(Jc p).map (UInt8.ofNat (16*x+y):: ·)
   | _,_=>none)=some u:=h
  show(match KL a,KL b with
   | some x,some y=>(Jc (p++q)).map (UInt8.ofNat (16*x+y):: ·)
   | _,_=>none)=_
  cases ha:KL a with
  | none=>rw [ha] at h;cases h
  | some x=>
   cases hb:KL b with
   | none=>rw [ha,hb] at h;cases h
   | some y=>
    rw [ha,hb] at h
    simp only at h⊢
    cases hp:Jc p with
    | none=>rw [hp] at h;cases h
    | some v=>
     rw [hp] at h
     have h:some (UInt8.ofNat (16*x+y)::v)=some u:=h
     injection h with h
     subst h
     rw [U0 p q v hp]
     cases Jc q<;>rfl
theorem Qx (a b:UInt8) (t:List UInt8):Jc (a::b::t)=match KL a,KL b with
 | some x,some y=>(Jc t).map (UInt8.ofNat (16*x+y):: ·)
 | _,_=>none:=rfl
theorem nG {l:List UInt8} {k:Nat} {bs:List UInt8} (h:Jc (l.take (2*k))=some bs) {a b:UInt8} (ha:l[2*k]?=some a) (hb:l[2*k+1]?=some b):
 (∀x y,KL a=some x→KL b=some y→Jc (l.take (2*(k+1)))=some (bs++ [UInt8.ofNat (16*x+y)]))∧((KL a=none∨KL b=none)→Jc l=none):=by
 have hla:=(List.getElem?_eq_some_iff.1 ha)
 have hlb:=(List.getElem?_eq_some_iff.1 hb)
 obtain⟨ha1,ha2⟩:=hla
 obtain⟨hb1,hb2⟩:=hlb
 have hd:l.drop (2*k)=a::b::l.drop (2*k+2):=by
  rw [List.drop_eq_getElem_cons ha1,ha2,List.drop_eq_getElem_cons hb1,hb2]
 constructor
 ·intro x y hx hy
  have:l.take (2*(k+1))=l.take (2*k)++ [a,b]:=by
   rw [show 2*(k+1)=2*k+2 by omega,List.take_add,hd]
   rfl
  rw [this,U0 _ _ _ h,Qx,hx,hy]
  rfl
 ·intro hn
  have h2:=U0 (l.take (2*k)) (l.drop (2*k)) bs h
  rw [List.take_append_drop] at h2
  rw [h2,hd,Qx]
  rcases hn with e | e
  ·rw [e];rfl
  ·rw [e];cases KL a<;>rfl
theorem ZC: ∀l:List UInt8,l.length%2=1→Jc l=none
 | [],h=>by cases h
 | [a],_=>rfl
 | a::b::t,h=>by
  have:=ZC t (by simp at h;omega)
  rw [Qx,this]
  cases KL a<;>cases KL b<;>rfl
def yH:ByteArray:=⟨#[48,49,50,51,52,53,54,55,56,57,97,98,99,100,101,102]⟩
theorem sO (c:UInt8):Lib.indexByte yH.data.toList c=match KL c with
 | some v=>(v:Int)
 | none=> -1:=by
 have h: ∀k:Fin 256,Lib.indexByte yH.data.toList (UInt8.ofNat k.1)=match KL (UInt8.ofNat k.1)with
  | some v=>(v:Int)
  | none=> -1:=by decide+kernel
 have:=h ⟨c.toNat,c.toNat_lt⟩
 simpa using this
theorem eO {c:UInt8} {v:Nat} (h:KL c=some v):v<16:=by
 unfold KL at h
 split at h
 ·injection h with h;omega
 ·split at h
  ·injection h with h;omega
  ·cases h
theorem WT:(prog.info? 59).map (fun i=>(i.zero,i.size,i.bytes))=some (some (.agg #[.int .i64 0,.slice none 0 0]),2,32):=by kernel_rfl
def nH (x:ByteArray) (n:Int) (w:World) (h:Nat) (i:Value) (wr:World):Prop:=
 ∃(k j:Nat) (A:Option Addr) (c:Nat) (bs:List UInt8),j=2*k∧j≤x.size∧i= .int .i64 (j:Nat)∧Below w.heap.size w wr∧AL wr h 59 [.int .i64 n,.slice A k c]∧wr.ownsRow (h+1) 5 1 (.slice A k c) k (bs.map bv)∧bs.length=k∧Jc (x.data.toList.take (2*k))=some bs
theorem yI {a b:Nat} (ha:a<16) (hb:b<16):bits BinOp.or IntKind.i64 ((a:Int)*16) (b:Int)%256=((UInt8.ofNat (16*a+b)).toNat:Int):=by
 have h: ∀x y:Fin 16,bits BinOp.or IntKind.i64 ((x.1:Int)*16) (y.1:Int)%256=((UInt8.ofNat (16*x.1+y.1)).toNat:Int):=by decide+kernel
 exact h ⟨a,ha⟩ ⟨b,hb⟩
def sP (c:UInt8):Int:=match KL c with
 | some v=>(v:Int)
 | none=> -1
theorem WU (c:UInt8) (W:World):Calls prog 143 #[.string ⟨#[48,49,50,51,52,53,54,55,56,57,97,98,99,100,101,102]⟩,.int .u8 (c.toNat:Int)] W fun e w'=>W=w'∧e= .returned (.int .i64 (sP c)):=by
 refine(strings_IndexByte yH (c.toNat:Int) W).mono ?_
 rintro e w' ⟨rfl,rfl⟩
 refine⟨rfl,?_⟩
 have h:((c.toNat:Int)).toNat.toUInt8=c:=by simp
 rw [h,sO]
 rfl
section
variable {B b A hi:Nat} {w:World} {col:Nat→Nat} {v1 v2 v3 v6 v7 v8:Value} {m:AP} {st ln:Nat} {ws:List ByteArray}
theorem iJ {x0 x1 x2:ByteArray} (h:Uv B b A hi w col v1 v2 v3 v6 v7 v8 m st ln [x0,x1,x2]):
 Calls prog 94 #[.pointer (some ⟨b,0,none⟩),.slice (some ⟨A,0,none⟩) 3 3] w (Jd (fun W m'=>Ru B b W m' st ln) B b w (Av 7 m [x1,x2])):=by
 obtain⟨A2,c2,BJ,e2,hP⟩:=h.rd.six.p7
 subst e2
 have hc1:=h.rd.blk.q 6 rfl
 have hw1:w.cell? ⟨A,1,none⟩=some (.string x1):=h.wd.at_ 1 _ rfl
 have hw2:w.cell? ⟨A,2,none⟩=some (.string x2):=h.wd.at_ 2 _ rfl
 have Md:=h.wd.lt
 have hbl:=h.rd.blk.lt
 have hhi:=h.hhi
 have hq:=h.lens.dat
 have hx2:=h.wd.sz x2 (by simp)
 have iE:=AA (h.wd.sz x1 (by simp));have HE:=AA h.env;have HR:=AA h.rd;have HP:=AA hP
 have hlow:=h.rd.low
 have htop:=h.rd.top
 have yF:Hid (BH x1=none→Av 7 m [x1,x2]=none):=AA fun h=>by show(BH x1).bind _=none;rw [h];rfl
 have nE:Hid (Jc x2.data.toList=none→Av 7 m [x1,x2]=none):=AA fun h=>by show(BH x1).bind (fun n=>(Jc x2.data.toList).map fun b=>({m with dat:=m.dat++ [⟨n,b⟩]}:AP))=none;rw [h];cases BH x1<;>rfl
 have iH:Hid (∀a l,BH x1=some a→Jc x2.data.toList=some l→Av 7 m [x1,x2]=some {m with dat:=m.dat++ [⟨a,l⟩]}):=AA fun a l h1 h2=>by show(BH x1).bind (fun n=>(Jc x2.data.toList).map fun b=>({m with dat:=m.dat++ [⟨n,b⟩]}:AP))=_;rw [h1,h2];rfl
 clear h hP
 go_enter func94,ntmps94
 go_wp2_with fail
 refine(BU (some ⟨A,0,none⟩) 3 3 3 w).mono ?_
 rintro e w1 ⟨rfl,D5⟩
 rcases D5 with⟨_,rfl⟩ | ⟨hf,_⟩
 case inr=>exact absurd hf (by decide)
 go_wp2_with fail
 refine(CQ x1 (by have:=iE.out;omega) w (HE.out) (by omega)).mono ?_
 rintro e w2 ⟨hb2,⟨h0,rfl⟩ | ⟨n,hn,hm,rfl⟩⟩
 ·go_wp2_with fail
  exact⟨rfl,.inl ⟨yF.out h0,rfl,hb2⟩⟩
 have HN:=AA hn;have HM:=AA hm
 have HB2:=AA hb2
 have AA3:=(hb2.cell (p:=⟨A,2,none⟩) Md).trans hw2
 have hsz2:=hb2.size
 have AA4: ∀o:Obj,(w2.alloc o).cell? ⟨A,2,none⟩=some (.string x2):=fun o=>(((Below.refl w2.heap.size w2).alloc (Nat.le_refl _) o).cell (p:=⟨A,2,none⟩) (show A<w2.heap.size by omega)).trans AA3
 have hw24:=AA4 (.cells #[.int .i64 n,.slice none 0 0] 59)
 clear hn hm hb2
 go_wp2_with fail
 generalize hw3:w2.alloc _=w3 at*
 have hb3:Below w.heap.size w w3:=by rw [←hw3];exact HB2.out.alloc hsz2 _
 have hx3:AL w3 w2.heap.size 59 [.int .i64 n,.slice none 0 0]:=by rw [←hw3];exact AL.new w2 _ [.int .i64 n,.slice none 0 0]
 obtain⟨h,hh⟩: ∃h,h=w2.heap.size:=⟨_,rfl⟩
 have YP:w.heap.size≤h:=by omega
 rw [←hh] at hx3⊢
 clear hw3 AA4 AA3 hh HB2 hsz2
 refine(Qs _ _).mono ?_
 rintro e w4 ⟨rfl,⟨h0,rfl⟩ | ⟨h0,rfl⟩⟩
 case inr=>
  have hodd:x2.data.toList.length%2=1:=by
   rw [beq_eq_false_iff_ne] at h0
   have:x2.data.toList.length=x2.size:=by simp
   omega
  have HN2:=AA (nE.out (ZC _ hodd))
  clear h0 hodd
  go_wp2_with fail
  exact⟨rfl,.inl ⟨HN2.out,rfl,hb3⟩⟩
 have hev:x2.size%2=0:=by rw [beq_iff_eq] at h0;omega
 have Z5:=AA hev
 have hBt:(x2.size%2==0)=true:=by rw [hev];rfl
 clear h0 hev
 have hrel:nH x2 n w h (.int .i64 0) w3:=⟨0,0,none,0,[],rfl,Nat.zero_le _,rfl,hb3,hx3,⟨by simp,.inl ⟨rfl,rfl⟩⟩,rfl,rfl⟩
 have aX:=AA hrel
 have HHL:=AA YP
 clear hrel hb3 hx3
 go_wp2_with fail
 obtain⟨wo,hwo⟩: ∃wo:World,wo=w:=⟨_,rfl⟩
 go_loopw [5,6,7] (fun i _ _ wr=>nH x2 n w h i wr) (fun i _ _ _=>x2.size-(intOf i).toNat)
 case atStart=>exact aX.out
 case round=>
  clear hw24 hBt
  obtain⟨k,j,A1,c1,bs,hj,hjx,rfl,hbel,hblk,hown,AA5,hhx⟩:=hrel
  have HJ:=AA hj;have HJX:=AA hjx;have nI:=AA hbel;have Vs:=AA hblk;have HOWN:=AA hown;have yJ:=AA AA5;have HHX:=AA hhx
  have r2:=(hbel.cell (p:=⟨A,2,none⟩) Md).trans hw2
  have hhl2:=HHL.out
  have hj0:(0:Int)≤j:=by omega
  have hjs:j≤1048576:=by omega
  clear hj hbel hblk hown AA5 hhx
  by_cases hlt:j<x2.size
  ·have d1:decide ((j:Int)<(x2.size:Int))=true:=decide_eq_true (by omega)
   have hlt1:j+1<x2.size:=by have:=Z5.out;have:=HJ.out;omega
   have HWR:Hid (IntKind.i64.wrap ((j:Int)+1)=((j+1:Nat):Int)):=AA (by simp [IntKind.wrap,IntKind.bits,IntKind.signed];omega)
   go_upto_region 6 with fail
   refine wp_region_held_drew (S:=fun W=>W.cell? ⟨A,2,none⟩=some (.string x2)) (by kernel_rfl) r2 (fun hHeld=> ?_)
   refine AB (i:=0) (v:= ?_) rfl (by kernel_rfl) (fun _ _ _ h=>h) (by intro w hSw;(try dsimp only at hSw);go_simp;try with_reducible rfl) hHeld ?_
   refine AB (i:=1) (v:= ?_) rfl (by kernel_rfl) (fun _ _ _ h=>h) (by intro w hSw;(try dsimp only at hSw);go_simp;try with_reducible rfl) hHeld ?_
   refine AB (i:=2) (v:= ?_) rfl (by kernel_rfl) (fun _ _ _ h=>h) (by intro w hSw;(try dsimp only at hSw);go_simp;try with_reducible rfl) hHeld ?_
   refine AB (i:=3) (v:= ?_) rfl (by kernel_rfl) (fun _ _ _ h=>h) (by intro w hSw;(try dsimp only at hSw);go_simp;try with_reducible rfl) hHeld ?_
   refine AB (i:=4) (v:= ?_) rfl (by kernel_rfl) (fun _ _ _ h=>h) (by intro w hSw;(try dsimp only at hSw);go_simp;try with_reducible rfl) hHeld ?_
   refine AB (i:=6) (v:= ?_) rfl (by kernel_rfl) (fun _ _ _ h=>h) (by intro w hSw;(try dsimp only at hSw);go_simp;try with_reducible rfl) hHeld ?_
   refine AB (i:=7) (v:= ?_) rfl (by kernel_rfl) (fun _ _ _ h=>h) (by intro w hSw;(try dsimp only at hSw);go_simp;try with_reducible rfl) hHeld ?_
   refine AB (i:=8) (v:= ?_) rfl (by kernel_rfl) (fun _ _ _ h=>h) (by intro w hSw;(try dsimp only at hSw);go_simp;try with_reducible rfl) hHeld ?_
   refine AB (i:=9) (v:= ?_) rfl (by kernel_rfl) (fun _ _ _ h=>h) (by intro w hSw;(try dsimp only at hSw);go_simp;try with_reducible rfl) hHeld ?_
   refine AB (i:=10) (v:= ?_) rfl (by kernel_rfl) (fun _ _ _ h=>h) (by intro w hSw;(try dsimp only at hSw);go_simp;try with_reducible rfl) hHeld ?_
   refine wpAnyH_take (i:=11) (v:= .int .u8 ((x2[j+1]'hlt1).toNat:Int)) rfl (by kernel_rfl) (by kernel_rfl) (by kernel_rfl) (fun _ _ _ h=>h) (Or.inl ⟨by rfl,by intro w hSw;(try dsimp only at hSw);go_simp;simp only [HWR.out,Int.toNat_natCast];rw [dif_pos ⟨by omega,by omega⟩];rfl⟩) hHeld ?_
   refine wpAnyH_ready (rs:= [5]) (by kernel_rfl) (by simp) ?_
   refine AllReadyH.cons rfl (fun K hK=> ?_) AllReadyH.nil
   go_simp
   refine(WU (x2[j]'hlt) _).mono ?_
   rintro e w4 ⟨rfl,rfl⟩
   refine hK.out _ _ r2 (fun Ag=> ?_)
   clear hK K
   refine wpAnyH_ready (rs:= [12]) (by kernel_rfl) (by simp) ?_
   refine AllReadyH.cons rfl (fun K hK=> ?_) AllReadyH.nil
   go_simp
   refine(WU (x2[j+1]'hlt1) _).mono ?_
   rintro e w4 ⟨rfl,rfl⟩
   refine hK.out _ _ r2 (fun CO=> ?_)
   clear hK K
   refine AB (i:=13) (v:= ?_) rfl (by kernel_rfl) (fun _ _ _ h=>h) (by intro w hSw;(try dsimp only at hSw);go_simp;try with_reducible rfl) CO ?_
   refine AB (i:=14) (v:= ?_) rfl (by kernel_rfl) (fun _ _ _ h=>h) (by intro w hSw;(try dsimp only at hSw);go_simp;try with_reducible rfl) CO ?_
   refine wpAnyH_done (by kernel_rfl) ?_ _
   obtain⟨ca,hca⟩: ∃ca,ca=x2[j]:=⟨_,rfl⟩
   obtain⟨cb,hcb⟩: ∃cb,cb=x2[j+1]:=⟨_,rfl⟩
   rw [←hca,←hcb]
   have hCA:x2.data.toList[j]?=some ca:=by
    rw [hca]
    have:j<x2.data.toList.length:=by rw [←Lib.size_eq];exact hlt
    rw [List.getElem?_eq_getElem this]
    rfl
   have hCB:x2.data.toList[j+1]?=some cb:=by
    rw [hcb]
    have:j+1<x2.data.toList.length:=by rw [←Lib.size_eq];exact hlt1
    rw [List.getElem?_eq_getElem this]
    rfl
   have hnx:=nG (k:=k) HHX.out (by rw [←HJ.out];exact hCA) (by rw [←HJ.out];exact hCB)
   have YQ:=AA hnx
   have JX:=AA (nI.out.drew)
   have hx5:AL wr.drew h 59 [.int .i64 n,.slice A1 k c1]:=Vs.out.drewN 1
   have ho5:wr.drew.ownsRow (h+1) 5 1 (.slice A1 k c1) k (bs.map bv):=HOWN.out
   generalize wr.drew=w5 at*
   have q0:=hx5.q 0 rfl
   have q1:=hx5.q 1 rfl
   have qf:=hx5.frozen 1
   have Qw:=AA hx5;have ql:=AA ho5
   clear hx5 ho5 hHeld Ag CO r2 hca hcb hCA hCB HHX nI Vs HOWN hnx
   cases hva:KL ca with
   | none=>
    have e1:sP ca= -1:=by unfold sP;rw [hva]
    have OV:=AA (nE.out (YQ.out.2 (.inl hva)))
    rw [e1]
    go_wp2_with fail
    refine(AY _).mono ?_
    rintro e w6 ⟨rfl,rfl⟩
    go_wp2_with fail
    exact⟨rfl,.inl ⟨OV.out,rfl,JX.out⟩⟩
   | some xa=>
    have e1:sP ca=(xa:Int):=by unfold sP;rw [hva]
    have hxa:=eO hva
    rw [e1]
    cases hvb:KL cb with
    | none=>
     have e2:sP cb= -1:=by unfold sP;rw [hvb]
     have OV:=AA (nE.out (YQ.out.2 (.inr hvb)))
     rw [e2]
     go_wp2_with fail
     refine(AY _).mono ?_
     rintro e w6 ⟨rfl,rfl⟩
     go_wp2_with fail
     exact⟨rfl,.inl ⟨OV.out,rfl,JX.out⟩⟩
    | some xb=>
     have e2:sP cb=(xb:Int):=by unfold sP;rw [hvb]
     have hxb:=eO hvb
     have OV:=AA (YQ.out.1 xa xb hva hvb)
     rw [e2]
     clear e1 e2 YQ hva hvb
     go_wp2_with fail
     refine(AO _).mono ?_
     rintro e w6 ⟨rfl,rfl⟩
     have hor:=yI hxa hxb
     have GK:Hid (Row (w5.alloc (.cells #[.int .u8 (bits BinOp.or IntKind.i64 ((xa:Int)*16) (xb:Int)%256)] 5)) (w5.heap.size+1) (some ⟨w5.heap.size,0,none⟩) [.int .u8 (bits BinOp.or IntKind.i64 ((xa:Int)*16) (xb:Int)%256)]):=AA (Ak w5 [.int .u8 (bits BinOp.or IntKind.i64 ((xa:Int)*16) (xb:Int)%256)] 5)
     have Vi:=AA hor
     obtain⟨i0,hi0,hz,hs',hby⟩:=info_parts Jl
     have hkk:k≤1048576:=by have:=HJ.out;omega
     have hlt5:=Qw.out.lt
     clear hor
     go_wp2_with (at_builtin;refine MR _ rfl (.tmp 51) (.tmp 57) 41 rfl (h+1) 5 i0 _ 1 1 underlying41 hi0 hz hs' hby rfl (by omega) _ k (bs.map bv) rfl (ql.out.alloc _) (w5.heap.size+1) _ 1 1 [.int .u8 (bits BinOp.or IntKind.i64 ((xa:Int)*16) (xb:Int)%256)] rfl rfl GK.out (by intro u hu;simp at hu;subst hu;rfl) (by unfold maxLen;omega) (by omega) (by simp;omega) ?_)
     intro A4 c4 w9 h2 h3 h4
     have hnb: ∀g,(Value.slice A1 k c1).ownBlock=some g→h+1≤g∧g<w5.heap.size:=fun g e=>ql.out.lt g e
     have hb9:AL w9 h 59 [.int .i64 n,.slice A1 k c1]:=(h3.block h (by rw [World.size_alloc];omega) (fun e=>by have:=(hnb h e.symm).1;omega)).trans ((Qw.out.alloc _))
     have q0:=hb9.q 0 rfl
     have q1:=hb9.q 1 rfl
     have qf:=hb9.frozen 1
     have wC:Below w.heap.size w w9:=by
      have h1:=JX.out.alloc JX.out.size (.cells #[.int .u8 (bits BinOp.or IntKind.i64 ((xa:Int)*16) (xb:Int)%256)] 5)
      exact⟨h3.os.trans h1.os,h3.tape.trans h1.tape,h3.output.trans h1.output,Nat.le_trans h1.size h3.size,fun q hq=>(h3.block q (Nat.lt_of_lt_of_le hq h1.size) (fun e=>by have:=(hnb q e.symm).1;omega)).trans (h1.block q hq)⟩
     have hfin:nH x2 n w h (.int .i64 ((j+2:Nat):Int)) (w9.setCell ⟨h,1,none⟩ (.slice A4 (k+1) c4)):=by
      refine⟨k+1,j+2,A4,c4,bs++ [UInt8.ofNat (16*xa+xb)],by have:=HJ.out;omega,hlt1,rfl,wC.setCell (p:=⟨h,1,none⟩) HHL.out _,hb9.set 1 _,?_,by rw [List.length_append,yJ.out];rfl,OV.out⟩
      refine IU (p:=⟨h,1,none⟩) ?_ (fun e=>by have:=(h2.lt h e).1;omega) _
      rw [List.map_append]
      have hv:(bv (UInt8.ofNat (16*xa+xb)))= .int .u8 (bits BinOp.or IntKind.i64 ((xa:Int)*16) (xb:Int)%256):=by rw [Vi.out];rfl
      show World.ownsRow _ _ _ _ _ _ (bs.map bv++ [bv (UInt8.ofNat (16*xa+xb))])
      rw [hv]
      exact h2
     have Dz:=AA hfin
     clear h2 h3 h4 hb9 wC hfin hnb
     go_wp2_with fail
     exact⟨Dz.out,by show x2.size-((j:Int)+2).toNat<x2.size-((j:Int)).toNat;omega⟩
  ·have d1:decide ((j:Int)<(x2.size:Int))=false:=decide_eq_false (by omega)
   have hfull:Jc x2.data.toList=some bs:=by
    have h1:=HHX.out
    have h2:x2.data.toList.length≤2*k:=by have:=HJ.out;rw [←Lib.size_eq];omega
    rwa [List.take_of_length_le h2] at h1
   have HY:=AA (iH.out n bs HN.out hfull)
   obtain⟨i0,hi0,hz,hs',hby⟩:=info_parts WT
   have g1:=(nI.out.cell (p:=⟨b,6,none⟩) hbl).trans hc1
   have e0:=Vs.out.q 0 rfl
   have e1:=Vs.out.q 1 rfl
   have MF:=Vs.out.lt
   have yE:=nI.out.size
   have EM:Below wr.heap.size wr (wr.alloc (.cells #[.int .i64 n,.slice A1 k c1] 59)).drew:=((Below.refl _ _).alloc (Nat.le_refl _) _).drew
   have KQ:=AA (nI.out.trans (EM.mono yE))
   have k1:=(EM.cell (p:=⟨b,6,none⟩) (show b<wr.heap.size by omega)).trans g1
   have k2:=(EM.cell (p:=⟨h,0,none⟩) MF).trans e0
   have k3:=(EM.cell (p:=⟨h,1,none⟩) MF).trans e1
   have Uy:=AA (BI HP.out.own KQ.out)
   have hrd:(Rd.u8.sl false).R (wr.alloc (.cells #[.int .i64 n,.slice A1 k c1] 59)).drew (h+1) wr.heap.size [.slice A1 k c1] bs:=by
    have h0:(Rd.u8.sl false).R wr (h+1) wr.heap.size [.slice A1 k c1] bs:=Rd.own false (r:=Rd.u8) HOWN.out yJ.out.symm (fun q x hx=>by
     show((bs.map bv).drop (q*1)).take 1= [bv x]∧True
     have hlt:=(List.getElem?_eq_some_iff.1 hx)
     refine⟨?_,trivial⟩
     rw [Nat.mul_one,←List.map_drop,List.drop_eq_getElem_cons hlt.1,hlt.2]
     rfl)
    exact(Rd.u8.sl false).below h0 EM (Nat.le_refl _)
   have yD:=AA hrd
   have GK:Hid (Row (wr.alloc (.cells #[.int .i64 n,.slice A1 k c1] 59)).drew (wr.heap.size+1) (some ⟨wr.heap.size,0,none⟩) [.int .i64 n,.slice A1 k c1]):=AA (Ak wr [.int .i64 n,.slice A1 k c1] 59)
   have HKB:=AA yJ.out
   clear EM hrd Vs HOWN HHX hfull
   go_wp2_with fail
   go_region_law (refine Au rfl (.tmp 65) (.tmp 67) 26 rfl B 59 i0 _ 2 32 underlying26 hi0 hz hs' hby rfl (by omega) _ m.dat.length BJ rfl Uy.out _ _ 1 1 [.int .i64 n,.slice A1 k c1] rfl rfl GK.out (by intro u hu;simp at hu;rcases hu with rfl | rfl<;>rfl) (by unfold maxLen;omega) (by omega) (by simp;omega) ?_;intro A4 c4 w9 h2 h3 h4;have Du:=HR.out.old KQ.out h3 (fun g e=>(HP.out.lt g e).1);have TJ:=Du.frozen 6;have hc4:=Du.cell 6;have H2:=AA h2;have H3:=AA h3;have H4:=AA h4;clear h2 h3 h4 Du)
   all_goals
    go_end0
    refine .inr ⟨_,HY.out,rfl,HR.out.Y4 HP.out KQ.out (lo:=h+1) (hi:=wr.heap.size) (x:=⟨n,bs⟩) (Jg.2 ⟨.slice A1 k c1,rfl,HM.out,yD.out⟩) (by have:=HHL.out;omega) (by first | (simp;done) | (simp;omega)) H2.out H3.out H4.out⟩
theorem ZE (h0:ws≠ []) (hk:ws.length≠3) (Inv:World→AP→Prop):
 Calls prog 94 #[.pointer (some ⟨b,0,none⟩),.slice (some ⟨A,0,none⟩) ws.length ws.length] w (Jd Inv B b w (Av 7 m ws.tail)):=by
 have HN:=AA (J8 (m:=m) (p:=7) (k:=3) (by decide) h0 hk)
 have HK:Hid (decide (ws.length=3)=false):=AA (decide_eq_false hk)
 clear h0 hk
 go_enter func94,ntmps94
 go_wp2_with fail
 refine(BU (some ⟨A,0,none⟩) ws.length ws.length 3 w).mono ?_
 rintro e w1 ⟨rfl,⟨h1,rfl⟩ | ⟨h1,rfl⟩⟩
 ·rw [HK.out] at h1;cases h1
 go_wp2_with fail
 exact⟨rfl,.inl ⟨HN.out,rfl,Below.refl _ _⟩⟩
theorem sQ (h:Uv B b A hi w col v1 v2 v3 v6 v7 v8 m st ln ws) (h0:ws≠ []):
 Calls prog 94 #[.pointer (some ⟨b,0,none⟩),.slice (some ⟨A,0,none⟩) ws.length ws.length] w (Jd (fun W m'=>Ru B b W m' st ln) B b w (Av 7 m ws.tail)):=by
 by_cases hk:ws.length=3
 case neg=>exact ZE h0 hk _
 obtain⟨x0,x1,x2,rfl⟩:=sK hk
 exact iJ h
end
def QE (r:Ka) (s:ByteArray):Option Ka:=if GV (DN s)=true then some r else Ar r (DN s)
theorem nU {ls:List ByteArray} {k:Nat} {s:ByteArray} {r r':Ka} (hs:ls[k]?=some s) (h:QE r s=some r'):Zx (ls.drop k) r k=Zx (ls.drop (k+1)) r' (k+1):=by
 have hl:=(List.getElem?_eq_some_iff.1 hs)
 rw [List.drop_eq_getElem_cons hl.1,hl.2]
 unfold QE at h
 show(if GV (DN s)=true then Zx _ r (k+1) else _)=_
 split
 ·rename_i hk
  rw [if_pos hk] at h
  injection h with h
  rw [h]
 ·rename_i hk
  rw [if_neg hk] at h
  rw [h]
theorem tH {ls:List ByteArray} {k:Nat} {s:ByteArray} {r:Ka} (hs:ls[k]?=some s) (h:QE r s=none):Zx (ls.drop k) r k= .inr (k+1):=by
 have hl:=(List.getElem?_eq_some_iff.1 hs)
 rw [List.drop_eq_getElem_cons hl.1,hl.2]
 unfold QE at h
 show(if GV (DN s)=true then Zx _ r (k+1) else _)=_
 split
 ·rename_i hk
  rw [if_pos hk] at h
  cases h
 ·rename_i hk
  rw [if_neg hk] at h
  rw [h]
theorem tJ {ls:List ByteArray} {k:Nat} {r:Ka} (h:ls.length≤k):Zx (ls.drop k) r k= .inl r:=by
 rw [List.drop_eq_nil_of_le h]
 rfl
theorem Nu {α:Type} (f:α→Nat) (l:List α) (x:α):A_ f (l++ [x])=A_ f l+f x:=by simp [A_]
theorem mapM_len: ∀ {ws:List ByteArray} {l:List Int},ws.mapM BH=some l→l.length=ws.length
 | [],l,h=>by
  rw [List.mapM_nil] at h
  injection h with h
  subst h
  rfl
 | w::ws,l,h=>by
  rw [List.mapM_cons] at h
  cases h1:BH w with
  | none=>rw [h1] at h;cases h
  | some n=>
   cases h2:ws.mapM BH with
   | none=>rw [h1,h2] at h;cases h
   | some t=>
    rw [h1,h2] at h
    injection h with h
    rw [←h,List.length_cons,List.length_cons,mapM_len h2]
theorem fB: ∀ {l u:List UInt8},Jc l=some u→u.length≤l.length
 | [],u,h=>by
  injection h with h
  rw [←h]
  exact Nat.le_refl _
 | [_],u,h=>by cases h
 | a::b::t,u,h=>by
  rw [Qx] at h
  split at h
  ·cases ht:Jc t with
   | none=>rw [ht] at h;cases h
   | some v=>
    rw [ht] at h
    injection h with h
    have:=fB ht
    rw [←h]
    simp only [List.length_cons]
    omega
  ·cases h
theorem bH (s:ByteArray):(El s).1.size+(El s).2.1.size≤2*s.size:=by
 unfold El
 have h1:=Qo s
 have h2:=J4 (Nk s)
 have h3:=J4 (Nl s)
 split
 ·show(DW (Nk s)).1.size+(DW (Nl s)).1.size≤_
  omega
 ·exact Nat.zero_le _
theorem jI (l:ByteArray):(R7 l).size≤l.size:=by
 unfold R7
 split
 ·exact Nat.zero_le _
 ·exact Nat.le_refl _
theorem bI (ws:List ByteArray):(IL ws).size≤Em ws:=by
 have:=Ut ws
 unfold IL
 show(List.toArray _).size≤_
 simpa using this
theorem bJ {p:Nat} {m m':AP} {ws:List ByteArray} (h:Av p m ws=some m'):Ap m'≤Ap m+2*Em ws+4∧ ∀q,Lens m q→Lens m' (q+1):=by
 unfold Av at h
 split at h
 ·injection h with h
  subst h
  exact⟨by omega,fun q hl=>hl.mono (by omega)⟩
 ·split at h
  ·injection h with h
   subst h
   have h1:=bH (IL ws)
   have h2:=bI ws
   refine⟨?_,fun q hl=> ?_⟩
   ·unfold Ap
    simp only [List.length_append,List.length_singleton,Nu]
    omega
   ·have h3:=hl.types
    have h4:=hl.mono (Nat.le_succ q)
    exact⟨by simp only [List.length_append,List.length_singleton];omega,h4.hosts,h4.globs,h4.fns,h4.dat,h4.AU,h4.code⟩
  ·cases h
 ·rename_i a
  obtain⟨n,_,rfl⟩:=Option.map_eq_some_iff.1 h
  refine⟨?_,fun q hl=> ?_⟩
  ·unfold Ap
   simp only [List.length_append,List.length_singleton]
   omega
  ·have h3:=hl.hosts
   have h4:=hl.mono (Nat.le_succ q)
   exact⟨h4.types,by simp only [List.length_append,List.length_singleton];omega,h4.globs,h4.fns,h4.dat,h4.AU,h4.code⟩
 ·obtain⟨n,_,h⟩:=Option.bind_eq_some_iff.1 h
  obtain⟨g,_,rfl⟩:=Option.map_eq_some_iff.1 h
  refine⟨?_,fun q hl=> ?_⟩
  ·unfold Ap
   simp only [List.length_append,List.length_singleton]
   omega
  ·have h3:=hl.globs
   have h4:=hl.mono (Nat.le_succ q)
   exact⟨h4.types,h4.hosts,by simp only [List.length_append,List.length_singleton];omega,h4.fns,h4.dat,h4.AU,h4.code⟩
 ·obtain⟨n,_,h⟩:=Option.bind_eq_some_iff.1 h
  obtain⟨g,_,rfl⟩:=Option.map_eq_some_iff.1 h
  refine⟨?_,fun q hl=> ?_⟩
  ·show Ap m≤_
   omega
  ·have h4:=hl.mono (Nat.le_succ q)
   exact⟨h4.types,h4.hosts,h4.globs,h4.fns,h4.dat,h4.AU,h4.code⟩
 ·rename_i a l
  obtain⟨n,_,rfl⟩:=Option.map_eq_some_iff.1 h
  have h1:=jI l
  have h2:l.size+1≤Em [a,l]:=M9 (by simp)
  refine⟨?_,fun q hl=> ?_⟩
  ·unfold Ap
   simp only [List.length_append,List.length_singleton,Nu]
   have h5:J2 ⟨n,R7 l,[]⟩=(R7 l).size:=rfl
   rw [h5]
   omega
  ·have h3:=hl.fns
   have h4:=hl.mono (Nat.le_succ q)
   refine⟨h4.types,h4.hosts,h4.globs,by simp only [List.length_append,List.length_singleton];omega,h4.dat,h4.AU,fun f hf=> ?_⟩
   rcases List.mem_append.1 hf with hf | hf
   ·exact h4.code f hf
   ·rw [List.mem_singleton.1 hf];exact Nat.zero_le _
 ·rename_i a x
  obtain⟨n,_,h⟩:=Option.bind_eq_some_iff.1 h
  obtain⟨u,hu,rfl⟩:=Option.map_eq_some_iff.1 h
  have h1:=fB hu
  have h2:x.size+1≤Em [a,x]:=M9 (by simp)
  have h6:x.data.toList.length=x.size:=by simp
  refine⟨?_,fun q hl=> ?_⟩
  ·unfold Ap
   simp only [List.length_append,List.length_singleton,Nu]
   omega
  ·have h3:=hl.dat
   have h4:=hl.mono (Nat.le_succ q)
   exact⟨h4.types,h4.hosts,h4.globs,h4.fns,by simp only [List.length_append,List.length_singleton];omega,h4.AU,h4.code⟩
 ·rename_i x f
  obtain⟨n,_,rfl⟩:=Option.map_eq_some_iff.1 h
  have h2:x.size+1≤Em [x,f]:=M9 (by simp)
  refine⟨?_,fun q hl=> ?_⟩
  ·unfold Ap
   simp only [List.length_append,List.length_singleton,Nu]
   omega
  ·have h3:=hl.AU
   have h4:=hl.mono (Nat.le_succ q)
   exact⟨h4.types,h4.hosts,h4.globs,h4.fns,h4.dat,by simp only [List.length_append,List.length_singleton];omega,h4.code⟩
 ·cases h
theorem jJ {o:XD} {ws:List ByteArray} {x:DL} (h:OT o ws=some x):x.l.length≤Em ws:=by
 have hw:=Oj ws
 unfold OT at h
 split at h
 ·split at h
  ·injection h with h
   subst h
   exact Nat.zero_le _
  ·cases h
 ·split at h
  ·obtain⟨l,hl,rfl⟩:=Option.map_eq_some_iff.1 h
   rw [←mapM_len hl] at hw
   exact hw
  ·split at h
   ·obtain⟨n,_,rfl⟩:=Option.map_eq_some_iff.1 h
    exact Nat.zero_le _
   ·cases h
theorem nV (m:AP) (x:DL):Ap {m with fns:=GJ m.fns x}≤Ap m+1+x.l.length∧ ∀q,Lens m q→Lens {m with fns:=GJ m.fns x} (q+1):=by
 unfold GJ
 cases hf:m.fns.getLast? with
 | none=>exact⟨by unfold Ap;simp only;omega,fun q hl=>hl.mono (by omega)⟩
 | some f=>
  have hs:m.fns=m.fns.dropLast++ [f]:=by
   obtain⟨ys,e⟩:=List.getLast?_eq_some_iff.1 hf
   rw [e,List.dropLast_concat]
  have hL:m.fns.length=m.fns.dropLast.length+1:=by rw [hs];simp
  have hS:A_ J2 m.fns=A_ J2 m.fns.dropLast+J2 f:=by conv=>lhs;rw [hs,Nu]
  have hx:J2 {f with code:=f.code++ [x]}=J2 f+1+x.l.length:=by
   unfold J2 Ng
   simp only [List.length_append,List.length_singleton,Nu]
   omega
  refine⟨?_,fun q hl=> ?_⟩
  ·unfold Ap
   simp only [List.length_append,List.length_singleton,Nu]
   rw [hx]
   omega
  ·have h3:=hl.fns
   have h4:=hl.mono (Nat.le_succ q)
   refine⟨h4.types,h4.hosts,h4.globs,by simp only [List.length_append,List.length_singleton];omega,h4.dat,h4.AU,fun g hg=> ?_⟩
   rcases List.mem_append.1 hg with hg | hg
   ·exact h4.code g (by rw [hs];exact List.mem_append_left _ hg)
   ·rw [List.mem_singleton.1 hg]
    have:=hl.code f (by rw [hs];simp)
    simp only [List.length_append,List.length_singleton]
    omega
theorem WY {r r':Ka} {s:ByteArray} (h:QE r s=some r'):Ap r'.m≤Ap r.m+8*(s.size+1)∧ ∀q,Lens r.m q→Lens r'.m (q+1):=by
 have hid:Ap r.m≤Ap r.m+8*(s.size+1)∧ ∀q,Lens r.m q→Lens r.m (q+1):=⟨by omega,fun q hl=>hl.mono (by omega)⟩
 have hwd:=(Ey s).1
 unfold QE at h
 split at h
 ·injection h with h
  subst h
  exact hid
 ·unfold Ar at h
  split at h
  ·injection h with h
   subst h
   exact hid
  ·rename_i w ws hw
   rw [hw] at hwd
   have hws:w.size+1+Em ws≤s.size+1:=hwd
   split at h
   ·split at h
    ·obtain⟨o,_,h⟩:=Option.bind_eq_some_iff.1 h
     obtain⟨x,hx,rfl⟩:=Option.map_eq_some_iff.1 h
     have h1:=jJ hx
     have h2:=nV r.m x
     exact⟨Nat.le_trans h2.1 (by omega),h2.2⟩
    ·cases h
   ·split at h
    ·obtain⟨m',hm,rfl⟩:=Option.map_eq_some_iff.1 h
     have h1:=bJ hm
     exact⟨Nat.le_trans h1.1 (by omega),h1.2⟩
    ·cases h
def upto (ls:List ByteArray) (k:Nat):Nat:=Em (ls.take k)
theorem U9: ∀a b:List ByteArray,Em (a++b)=Em a+Em b
 | [],b=>by show _=0+_;rw [Nat.zero_add];rfl
 | x::a,b=>by
  have:=U9 a b
  show x.size+1+Em (a++b)=x.size+1+Em a+Em b
  omega
theorem jK {ls:List ByteArray} {k:Nat} {s:ByteArray} (h:ls[k]?=some s):upto ls (k+1)=upto ls k+(s.size+1):=by
 unfold upto
 rw [List.take_add_one,h,U9]
 rfl
theorem tK (ls:List ByteArray) (k:Nat):upto ls k≤Em ls:=by
 have h:=U9 (ls.take k) (ls.drop k)
 rw [List.take_append_drop] at h
 unfold upto
 omega
structure U_ (ls:List ByteArray) (k:Nat) (r:Ka):Prop where
 here:Zx ls qj 0=Zx (ls.drop k) r k
 sz:Ap r.m≤8*upto ls k
 lens:Lens r.m k
theorem U_.start (ls:List ByteArray):U_ ls 0 qj:=⟨rfl,Nat.zero_le _,⟨Nat.le_refl _,Nat.le_refl _,Nat.le_refl _,Nat.le_refl _,Nat.le_refl _,Nat.le_refl _,fun f hf=>by cases hf⟩⟩
theorem U_.next {ls:List ByteArray} {k:Nat} {r r':Ka} {s:ByteArray} (h:U_ ls k r) (hs:ls[k]?=some s) (hr:QE r s=some r'):U_ ls (k+1) r':=by
 have hf:=WY hr
 have hz:=h.sz
 refine⟨h.here.trans (nU hs hr),?_,hf.2 _ h.lens⟩
 rw [jK hs]
 have:=hf.1
 omega
theorem WZ: ∀(k:Nat) (s:ByteArray),Em (Lib.splitB gW 0 k s)≤s.size+1
 | 0,s=>Nat.le_refl _
 | k+1,s=>by
  rcases Lib.indexB_cases s gW with hix | ⟨i,hix,hroom⟩
  ·rw [Lib.splitB_miss gW 0 _ s hix]
   exact Nat.le_refl _
  ·have hsz:gW.size=1:=rfl
   rw [Lib.splitB_hit gW 0 k s i hix]
   have:=WZ k (s.extract (i+gW.size) s.size)
   show(s.extract 0 (i+0)).size+1+Em _≤_
   rw [ByteArray.size_extract] at this⊢
   omega
theorem Nv (s:ByteArray) (h:s.size≤1048576):Em (EC s)≤1048577:=by
 have:=WZ (Lib.countB s gW) s
 unfold EC
 omega
theorem U_.small {s:ByteArray} {k:Nat} {r:Ka} (h:U_ (EC s) k r) (hs:s.size≤1048576):Ap r.m≤2147483647:=by
 have h1:=h.sz
 have h2:=tK (EC s) k
 have h3:=Nv s hs
 omega
theorem jL {s x:ByteArray} {k:Nat} {r:Ka} (hs:s.size≤1048576) (h:U_ (EC s) k r) (hx:(EC s)[k]?=some x) (hr:QE r x=none):Ew s=(Br,22,k+1):=by
 unfold Ew
 rw [if_neg (by omega),h.here,tH hx hr]
theorem jM {s:ByteArray} {k:Nat} {r:Ka} (hs:s.size≤1048576) (hk:(EC s).length=k) (h:U_ (EC s) k r):Ew s=if r.st<5 then(Br,22,k) else if GU r.m=0 then(r.m,0,0) else(Br,GU r.m,0):=by
 unfold Ew
 rw [if_neg (by omega),h.here,tJ (by omega),hk]
theorem Sd: ∀(ls:List ByteArray) (r r':Ka) (k:Nat),Zx ls r k= .inl r'→Ap r'.m≤Ap r.m+8*Em ls
 | [],r,r',k,h=>by
  injection h with h
  subst h
  exact Nat.le_add_right _ _
 | s::t,r,r',k,h=>by
  have h:(if GV (DN s)=true then Zx t r (k+1) else match Ar r (DN s)with | none=> .inr (k+1) | some q=>Zx t q (k+1))= .inl r':=h
  have e:Em (s::t)=s.size+1+Em t:=rfl
  rw [e]
  by_cases hs:GV (DN s)=true
  ·rw [if_pos hs] at h
   have:=Sd t r r' _ h
   omega
  ·rw [if_neg hs] at h
   cases hl:Ar r (DN s)with
   | none=>rw [hl] at h;cases h
   | some q=>
    rw [hl] at h
    have h1:=Sd t q r' _ h
    have h2:=(WY (r:=r) (r':=q) (s:=s) (by unfold QE;rw [if_neg hs];exact hl)).1
    omega
theorem Zk (s:ByteArray):Ap (Ew s).1≤2147483647:=by
 unfold Ew
 split
 ·exact(by decide:Ap Br≤2147483647)
 ·rename_i hs
  split
  ·exact(by decide:Ap Br≤2147483647)
  ·rename_i r hr
   have h1:=Sd _ _ _ _ hr
   have h2:=Nv s (by omega)
   have h3:Ap qj.m=0:=rfl
   split
   ·exact(by decide:Ap Br≤2147483647)
   ·split
    ·show Ap r.m≤_;omega
    ·exact(by decide:Ap Br≤2147483647)
end Go.Proofs.YtejbcledkhioeaaGreatDoor
