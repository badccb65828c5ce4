/- Texts joined: DeclS DeclU DeclV DeclW ModI ModB ModC ProcC ProcD LiteR CodeR ProcE. -/
import Derived.Test.YtfdohkdifdemeaaGreatDoorQdtd
import Derived.Test.YtfdohkdifdemeaaGreatDoorQdtg
import Derived.Test.YtfdohkdifdemeaaGreatDoorQdth
import Derived.RangeFuncLeaves
import Derived.RangeFuncWrites
set_option linter.all false
set_option maxRecDepth 100000
set_option maxHeartbeats 16000000
section
set_option linter.unusedSimpArgs false
namespace Go.Proofs.R
open Go Go.RowKit bt
theorem Wr(n:Int)(w:World):bw Tryz.prog F.Ak #[.int .u8 n] w fun v w'=>v = .bool (o.letter n)∧w'=w:=by
 refine bP E.Ak ?_;refine bM ?_
 (repeat' first
  | (refine K.cond (fun _=>?_) (fun _=>?_)<;>try (exfalso;omega))
  | (refine K.dO (fun _=>?_) (fun _=>?_))
  | (refine K.wrap (by omega) ?_)
  | (refine K.ld (by assumption) ?_)
  | (refine K.ib (by omega) ?_)
  | simp -dsimp only[c6,cA,Nat.reduceAdd,Nat.reduceEqDiff,reduceIte,reduceCtorEq,de])
 all_goals (refine⟨?_,by first | rfl | trivial⟩;congr 1;rw[Bool.eq_iff_iff];simp[o.letter];omega)
theorem MU(n:Int)(w:World):bw Tryz.prog F.x1 #[.int .u8 n] w fun v w'=>v = .bool (o.digit n)∧w'=w:=by
 refine bP E.x1 ?_;refine bM ?_
 (repeat' first
  | (refine K.cond (fun _=>?_) (fun _=>?_)<;>try (exfalso;omega))
  | (refine K.dO (fun _=>?_) (fun _=>?_))
  | (refine K.wrap (by omega) ?_)
  | (refine K.ld (by assumption) ?_)
  | (refine K.ib (by omega) ?_)
  | simp -dsimp only[c6,cA,Nat.reduceAdd,Nat.reduceEqDiff,reduceIte,reduceCtorEq,de])
 all_goals (refine⟨?_,by first | rfl | trivial⟩;congr 1;rw[Bool.eq_iff_iff];simp[o.digit];omega)
def uE:List ByteArray:=[⟨#[58,61]⟩,⟨#[61,61]⟩,⟨#[33,61]⟩,⟨#[60,61]⟩,⟨#[45,62]⟩,⟨#[38,38]⟩,⟨#[124,124]⟩,⟨#[61,62]⟩,⟨#[40]⟩,⟨#[41]⟩,⟨#[91]⟩,⟨#[93]⟩,⟨#[123]⟩,⟨#[125]⟩,⟨#[59]⟩,⟨#[44]⟩,⟨#[58]⟩,⟨#[46]⟩,⟨#[60]⟩,⟨#[43]⟩,⟨#[45]⟩,⟨#[42]⟩,⟨#[33]⟩,⟨#[63]⟩,⟨#[64]⟩]
theorem aiG(w:World):bw Tryz.prog F.DO #[] w fun v w'=>(∃b,v = .slice (some ⟨b,0,none⟩) 25 25∧eB w' ⟨b,0,none⟩ (uE.map Value.string))∧Ext w w':=by
 refine bP E.DO ?_;refine bM ?_;refine aX ?_;refine K.oy (cs:=uE.map Value.string) (by simp[List.range,List.range.loop,e4,lay,fD,oB,b6,Value.cells,uE]) fun aq bE c8 aC ar=>?_;refine aX ?_;exact⟨⟨bE,rfl,h4 ar⟩,aC⟩
theorem YW(s:ByteArray)(w:World)(h:0<s.size)(aG:s.size≤16) :
  bw Tryz.prog F.DN #[.string s,.int .i64 0] w fun v w'=>(∃n k:Int,v = .tuple #[.int .i64 n,.int .i64 k]∧if o.letter (o.qP s 0:Nat)=true then n=o.run o.part s∧k=1 else k≠1)∧Ext w w':=by
 refine bP E.DN ?_;refine bM ?_;refine aX ?_;refine K.k9 (s.get! 0) (by decide) (o.get?_eq s 0 h) ?_;refine aX ?_;refine K.call (Wr _ w) ?_;rintro _ w ⟨rfl,rfl⟩;refine aX ?_;refine K.dO (fun h1=>?_) (fun h1=>?_)
 ·have qY:o.letter (o.qP s 0:Nat)=true:=h1;refine aX ?_;refine K.loop (fun S w' => ∃i:Nat,i≤s.size∧S 6 = .int .i64 i∧(∀j (aI:j<s.size),j<i→o.part s[j].toNat=true)∧w'=w)
   (fun S _=>(s.size - intOf (S 6)).toNat) ⟨0,by omega,by refine aX ?_;rfl,fun _ _ h=>absurd h (Nat.not_lt_zero _),rfl⟩ ?_
  rintro S w cm ⟨i,af,bY,dP,rfl⟩;have ao:=cm 0 rfl;have h1:=cm 1 rfl;simp only[b6,Nat.reduceAdd,Nat.reduceEqDiff,reduceIte,jr,my] at ao h1;clear cm;refine cb (And.intro ao (And.intro h1 bY)) ?_;refine K.cond (fun U=>?_) (fun U=>?_)
  ·have cS:i<s.size:=by omega
   refine cb (And.intro ao (And.intro h1 bY)) ?_;refine K.k9 (s.get! i) (by omega) (o.get?_eq s i cS) ?_;rw[o.get_eq s i cS];refine cb (And.intro ao (And.intro h1 bY)) ?_;refine K.call (Wr _ _) ?_;rintro _ w ⟨rfl,rfl⟩;refine cb (And.intro ao (And.intro h1 bY)) ?_;refine K.dO (fun ah=>?_) (fun ah=>?_)
   ·refine cb (And.intro ao (And.intro h1 bY)) ?_;refine K.wrap (by omega) ?_;refine cb (And.intro ao (And.intro h1 bY)) ?_;refine⟨⟨i+1,by omega,rfl,fun j aI gi=>?_,trivial⟩,by simp[intOf];omega⟩;by_cases kF:j<i
    ·exact dP j aI kF
    ·have:j=i:=by omega
     subst this;simp[o.part,ah]
   refine cb (And.intro ao (And.intro h1 bY)) ?_;refine K.k9 (s.get! i) (by omega) (o.get?_eq s i cS) ?_;rw[o.get_eq s i cS];refine cb (And.intro ao (And.intro h1 bY)) ?_;refine K.call (MU _ _) ?_;rintro _ w ⟨rfl,rfl⟩;refine cb (And.intro ao (And.intro h1 bY)) ?_;refine K.dO (fun aJ=>?_) (fun aJ=>?_)
   ·refine cb (And.intro ao (And.intro h1 bY)) ?_;refine K.wrap (by omega) ?_;refine cb (And.intro ao (And.intro h1 bY)) ?_;refine⟨⟨i+1,by omega,rfl,fun j aI gi=>?_,trivial⟩,by simp[intOf];omega⟩;by_cases kF:j<i
    ·exact dP j aI kF
    ·have:j=i:=by omega
     subst this;simp[o.part,aJ]
   refine cb (And.intro ao (And.intro h1 bY)) ?_;refine K.k9 (s.get! i) (by omega) (o.get?_eq s i cS) ?_;rw[o.get_eq s i cS];refine cb (And.intro ao (And.intro h1 bY)) ?_;refine K.cond (fun bk=>?_) (fun bk=>?_)
   ·refine cb (And.intro ao (And.intro h1 bY)) ?_;refine K.wrap (by omega) ?_;refine cb (And.intro ao (And.intro h1 bY)) ?_;refine⟨⟨i+1,by omega,rfl,fun j aI gi=>?_,trivial⟩,by simp[intOf];omega⟩;by_cases kF:j<i
    ·exact dP j aI kF
    ·have:j=i:=by omega
     subst this;simp[o.part];omega
   ·refine cb (And.intro ao (And.intro h1 bY)) ?_;refine K.wrap (by omega) ?_;refine cb (And.intro ao (And.intro h1 bY)) ?_;refine⟨⟨_,_,rfl,?_⟩,Ext.refl _⟩;rw[if_pos qY];rw[o.WH o.part s i cS (fun j aI=>dP j (by omega) aI) (by simp only[o.part,ah,aJ,Bool.false_or,decide_eq_false_iff_not];omega)];exact⟨by omega,rfl⟩
  ·refine cb (And.intro ao (And.intro h1 bY)) ?_;refine K.wrap (by omega) ?_;refine cb (And.intro ao (And.intro h1 bY)) ?_;refine⟨⟨_,_,rfl,?_⟩,Ext.refl _⟩;rw[if_pos qY];rw[o.Wz o.part s (fun j aI=>dP j aI (by omega))];exact⟨by omega,rfl⟩
 have qY:o.letter (o.qP s 0:Nat)=false:=h1;have jR:¬o.letter (o.qP s 0:Nat)=true:=by simp[qY]
 refine aX ?_;refine K.k9 (s.get! 0) (by decide) (o.get?_eq s 0 h) ?_;refine aX ?_;refine K.call (MU _ w) ?_;rintro _ w ⟨rfl,rfl⟩;refine aX ?_;refine K.dO (fun U=>?_) (fun U=>?_)
 ·refine aX ?_;refine K.loop (fun S w' => ∃i:Nat,i≤s.size∧S 6 = .int .i64 i∧w'=w)
   (fun S _=>(s.size - intOf (S 6)).toNat) ⟨0,by omega,by refine aX ?_;rfl,rfl⟩ ?_
  rintro S w cm ⟨i,af,bY,rfl⟩;have ao:=cm 0 rfl;have h1:=cm 1 rfl;simp only[b6,Nat.reduceAdd,Nat.reduceEqDiff,reduceIte,jr,my] at ao h1;clear cm;refine cb (And.intro ao (And.intro h1 bY)) ?_;refine K.cond (fun U=>?_) (fun U=>?_)
  ·have cS:i<s.size:=by omega
   refine cb (And.intro ao (And.intro h1 bY)) ?_;refine K.k9 (s.get! i) (by omega) (o.get?_eq s i cS) ?_;refine cb (And.intro ao (And.intro h1 bY)) ?_;refine K.call (MU _ _) ?_;rintro _ w ⟨rfl,rfl⟩;refine cb (And.intro ao (And.intro h1 bY)) ?_;refine K.dO (fun aJ=>?_) (fun aJ=>?_)
   ·refine cb (And.intro ao (And.intro h1 bY)) ?_;refine K.wrap (by omega) ?_;refine cb (And.intro ao (And.intro h1 bY)) ?_;exact⟨⟨i+1,by omega,rfl,trivial⟩,by simp[intOf];omega⟩
   ·refine cb (And.intro ao (And.intro h1 bY)) ?_;refine K.wrap (by omega) ?_;refine cb (And.intro ao (And.intro h1 bY)) ?_;exact⟨⟨_,_,rfl,by rw[if_neg jR];decide⟩,Ext.refl _⟩
  ·refine cb (And.intro ao (And.intro h1 bY)) ?_;refine K.wrap (by omega) ?_;refine cb (And.intro ao (And.intro h1 bY)) ?_;exact⟨⟨_,_,rfl,by rw[if_neg jR];decide⟩,Ext.refl _⟩
 refine aX ?_;refine K.call (aiG w) ?_;rintro _ aq ⟨⟨b,rfl,aw⟩,he⟩;refine aX ?_;refine K.loop (fun S w' => ∃i:Nat,i≤25∧S 8 = .int .i64 i∧Ext aq w')
  (fun S _=>(25 - intOf (S 8)).toNat) ⟨0,by omega,by refine aX ?_;rfl,Ext.refl _⟩ ?_
 rintro S w' cm ⟨i,af,df,aA⟩;have ao:=cm 0 rfl;have h1:=cm 1 rfl;have cO:=cm 7 rfl;simp only[b6,Nat.reduceAdd,Nat.reduceEqDiff,reduceIte,jr,my] at ao h1 cO;clear cm;refine cb (And.intro ao (And.intro h1 (And.intro cO df))) ?_;refine K.cond (fun U=>?_) (fun U=>?_)
 ·have cS:i<uE.length:=by simp[uE];omega
  have iw:w'.cell? (Addr.add ⟨b,0,none⟩ (i*1))=some (.string uE[i]):=by
   rw[Nat.mul_one];exact aw.ext aA i _ (by rw[List.getElem?_map,List.getElem?_eq_getElem cS];rfl)
  have bL:uE[i].size≤2:=by
   have:∀x∈uE,x.size≤2:=by decide
   exact this _ (List.getElem_mem _)
  generalize uE[i]=x at iw bL;refine cb (And.intro ao (And.intro h1 (And.intro cO df))) ?_;refine K.wrap (by omega) ?_;refine cb (And.intro ao (And.intro h1 (And.intro cO df))) ?_;refine K.dx i rfl (by omega) ?_;refine cb (And.intro ao (And.intro h1 (And.intro cO df))) ?_;refine K.ld iw ?_;refine cb (And.intro ao (And.intro h1 (And.intro cO df))) ?_;refine K.cond (fun ah=>?_) (fun ah=>?_)
  ·refine cb (And.intro ao (And.intro h1 (And.intro cO df))) ?_;refine K.dx i rfl (by omega) ?_;refine cb (And.intro ao (And.intro h1 (And.intro cO df))) ?_;refine K.ld iw ?_;refine cb (And.intro ao (And.intro h1 (And.intro cO df))) ?_;refine K.wrap (by omega) ?_;refine cb (And.intro ao (And.intro h1 (And.intro cO df))) ?_;refine K.wa 0 x.size (by simp[fZ,fD,b6,h1]) (by simp[fZ,fD,b6,h1]) (by omega) ?_;refine cb (And.intro ao (And.intro h1 (And.intro cO df))) ?_;refine K.dx i rfl (by omega) ?_;refine cb (And.intro ao (And.intro h1 (And.intro cO df))) ?_;refine K.ld iw ?_;refine cb (And.intro ao (And.intro h1 (And.intro cO df))) ?_;intro aU ax;refine K.cond (fun aJ=>?_) (fun aJ=>?_)
   ·refine cb (And.intro ao (And.intro h1 (And.intro cO df))) ?_;refine K.dx i rfl (by omega) ?_;refine cb (And.intro ao (And.intro h1 (And.intro cO df))) ?_;refine K.ld (ax.cell iw) ?_;refine cb (And.intro ao (And.intro h1 (And.intro cO df))) ?_;exact⟨⟨_,_,rfl,by rw[if_neg jR];decide⟩,he.trans (aA.trans ax)⟩
   ·refine cb (And.intro ao (And.intro h1 (And.intro cO df))) ?_;refine K.wrap (by omega) ?_;refine cb (And.intro ao (And.intro h1 (And.intro cO df))) ?_;exact⟨⟨i+1,by omega,rfl,aA.trans ax⟩,by simp[intOf];omega⟩
  ·refine cb (And.intro ao (And.intro h1 (And.intro cO df))) ?_;intro aU ax;refine K.wrap (by omega) ?_;refine cb (And.intro ao (And.intro h1 (And.intro cO df))) ?_;exact⟨⟨i+1,by omega,rfl,aA.trans ax⟩,by simp[intOf];omega⟩
 ·refine cb (And.intro ao (And.intro h1 (And.intro cO df))) ?_;exact⟨⟨_,_,rfl,by rw[if_neg jR];decide⟩,he.trans aA⟩
theorem AR(s:ByteArray)(w:World)(aG:s.size≤9223372036854775807):bw Tryz.prog F.sC #[.string s] w fun v w'=>v = .bool (o.isName s)∧Ext w w':=by
 refine bP E.sC ?_;refine bM ?_;refine aX ?_;refine K.cond (fun ao=>?_) (fun ao=>?_)
 ·refine aX ?_;refine⟨?_,Ext.refl w⟩;subst ao;rfl
 have bL:s.size≠0:=fun h=>ao (by
  cases s with | mk d =>
  have:d=#[]:=by simpa[ByteArray.size] using h
  rw[this])
 refine aX ?_;refine K.cond (fun h1=>?_) (fun h1=>?_)
 ·refine aX ?_;refine⟨?_,Ext.refl w⟩
  have:¬s.size≤16:=by omega
  simp[o.isName,this]
 have qY:s.size≤16:=by omega
 refine aX ?_;refine K.cond (fun U=>?_) (fun U=>?_)
 ·refine aX ?_;exact⟨by subst U;exact congrArg Value.bool (by decide +kernel),Ext.refl w⟩
 refine aX ?_;refine K.cond (fun ah=>?_) (fun ah=>?_)
 ·refine aX ?_;exact⟨by subst ah;exact congrArg Value.bool (by decide +kernel),Ext.refl w⟩
 refine aX ?_;refine K.cond (fun aJ=>?_) (fun aJ=>?_)
 ·refine aX ?_;exact⟨by subst aJ;exact congrArg Value.bool (by decide +kernel),Ext.refl w⟩
 refine aX ?_;refine K.cond (fun bk=>?_) (fun bk=>?_)
 ·refine aX ?_;exact⟨by subst bk;exact congrArg Value.bool (by decide +kernel),Ext.refl w⟩
 have hm:s∉o.pB:=by simp[o.pB,U,ah,aJ,bk]
 refine aX ?_;refine K.call (YW s w (by omega) qY) ?_;rintro _ aq ⟨⟨n,k,rfl,k4⟩,he⟩;refine aX ?_;refine K.cond (fun bY=>?_) (fun bY=>?_)
 ·refine aX ?_;refine⟨?_,he⟩;have a1:o.letter (o.qP s 0:Nat)=true:=by
   by_cases av:o.letter (o.qP s 0:Nat)=true
   ·exact av
   ·rw[if_neg av] at k4;exact absurd bY k4
  rw[if_pos a1] at k4;congr 1;simp[o.isName,a1,bL,qY,hm,k4.1];omega
 ·refine aX ?_;refine⟨?_,he⟩;have a1:o.letter (o.qP s 0:Nat)=false:=by
   by_cases av:o.letter (o.qP s 0:Nat)=true
   ·rw[if_pos av] at k4;exact absurd k4.2 bY
   ·simpa using av
  simp[o.isName,a1]
end Go.Proofs.R
end
section
set_option linter.unusedSimpArgs false
namespace Go.Proofs.R
open Go Go.RowKit bt
theorem xa{fb:Int}{fs:Nat→ByteArray}{mo:Nat→Int}{i:Nat}(h:fb≤i):o.err fb fs mo i=11:=by rw[o.err,if_pos h]
theorem zo{fb:Int}{fs:Nat→ByteArray}{mo:Nat→Int}{i:Nat}(h:¬fb≤i)(U:o.isName (fs i)=false):o.err fb fs mo i=6:=by rw[o.err,if_neg h,if_pos U]
theorem JK{fb:Int}{fs:Nat→ByteArray}{mo:Nat→Int}{i j:Nat}(h:¬fb≤i)(U:o.isName (fs i)=true)(aI:j<i)(he:fs j=fs i):o.err fb fs mo i=7:=by
 rw[o.err,if_neg h,if_neg (by simp[U]),if_pos ⟨j,aI,he⟩]
theorem JJ{fb:Int}{fs:Nat→ByteArray}{mo:Nat→Int}{i:Nat}(h:¬fb≤i)(U:o.isName (fs i)=true)(aI:∀j,j<i→fs j≠fs i):o.err fb fs mo i=mo i:=by
 rw[o.err,if_neg h,if_neg (by simp[U]),if_neg (fun⟨j,h1,U⟩=>aI j h1 U)]
theorem Vu{fb:Int}{fs:Nat→ByteArray}{mo:Nat→Int}{i:Nat}(hm:0≤fb)(h:∀j,j<i→o.err fb fs mo j=0):(i:Int)≤fb:=by
 by_cases av:(i:Int)≤fb
 ·exact av
 ·have:=h fb.toNat (by omega)
  rw[xa (by omega)] at this;cases this
theorem ahW(v:Value)(l:List o.Scalar)(w:World)(a1:o.hG w v l) :
  bw Tryz.prog F.DU #[v] w fun v w'=>v = .tuple #[.int .i64 (o.scalars l).1,.int .i64 (o.scalars l).2]∧Ext w w':=by
 obtain⟨bm,cap,rfl,hlen⟩:=a1.form;refine bP E.DU ?_;refine bM ?_;simp -dsimp only[c6,cA,Nat.reduceAdd,Nat.reduceEqDiff,reduceIte,reduceCtorEq,de];refine K.loop (fun S w' => ∃i:Nat,i≤l.length∧S 4 = .int .i64 i∧(∀j,j<i→o.err 2 (o.nameAt (·.name) l) (o.sL l) j=0)∧Ext w w')
  (fun S _=>(l.length - intOf (S 4)).toNat) ⟨0,by omega,by simp -dsimp only[c6,cA,Nat.reduceAdd,Nat.reduceEqDiff,reduceIte,reduceCtorEq,de];rfl,fun _ h=>absurd h (Nat.not_lt_zero _),Ext.refl _⟩ ?_
 rintro S w' cm ⟨i,af,aJ,dP,he⟩;have ao:=cm 0 rfl;simp only[b6,Nat.reduceAdd,Nat.reduceEqDiff,reduceIte,jr,my] at ao;clear cm;have eP:=Vu (by omega) dP;refine cb (And.intro ao aJ) ?_;apply K.cond<;>intro g1;rotate_left
 ·refine cb (And.intro ao aJ) ?_;rw[o.scalars,o.nN (fun j aI=>dP j (by omega))];exact⟨rfl,he⟩
 have cS:i<l.length:=by omega
 obtain⟨a,rfl⟩:=a1.addr (by omega);have hy:=bG.ext o.iY.ext he a1;have oG:=(hy.at i cS).cells 0 _ rfl;have ar:=(hy.at i cS).cells 1 _ rfl;have dA:o.hE l[i].name:=(hy.at i cS).ok;have fp:o.nameAt (fun x:o.Scalar=>x.name) l i=l[i].name:=qi _ _ _ cS;refine cb (And.intro ao aJ) ?_;apply K.cond<;>intro g2
 ·refine cb (And.intro ao aJ) ?_;rw[o.scalars,o.iu cS dP (by rw[xa (by omega)];decide),xa (by omega)];exact⟨rfl,he⟩
 have hm:¬(2:Int)≤(i:Int):=by omega
 refine cb (And.intro ao aJ) ?_;refine K.dx i rfl cS ?_;refine cb (And.intro ao aJ) ?_;refine K.ld oG ?_;refine cb (And.intro ao aJ) ?_;refine K.call (AR _ _ dA) ?_;rintro _ aU ⟨rfl,aA⟩;refine cb (And.intro ao aJ) ?_;refine K.dO (fun g3=>?_) (fun g3=>?_);rotate_left
 ·refine cb (And.intro ao aJ) ?_;rw[←fp] at g3;rw[o.scalars,o.iu cS dP (by rw[zo hm g3];decide),zo hm g3];exact⟨rfl,he.trans aA⟩
 have ph:=g3;rw[←fp] at ph;replace aA:=he.trans aA;clear he hy;refine cb (And.intro ao aJ) ?_;refine K.loop (fun a8 w' => ∃k:Nat,k≤i∧a8 5 = .int .i64 k∧(∀j,j<k→o.nameAt (fun x:o.Scalar=>x.name) l j≠o.nameAt (fun x:o.Scalar=>x.name) l i)∧Ext w w')
  (fun S _=>(i - intOf (S 5)).toNat) ⟨0,by omega,by simp -dsimp only[c6,cA,Nat.reduceAdd,Nat.reduceEqDiff,reduceIte,reduceCtorEq,de];rfl,fun _ h=>absurd h (Nat.not_lt_zero _),aA⟩ ?_
 rintro iH aY nP ⟨k,hk,bk,cH,ax⟩;have cz:=ao;have cC:=aJ;have ao:=nP 0 rfl;have aJ:=nP 4 rfl;simp only[b6,Nat.reduceAdd,Nat.reduceEqDiff,reduceIte,jr,my] at ao aJ;clear nP;rw[cz] at ao;rw[cC] at aJ;have hy:=bG.ext o.iY.ext ax a1;have oG:=(hy.at i cS).cells 0 _ rfl;have ar:=(hy.at i cS).cells 1 _ rfl;refine cb (And.intro ao (And.intro aJ bk)) ?_;apply K.cond<;>intro g4
 ·have br:k<l.length:=by omega
  have kE:=(hy.at k br).cells 0 _ rfl;have k4:o.nameAt (fun x:o.Scalar=>x.name) l k=l[k].name:=qi _ _ _ br;refine cb (And.intro ao (And.intro aJ bk)) ?_;refine K.dx k rfl br ?_;refine cb (And.intro ao (And.intro aJ bk)) ?_;refine K.ld kE ?_;refine cb (And.intro ao (And.intro aJ bk)) ?_;refine K.dx i rfl cS ?_;refine cb (And.intro ao (And.intro aJ bk)) ?_;refine K.ld oG ?_;refine cb (And.intro ao (And.intro aJ bk)) ?_;intro bo aF;apply K.cond<;>intro g5
  ·refine cb (And.intro ao (And.intro aJ bk)) ?_;have aL:=JK (mo:=o.sL l) hm ph (show k<i by omega) (by rw[k4,fp];exact g5);rw[o.scalars,o.iu cS dP (by rw[aL];decide),aL];exact⟨rfl,ax.trans aF⟩
  ·refine cb (And.intro ao (And.intro aJ bk)) ?_;refine K.wrap (by omega) ?_;refine cb (And.intro ao (And.intro aJ bk)) ?_;refine⟨⟨k+1,by omega,rfl,fun j aI=>?_,ax.trans aF⟩,by simp[intOf];omega⟩;by_cases km:j<k
   ·exact cH j km
   ·have:j=k:=by omega
    subst this;rw[k4,fp];exact g5
 have gD:=JJ (mo:=o.sL l) hm ph (fun j aI=>cH j (by omega));have tU:o.sL l i=if 1≤l[i].size∧l[i].size≤4 then 0 else 10:=by simp[o.sL,cS]
 rw[tU] at gD;generalize l[i].size=z at ar gD;refine cb (And.intro ao (And.intro aJ bk)) ?_;refine K.dx i rfl cS ?_;refine cb (And.intro ao (And.intro aJ bk)) ?_;refine K.ld ar ?_;refine cb (And.intro ao (And.intro aJ bk)) ?_;apply K.cond<;>intro g6
 ·refine cb (And.intro ao (And.intro aJ bk)) ?_;rw[if_neg (by omega)] at gD;rw[o.scalars,o.iu cS dP (by rw[gD];decide),gD];exact⟨rfl,ax⟩
 refine cb (And.intro ao (And.intro aJ bk)) ?_;refine K.dx i rfl cS ?_;refine cb (And.intro ao (And.intro aJ bk)) ?_;refine K.ld ar ?_;refine cb (And.intro ao (And.intro aJ bk)) ?_;apply K.cond<;>intro g7
 ·refine cb (And.intro ao (And.intro aJ bk)) ?_;rw[if_neg (by omega)] at gD;rw[o.scalars,o.iu cS dP (by rw[gD];decide),gD];exact⟨rfl,ax⟩
 ·refine cb (And.intro ao (And.intro aJ bk)) ?_;rw[if_pos (by omega)] at gD;refine K.wrap (by omega) ?_;refine cb (And.intro ao (And.intro aJ bk)) ?_;refine⟨⟨i+1,by omega,rfl,fun j aI=>?_,ax⟩,by simp[intOf,cC];omega⟩;by_cases gi:j<i
  ·exact dP j gi
  ·have:j=i:=by omega
   subst this;exact gD
end Go.Proofs.R
end
section
set_option linter.unusedSimpArgs false
namespace Go.Proofs.R
open Go Go.RowKit bt
theorem W6(bA af:Int)(w:World):bw Tryz.prog F.x4 #[.int .i64 bA,.int .i64 af] w fun v w'=>v = .bool (o.narrow bA af)∧w'=w:=by
 refine bP E.x4 ?_;refine bM ?_
 (repeat' first
  | (refine K.cond (fun _=>?_) (fun _=>?_)<;>try (exfalso;omega))
  | (refine K.dO (fun _=>?_) (fun _=>?_))
  | (refine K.wrap (by omega) ?_)
  | (refine K.ld (by assumption) ?_)
  | (refine K.ib (by omega) ?_)
  | simp -dsimp only[c6,cA,Nat.reduceAdd,Nat.reduceEqDiff,reduceIte,reduceCtorEq,de])
 all_goals (refine⟨?_,by first | rfl | trivial⟩;congr 1;rw[Bool.eq_iff_iff];simp[o.narrow];omega)
def Ig(v:o.Var)(s:List o.Scalar):Int :=
 if (v.scalar≠0∧o.size v.scalar s=0)∨(v.over≠0∧o.size v.over s=0) then 8
 else if v.scalar=0∧(o.narrow v.bA v.af=false∨v.init<v.bA∨v.init > v.af) then 10
 else if v.scalar≠0∧(v.init<0∨v.init > o.size v.scalar s) then 10 else 0
theorem ajG(l:List o.Var)(s:List o.Scalar)(i:Nat)(h:i<l.length):o.oe l s i=Ig l[i] s:=by
 rw[o.oe,List.getElem?_eq_getElem h];simp only[Ig,o.there,o.bounds,decide_eq_false_iff_not];by_cases ao:l[i].scalar=0
 ·simp only[ao,if_true];by_cases h1:l[i].over=0
  ·simp[h1]
  ·simp[h1]
 ·simp only[ao,if_false];by_cases h1:l[i].over=0
  ·simp[ao,h1]
  ·simp[ao,h1]
theorem ahY(x:o.Var)(v:Value)(l:List o.Scalar)(w:World)(a1:o.hG w v l) :
  bw Tryz.prog F.DV #[.agg x.enc.toArray,v] w fun v w'=>v = .int .i64 (Ig x l)∧Ext w w':=by
 obtain⟨bm,cap,rfl,hlen⟩:=a1.form;refine bP E.DV ?_;refine bM ?_;simp -dsimp only[c6,cA,Nat.reduceAdd,Nat.reduceEqDiff,reduceIte,reduceCtorEq,de];refine K.new fun aq b aB aC ar=>?_;have pt:=bG.ext o.iY.ext aC a1;have c1:aq.cell? (Addr.add ⟨b,0,none⟩ 1)=some (.int .i64 x.scalar):=eN ar rfl;have c2:aq.cell? (Addr.add ⟨b,0,none⟩ 2)=some (.int .i64 x.over):=eN ar rfl;have bJ:aq.cell? (Addr.add ⟨b,0,none⟩ 3)=some (.int .i64 x.bA):=eN ar rfl;have bW:aq.cell? (Addr.add ⟨b,0,none⟩ 4)=some (.int .i64 x.af):=eN ar rfl;have pd:aq.cell? (Addr.add ⟨b,0,none⟩ 5)=some (.int .i64 x.init):=eN ar rfl;have aR:∀k w',Ext aq w'→bw Tryz.prog F.qe #[.slice bm l.length cap,.int .i64 k] w' fun u b1=>u = .int .i64 (o.size k l)∧Ext w' b1:=fun k w' he =>
  (AN k _ l w' (bG.ext o.iY.ext he pt)).mono fun v b1 h=>⟨h.1,h.2 ▸ Ext.refl _⟩
 (repeat' first
  | (refine K.cond (fun _=>?_) (fun _=>?_)<;>try (exfalso;omega))
  | (refine K.dO (fun _=>?_) (fun _=>?_))
  | (refine K.ld (by assumption) ?_)
  | (refine K.call (AN _ _ l _ pt) ?_;rintro _ aq ⟨rfl,rfl⟩)
  | (refine K.call (W6 _ _ _) ?_;rintro _ aq ⟨rfl,rfl⟩)
  | (refine K.gm _ (aR _) ?_)
  | simp -dsimp only[c6,cA,Nat.reduceAdd,Nat.reduceEqDiff,reduceIte,reduceCtorEq,de]
  | (intro aU aA;replace aA:=aC.trans aA))
 all_goals (refine⟨?_,by assumption⟩;congr 1;unfold Ig;simp only[o.narrow,decide_eq_false_iff_not])
 all_goals (repeat' split)
 all_goals first | rfl | (exfalso;omega)
theorem Wl(v v2:Value)(l:List o.Var)(s:List o.Scalar)(fb:Int)(w:World)(a1:o.hh w v l)(aG:o.hG w v2 s) :
  bw Tryz.prog F.Ao #[v,v2,.int .i64 fb] w fun v w'=>v = .tuple #[.int .i64 (o.vars l s fb).1,.int .i64 (o.vars l s fb).2]∧Ext w w':=by
 obtain⟨bm,cap,rfl,hlen⟩:=a1.form;refine bP E.Ao ?_;refine bM ?_;simp -dsimp only[c6,cA,Nat.reduceAdd,Nat.reduceEqDiff,reduceIte,reduceCtorEq,de];refine K.loop (fun S w' => ∃i:Nat,i≤l.length∧S 8 = .int .i64 i∧(∀j,j<i→o.err (max fb 0) (o.nameAt (·.name) l) (o.oe l s) j=0)∧Ext w w')
  (fun S _=>(l.length - intOf (S 8)).toNat) ⟨0,by omega,by simp -dsimp only[c6,cA,Nat.reduceAdd,Nat.reduceEqDiff,reduceIte,reduceCtorEq,de];rfl,fun _ h=>absurd h (Nat.not_lt_zero _),Ext.refl _⟩ ?_
 rintro S w' cm ⟨i,af,df,dP,he⟩;have ao:=cm 0 rfl;have h1:=cm 1 rfl;have U:=cm 2 rfl;simp only[b6,Nat.reduceAdd,Nat.reduceEqDiff,reduceIte,jr,my] at ao h1 U;clear cm;refine cb (And.intro ao (And.intro h1 (And.intro U df))) ?_;apply K.cond<;>intro g1;rotate_left
 ·refine cb (And.intro ao (And.intro h1 (And.intro U df))) ?_;rw[o.vars,o.nN (fun j aI=>dP j (by omega))];exact⟨rfl,he⟩
 have cS:i<l.length:=by omega
 obtain⟨a,rfl⟩:=a1.addr (by omega);have hy:=bG.ext o.o6.ext he a1;have oG:=(hy.at i cS).cells 0 _ rfl;have dA:o.hE l[i].name:=(hy.at i cS).ok;have fp:o.nameAt (fun x:o.Var=>x.name) l i=l[i].name:=qi _ _ _ cS;refine cb (And.intro ao (And.intro h1 (And.intro U df))) ?_;apply K.cond<;>intro g2
 ·refine cb (And.intro ao (And.intro h1 (And.intro U df))) ?_;rw[o.vars,o.iu cS dP (by rw[xa (by omega)];decide),xa (by omega)];exact⟨rfl,he⟩
 have hm:¬(max fb 0:Int)≤(i:Int):=by omega
 refine cb (And.intro ao (And.intro h1 (And.intro U df))) ?_;refine K.dx i rfl cS ?_;refine cb (And.intro ao (And.intro h1 (And.intro U df))) ?_;refine K.ld oG ?_;refine cb (And.intro ao (And.intro h1 (And.intro U df))) ?_;refine K.call (AR _ _ dA) ?_;rintro _ aU ⟨rfl,aA⟩;refine cb (And.intro ao (And.intro h1 (And.intro U df))) ?_;refine K.dO (fun g3=>?_) (fun g3=>?_);rotate_left
 ·refine cb (And.intro ao (And.intro h1 (And.intro U df))) ?_;rw[←fp] at g3;rw[o.vars,o.iu cS dP (by rw[zo hm g3];decide),zo hm g3];exact⟨rfl,he.trans aA⟩
 have ph:=g3;rw[←fp] at ph;replace aA:=he.trans aA;clear he hy;refine cb (And.intro ao (And.intro h1 (And.intro U df))) ?_;refine K.loop (fun a8 w' => ∃k:Nat,k≤i∧a8 9 = .int .i64 k∧(∀j,j<k→o.nameAt (fun x:o.Var=>x.name) l j≠o.nameAt (fun x:o.Var=>x.name) l i)∧Ext w w')
  (fun S _=>(i - intOf (S 9)).toNat) ⟨0,by omega,by simp -dsimp only[c6,cA,Nat.reduceAdd,Nat.reduceEqDiff,reduceIte,reduceCtorEq,de];rfl,fun _ h=>absurd h (Nat.not_lt_zero _),aA⟩ ?_
 rintro iH aY nP ⟨k,hk,hi,cH,ax⟩;have cz:=ao;have cj:=h1;have cq:=U;have VN:=df;have ao:=nP 0 rfl;have h1:=nP 1 rfl;have U:=nP 2 rfl;have df:=nP 8 rfl;simp only[b6,Nat.reduceAdd,Nat.reduceEqDiff,reduceIte,jr,my] at ao h1 U df;clear nP;rw[cz] at ao;rw[cj] at h1;rw[cq] at U;rw[VN] at df;have hy:=bG.ext o.o6.ext ax a1;have oG:=(hy.at i cS).cells 0 _ rfl;refine cb (And.intro ao (And.intro h1 (And.intro U (And.intro df hi)))) ?_;apply K.cond<;>intro g4
 ·have br:k<l.length:=by omega
  have kE:=(hy.at k br).cells 0 _ rfl;have k4:o.nameAt (fun x:o.Var=>x.name) l k=l[k].name:=qi _ _ _ br;refine cb (And.intro ao (And.intro h1 (And.intro U (And.intro df hi)))) ?_;refine K.dx k rfl br ?_;refine cb (And.intro ao (And.intro h1 (And.intro U (And.intro df hi)))) ?_;refine K.ld kE ?_;refine cb (And.intro ao (And.intro h1 (And.intro U (And.intro df hi)))) ?_;refine K.dx i rfl cS ?_;refine cb (And.intro ao (And.intro h1 (And.intro U (And.intro df hi)))) ?_;refine K.ld oG ?_;refine cb (And.intro ao (And.intro h1 (And.intro U (And.intro df hi)))) ?_;intro bo aF;apply K.cond<;>intro g5
  ·refine cb (And.intro ao (And.intro h1 (And.intro U (And.intro df hi)))) ?_;have aL:=JK (mo:=o.oe l s) hm ph (show k<i by omega) (by rw[k4,fp];exact g5);rw[o.vars,o.iu cS dP (by rw[aL];decide),aL];exact⟨rfl,ax.trans aF⟩
  ·refine cb (And.intro ao (And.intro h1 (And.intro U (And.intro df hi)))) ?_;refine K.wrap (by omega) ?_;refine cb (And.intro ao (And.intro h1 (And.intro U (And.intro df hi)))) ?_;refine⟨⟨k+1,by omega,rfl,fun j aI=>?_,ax.trans aF⟩,by simp[intOf];omega⟩;by_cases km:j<k
   ·exact cH j km
   ·have:j=k:=by omega
    subst this;rw[k4,fp];exact g5
 have gD:=JJ (mo:=o.oe l s) hm ph (fun j aI=>cH j (by omega));rw[ajG l s i cS] at gD;have xN:=bG.ext o.iY.ext ax aG;have p5:=(hy.at i cS).cells;generalize l[i]=x at p5 gD;refine cb (And.intro ao (And.intro h1 (And.intro U (And.intro df hi)))) ?_;refine K.dx i rfl cS ?_;refine cb (And.intro ao (And.intro h1 (And.intro U (And.intro df hi)))) ?_;refine K.j8 p5 rfl ?_;refine cb (And.intro ao (And.intro h1 (And.intro U (And.intro df hi)))) ?_;refine K.call (ahY x _ s _ xN) ?_;rintro _ bo ⟨rfl,aF⟩;replace aF:=ax.trans aF;refine cb (And.intro ao (And.intro h1 (And.intro U (And.intro df hi)))) ?_;apply K.cond<;>intro g6;rotate_left
 ·refine cb (And.intro ao (And.intro h1 (And.intro U (And.intro df hi)))) ?_;rw[o.vars,o.iu cS dP (by rw[gD];exact g6),gD];exact⟨rfl,aF⟩
 ·refine cb (And.intro ao (And.intro h1 (And.intro U (And.intro df hi)))) ?_;rw[g6] at gD;refine K.wrap (by omega) ?_;refine cb (And.intro ao (And.intro h1 (And.intro U (And.intro df hi)))) ?_;refine⟨⟨i+1,by omega,rfl,fun j aI=>?_,aF⟩,by simp[intOf,VN];omega⟩;by_cases gi:j<i
  ·exact dP j gi
  ·have:j=i:=by omega
   subst this;exact gD
end Go.Proofs.R
end
section
set_option linter.unusedSimpArgs false
namespace Go.Proofs.R
open Go Go.RowKit bt
theorem ahO(v v2:Value)(l:List o.dK)(s:List o.Scalar)(w:World)(a1:o.nA w v l)(aG:o.hG w v2 s) :
  bw Tryz.prog F.DT #[v,v2] w fun v w'=>v = .tuple #[.int .i64 (o.a7 l s).1,.int .i64 (o.a7 l s).2]∧Ext w w':=by
 obtain⟨bm,cap,rfl,hlen⟩:=a1.form;refine bP E.DT ?_;refine bM ?_;refine aX ?_;refine K.loop (fun S w' => ∃i:Nat,i≤l.length∧S 6 = .int .i64 i∧(∀j,j<i→o.err 4 (o.nameAt (·.name) l) (o.nK l s) j=0)∧Ext w w')
  (fun S _=>(l.length - intOf (S 6)).toNat) ⟨0,by omega,by refine aX ?_;rfl,fun _ h=>absurd h (Nat.not_lt_zero _),Ext.refl _⟩ ?_
 rintro S w' cm ⟨i,af,bY,dP,he⟩;have ao:=cm 0 rfl;have h1:=cm 1 rfl;simp only[b6,Nat.reduceAdd,Nat.reduceEqDiff,reduceIte,jr,my] at ao h1;clear cm;have eP:=Vu (by omega) dP;simp -dsimp only[c6,cA,Nat.reduceAdd,Nat.reduceEqDiff,reduceIte,reduceCtorEq,de,ao,h1,bY];apply K.cond<;>intro g1;rotate_left
 ·simp -dsimp only[c6,cA,Nat.reduceAdd,Nat.reduceEqDiff,reduceIte,reduceCtorEq,de,ao,h1,bY];rw[o.a7,o.nN (fun j aI=>dP j (by omega))];exact⟨rfl,he⟩
 have cS:i<l.length:=by omega
 obtain⟨a,rfl⟩:=a1.addr (by omega);have hy:=bG.ext o.o5.ext he a1;have oG:=(hy.at i cS).cells 0 _ rfl;have dA:o.hE l[i].name:=(hy.at i cS).ok;have fp:o.nameAt (fun x:o.dK=>x.name) l i=l[i].name:=qi _ _ _ cS;simp -dsimp only[c6,cA,Nat.reduceAdd,Nat.reduceEqDiff,reduceIte,reduceCtorEq,de,ao,h1,bY];apply K.cond<;>intro g2
 ·simp -dsimp only[c6,cA,Nat.reduceAdd,Nat.reduceEqDiff,reduceIte,reduceCtorEq,de,ao,h1,bY];rw[o.a7,o.iu cS dP (by rw[xa (by omega)];decide),xa (by omega)];exact⟨rfl,he⟩
 have hm:¬(4:Int)≤(i:Int):=by omega
 simp -dsimp only[c6,cA,Nat.reduceAdd,Nat.reduceEqDiff,reduceIte,reduceCtorEq,de,ao,h1,bY];refine K.dx i rfl cS ?_;simp -dsimp only[c6,cA,Nat.reduceAdd,Nat.reduceEqDiff,reduceIte,reduceCtorEq,de,ao,h1,bY];refine K.ld oG ?_;simp -dsimp only[c6,cA,Nat.reduceAdd,Nat.reduceEqDiff,reduceIte,reduceCtorEq,de,ao,h1,bY];refine K.call (AR _ _ dA) ?_;rintro _ aU ⟨rfl,aA⟩;simp -dsimp only[c6,cA,Nat.reduceAdd,Nat.reduceEqDiff,reduceIte,reduceCtorEq,de,ao,h1,bY];refine K.dO (fun g3=>?_) (fun g3=>?_);rotate_left
 ·simp -dsimp only[c6,cA,Nat.reduceAdd,Nat.reduceEqDiff,reduceIte,reduceCtorEq,de,ao,h1,bY];rw[←fp] at g3;rw[o.a7,o.iu cS dP (by rw[zo hm g3];decide),zo hm g3];exact⟨rfl,he.trans aA⟩
 have ph:=g3;rw[←fp] at ph;replace aA:=he.trans aA;clear he hy;simp -dsimp only[c6,cA,Nat.reduceAdd,Nat.reduceEqDiff,reduceIte,reduceCtorEq,de,ao,h1,bY];refine K.loop (fun a8 w' => ∃k:Nat,k≤i∧a8 7 = .int .i64 k∧(∀j,j<k→o.nameAt (fun x:o.dK=>x.name) l j≠o.nameAt (fun x:o.dK=>x.name) l i)∧Ext w w')
  (fun S _=>(i - intOf (S 7)).toNat) ⟨0,by omega,by refine aX ?_;rfl,fun _ h=>absurd h (Nat.not_lt_zero _),aA⟩ ?_
 rintro iH aY nP ⟨k,hk,cO,cH,ax⟩;have cz:=ao;have cj:=h1;have VM:=bY;have ao:=nP 0 rfl;have h1:=nP 1 rfl;have bY:=nP 6 rfl;simp only[b6,Nat.reduceAdd,Nat.reduceEqDiff,reduceIte,jr,my] at ao h1 bY;clear nP;rw[cz] at ao;rw[cj] at h1;rw[VM] at bY;have hy:=bG.ext o.o5.ext ax a1;have oG:=(hy.at i cS).cells 0 _ rfl;simp -dsimp only[c6,cA,Nat.reduceAdd,Nat.reduceEqDiff,reduceIte,reduceCtorEq,de,ao,h1,bY,cO];apply K.cond<;>intro g4
 ·have br:k<l.length:=by omega
  have kE:=(hy.at k br).cells 0 _ rfl;have k4:o.nameAt (fun x:o.dK=>x.name) l k=l[k].name:=qi _ _ _ br;simp -dsimp only[c6,cA,Nat.reduceAdd,Nat.reduceEqDiff,reduceIte,reduceCtorEq,de,ao,h1,bY,cO];refine K.dx k rfl br ?_;simp -dsimp only[c6,cA,Nat.reduceAdd,Nat.reduceEqDiff,reduceIte,reduceCtorEq,de,ao,h1,bY,cO];refine K.ld kE ?_;simp -dsimp only[c6,cA,Nat.reduceAdd,Nat.reduceEqDiff,reduceIte,reduceCtorEq,de,ao,h1,bY,cO];refine K.dx i rfl cS ?_;simp -dsimp only[c6,cA,Nat.reduceAdd,Nat.reduceEqDiff,reduceIte,reduceCtorEq,de,ao,h1,bY,cO];refine K.ld oG ?_;simp -dsimp only[c6,cA,Nat.reduceAdd,Nat.reduceEqDiff,reduceIte,reduceCtorEq,de,ao,h1,bY,cO];intro bo aF;apply K.cond<;>intro g5
  ·simp -dsimp only[c6,cA,Nat.reduceAdd,Nat.reduceEqDiff,reduceIte,reduceCtorEq,de,ao,h1,bY,cO];have aL:=JK (mo:=o.nK l s) hm ph (show k<i by omega) (by rw[k4,fp];exact g5);rw[o.a7,o.iu cS dP (by rw[aL];decide),aL];exact⟨rfl,ax.trans aF⟩
  ·simp -dsimp only[c6,cA,Nat.reduceAdd,Nat.reduceEqDiff,reduceIte,reduceCtorEq,de,ao,h1,bY,cO];refine K.wrap (by omega) ?_;simp -dsimp only[c6,cA,Nat.reduceAdd,Nat.reduceEqDiff,reduceIte,reduceCtorEq,de,ao,h1,bY,cO];refine⟨⟨k+1,by omega,rfl,fun j aI=>?_,ax.trans aF⟩,by simp[intOf];omega⟩;by_cases km:j<k
   ·exact cH j km
   ·have:j=k:=by omega
    subst this;rw[k4,fp];exact g5
 have gD:=JJ (mo:=o.nK l s) hm ph (fun j aI=>cH j (by omega));have e9:o.nK l s i=if o.there l[i].scalar s=false then 8 else if l[i].cap<1∨l[i].cap > 4∨(l[i].scalar=0∧o.narrow l[i].bA l[i].af=false) then 10 else 0:=by simp[o.nK,cS]
 rw[e9] at gD;have xN:=bG.ext o.iY.ext ax aG;have c1:=(hy.at i cS).cells 1 _ rfl;have c2:=(hy.at i cS).cells 2 _ rfl;have bJ:=(hy.at i cS).cells 3 _ rfl;have bW:=(hy.at i cS).cells 4 _ rfl;simp only[o.there,o.narrow,decide_eq_false_iff_not] at gD;generalize l[i].scalar=xs at c1 gD;generalize l[i].cap=am6 at c2 gD;generalize l[i].bA=NN at bJ gD;generalize l[i].af=NM at bW gD;clear e9;have aR:∀w',Ext aY w'→bw Tryz.prog F.x4 #[.int .i64 NN,.int .i64 NM] w' fun u b1=>u = .bool (o.narrow NN NM)∧Ext w' b1:=fun w' he =>
  (W6 NN NM w').mono fun v b1 h=>⟨h.1,h.2 ▸ Ext.refl _⟩
 simp -dsimp only[c6,cA,Nat.reduceAdd,Nat.reduceEqDiff,reduceIte,reduceCtorEq,de,ao,h1,bY,cO]
 (repeat' first
  | (refine K.cond (fun _=>?_) (fun _=>?_)<;>try (exfalso;omega))
  | (refine K.dO (fun _=>?_) (fun _=>?_))
  | (refine K.dx i rfl cS ?_)
  | (refine K.ld (by assumption) ?_)
  | (refine K.call (AN _ _ s _ xN) ?_;rintro _ aY ⟨rfl,rfl⟩)
  | (refine K.gm _ aR ?_)
  | simp -dsimp only[c6,cA,Nat.reduceAdd,Nat.reduceEqDiff,reduceIte,reduceCtorEq,de,ao,h1,bY,cO]
  | (intro bo aF;replace aF:=ax.trans aF))
 all_goals first
  | (rw[if_pos (by omega)] at gD
     rw[o.a7,o.iu cS dP (by rw[gD];decide),gD];exact⟨rfl,by assumption⟩)
  | (rw[if_neg (by omega),if_pos (by omega)] at gD
     rw[o.a7,o.iu cS dP (by rw[gD];decide),gD];exact⟨rfl,by assumption⟩)
  | (rw[if_neg (by omega),if_neg (by omega)] at gD
     refine K.wrap (by omega) ?_;simp -dsimp only[c6,cA,Nat.reduceAdd,Nat.reduceEqDiff,reduceIte,reduceCtorEq,de,ao,h1,bY,cO];refine⟨⟨i+1,by omega,rfl,fun j aI=>?_,by assumption⟩,by simp[intOf,VM];omega⟩;by_cases gi:j<i
     ·exact dP j gi
     ·have:j=i:=by omega
      subst this;exact gD)
end Go.Proofs.R
end
section
namespace o
theorem YD(m:Model)(i:Nat):s6 m 2 i=qh m i:=by
 have b2:cJ 1 2 i m.vars.length=min m.vars.length i:=by unfold cJ;rw[if_pos (by decide),if_neg (by decide)];simp
 have ba:cJ 2 2 i m.a7.length=0:=by unfold cJ;rw[if_neg (by decide)]
 have bz:cJ 3 2 i m.procs.length=0:=by unfold cJ;rw[if_neg (by decide)]
 have bX:hc 2 i m.props.length=0:=by unfold hc;rw[if_neg (by decide)]
 unfold s6;rw[b2,ba,bz,bX];simp only[qh,Em,yb,List.take_zero,List.map_nil,List.append_nil];rw[Nat.min_comm,←List.take_take];simp only[List.take_length]
theorem YB(m:Model)(i:Nat):s6 m 3 i=l8 m i:=by
 have b2:cJ 1 3 i m.vars.length=m.vars.length:=by unfold cJ;rw[if_pos (by decide),if_pos (by decide)]
 have ba:cJ 2 3 i m.a7.length=min m.a7.length i:=by unfold cJ;rw[if_pos (by decide),if_neg (by decide)];simp
 have bz:cJ 3 3 i m.procs.length=0:=by unfold cJ;rw[if_neg (by decide)]
 have bX:hc 3 i m.props.length=0:=by unfold hc;rw[if_neg (by decide)]
 unfold s6;rw[b2,ba,bz,bX];simp only[l8,qh,Em,yb,ya,List.take_zero,List.map_nil,List.append_nil];rw[Nat.min_comm,←List.take_take];simp only[List.take_length]
theorem YC(m:Model)(i:Nat):s6 m 4 i=ig m i:=by
 have b2:cJ 1 4 i m.vars.length=m.vars.length:=by unfold cJ;rw[if_pos (by decide),if_pos (by decide)]
 have ba:cJ 2 4 i m.a7.length=m.a7.length:=by unfold cJ;rw[if_pos (by decide),if_pos (by decide)]
 have bz:cJ 3 4 i m.procs.length=min m.procs.length i:=by unfold cJ;rw[if_pos (by decide),if_neg (by decide)];simp
 have bX:hc 4 i m.props.length=0:=by unfold hc;rw[if_neg (by decide)]
 unfold s6;rw[b2,ba,bz,bX];simp only[ig,l8,qh,Em,yb,ya,vQ,List.take_zero,List.map_nil,List.append_nil];rw[Nat.min_comm,←List.take_take];simp only[List.take_length]
theorem QY(m:Model)(i:Nat):s6 m 5 i=qg m i:=by
 have b2:cJ 1 5 i m.vars.length=m.vars.length:=by unfold cJ;rw[if_pos (by decide),if_pos (by decide)]
 have ba:cJ 2 5 i m.a7.length=m.a7.length:=by unfold cJ;rw[if_pos (by decide),if_pos (by decide)]
 have bz:cJ 3 5 i m.procs.length=m.procs.length:=by unfold cJ;rw[if_pos (by decide),if_pos (by decide)]
 have bX:hc 5 i m.props.length=min m.props.length i:=by unfold hc;rw[if_pos (by decide)];simp
 unfold s6;rw[b2,ba,bz,bX];simp only[qg,ig,l8,qh,Em,yb,ya,vQ,Mh];rw[Nat.min_comm,←List.take_take];simp only[List.take_length]
theorem uJ(q p i:Int)(len:Nat):cJ q p i len≤len:=by unfold cJ; (repeat' split)<;>omega
end o
namespace Go.Proofs.R
open Go Go.RowKit bt
def vj(f:o.qA):Value:=.agg #[.int .i64 f.cM,.int .i64 f.part,.int .i64 f.item,.int .i64 f.sub]
theorem ahP(cs:List Value)(m:o.Model)(w:World)(h:o.dM w cs m) :
  bw Tryz.prog F.D4 #[.agg cs.toArray] w fun v w'=>v=vj (o.data m)∧Ext w w':=by
 have bq:=h;obtain⟨cz,bV,cj,c1,cq,c2,cr,bJ,cC,bW,rfl,ao,h1,U,ah,aJ,eH,dB,dH,ee,ei⟩:=h.form;refine bP E.D4 ?_;refine bM ?_;refine aa ?_;intro aq bE c8 aC ar;refine aa ?_;intro aU cp dT aA aK;replace ar:=aA.obj ar;have ba:=aC.trans aA;have fC:=cy ar;have z2:=aC.size;refine aa ?_;refine K.call (ahW _ m.scalars aU (ao.ext ba)) ?_;rintro _ aY ⟨rfl,ax⟩;replace ar:=ax.obj ar;replace aK:=ax.obj aK;have bz:=ba.trans ax;clear ba;refine aa ?_;apply K.cond<;>intro g1;rotate_left
 ·have bx:=o.Ry g1;refine aa ?_;intro bo eu bH;refine aa ?_;exact⟨by rw[bx];rfl,eu.ext bz (by omega)⟩
 have cm:(o.scalars m.scalars).2=0:=by simpa using g1
 have nP:=o.WN cm;have vt:=ar;have xq:=aK;refine aa ?_;refine K.cR 5 m.vars.length [1,2] (fun _:Unit=>[]) () (fun k _ w'=>Ext aY w'∧∀j,j<k→o.iK m j=0) bp bp ⟨Ext.refl _,fun j h=>absurd h (Nat.not_lt_zero _)⟩ ?_;clear ar aK;rintro k _ S bo hk ⟨aF,bL⟩;have ar:=aF.obj vt;have aK:=aF.obj xq;have bX:=bz.trans aF;refine aa ?_;apply K.cond<;>intro g2
 ·have br:k<m.vars.length:=by omega
  have tC:=(bG.len h1).2;have Kv:=tC.2;unfold maxLen at Kv;obtain⟨a,rfl⟩:=h1.addr (by omega);have fp:=o.AE (f:=fun x:o.Var=>x.name) br;have ew:=((h1.at k br).cells).ext bX;have LM:∀j,j<k→o.mT m j=0:=fun j aI=>o.Ik (bL j aI);refine aa ?_;refine K.yi (k:=.i64) (k+1) (by simp[fD,b6]) (by omega) ?_;refine aa ?_;refine K.gm (.tuple #[.int .i64 (o.vars (m.vars.take (k+1)) m.scalars 12).1,.int .i64 (o.vars (m.vars.take (k+1)) m.scalars 12).2]) (fun w' e=>Wl _ _ (m.vars.take (k+1)) m.scalars 12 w' ((h1.head (k+1) (by omega)).ext o.o6.ext (bX.trans e)) (ao.ext (bX.trans e))) ?_;refine aa ?_;intro bD aM;replace ar:=aM.obj ar;replace aK:=aM.obj aK;replace ew:=ew.ext aM;have ca:=bX.trans aM;rw[o.ajL br LM];refine aa ?_;apply K.cond<;>intro g3;rotate_left
  ·have j3:o.iK m k=o.mT m k:=by unfold o.iK;rw[if_pos g3]
   have bx:=o.F9 cm br bL (by rw[j3];exact g3);rw[j3] at bx;refine aa ?_;intro bQ fy b5;refine aa ?_;exact⟨by rw[bx];rfl,fy.ext ca (by omega)⟩
  have jg:o.mT m k=0:=by simpa using g3
  have alG:k<12:=by
   apply Classical.byContradiction;intro aH;have h:=jg;unfold o.mT o.err at h;rw[if_pos (by omega)] at h;cases h
  refine aa ?_;intro bQ aN;replace ar:=aN.obj ar;replace aK:=aN.obj aK;refine aa ?_;refine K.call (Bz _ m 2 k bQ (bq.ext (ca.trans aN)) (by omega) (by omega) (by
   have dQ:o.cJ 1 2 k m.vars.length≤k:=by unfold o.cJ; (repeat' split)<;>omega
   have ef:o.cJ 2 2 k m.a7.length=0:=by unfold o.cJ;rw[if_neg (by decide)]
   have ev:o.cJ 3 2 k m.procs.length=0:=by unfold o.cJ;rw[if_neg (by decide)]
   have hR:o.hc 2 k m.props.length=0:=by unfold o.hc;rw[if_neg (by decide)]
   omega)) ?_
  rintro _ cd ⟨⟨v,rfl,gM⟩,bC⟩;refine⟨bC,?_⟩;rw[o.YD] at gM;refine aa ?_;refine K.call (CE v _ m.vars[k].name _ cd gM) ?_;rintro _ rH ⟨rfl,rfl⟩;replace ar:=bC.obj ar;replace aK:=bC.obj aK;have Tz:=aN.trans bC;have dw:=ca.trans Tz;refine aa ?_;apply K.cond<;>intro g4
  ·have j3:o.iK m k=7:=by unfold o.iK;rw[if_neg (by simpa using jg),fp,if_pos g4]
   have bx:=o.F9 cm br bL (by rw[j3];decide);rw[j3] at bx;refine aa ?_;intro c9 iz c5;refine aa ?_;exact⟨by rw[bx];rfl,iz.ext dw (by omega)⟩
  ·refine aa ?_;refine⟨br,bf,(),trivial,(aF.trans aM).trans Tz,fun j aI=>?_⟩;by_cases km:j=k
   ·subst km;unfold o.iK;rw[if_neg (by simpa using jg),fp,if_neg g4]
   ·exact bL j (by omega)
 have oD:∀j,j<m.vars.length→o.iK m j=0:=fun j aI=>bL j (by omega);have ak2:m.vars.length≤12:=by
  apply Classical.byContradiction;intro aH
  have:=o.R8 (oD 12 (by omega))
  omega
 clear ar aK;refine aa ?_;refine K.cR 8 m.a7.length [1,2] (fun _:Unit=>[]) () (fun k _ w'=>Ext aY w'∧∀j,j<k→o.jJ m j=0) bp bp ⟨aF,fun j h=>absurd h (Nat.not_lt_zero _)⟩ ?_;clear bX;rintro k _ a8 bD hk ⟨aM,bL⟩;have ar:=aM.obj vt;have aK:=aM.obj xq;have bX:=bz.trans aM;refine aa ?_;apply K.cond<;>intro g2
 ·have br:k<m.a7.length:=by omega
  have tC:=(bG.len U).2;have Kv:=tC.2;unfold maxLen at Kv;obtain⟨a,rfl⟩:=U.addr (by omega);have fp:=o.AE (f:=fun x:o.dK=>x.name) br;have ew:=((U.at k br).cells).ext bX;have LM:∀j,j<k→o.mw m j=0:=fun j aI=>o.FW (bL j aI);refine aa ?_;refine K.yi (k:=.i64) (k+1) (by simp[fD,b6]) (by omega) ?_;refine aa ?_;refine K.gm (.tuple #[.int .i64 (o.a7 (m.a7.take (k+1)) m.scalars).1,.int .i64 (o.a7 (m.a7.take (k+1)) m.scalars).2]) (fun w' e=>ahO _ _ (m.a7.take (k+1)) m.scalars w' ((U.head (k+1) (by omega)).ext o.o5.ext (bX.trans e)) (ao.ext (bX.trans e))) ?_;refine aa ?_;intro bQ aN;replace ar:=aN.obj ar;replace aK:=aN.obj aK;replace ew:=ew.ext aN;have ca:=bX.trans aN;rw[o.ZR br LM];refine aa ?_;apply K.cond<;>intro g3;rotate_left
  ·have j3:o.jJ m k=o.mw m k:=by unfold o.jJ;rw[if_pos g3]
   have bx:=o.F7 cm oD br bL (by rw[j3];exact g3);rw[j3] at bx;refine aa ?_;intro bQ fy b5;refine aa ?_;exact⟨by rw[bx];rfl,fy.ext ca (by omega)⟩
  have jg:o.mw m k=0:=by simpa using g3
  have alH:k<4:=by
   apply Classical.byContradiction;intro aH;have h:=jg;unfold o.mw o.err at h;rw[if_pos (by omega)] at h;cases h
  refine aa ?_;intro cd bC;replace ar:=bC.obj ar;replace aK:=bC.obj aK;refine aa ?_;refine K.call (Bz _ m 3 k cd (bq.ext (ca.trans bC)) (by omega) (by omega) (by
   have dQ:=o.uJ 1 3 k m.vars.length;have ef:o.cJ 2 3 k m.a7.length≤k:=by unfold o.cJ; (repeat' split)<;>omega
   have ev:o.cJ 3 3 k m.procs.length=0:=by unfold o.cJ;rw[if_neg (by decide)]
   have hR:o.hc 3 k m.props.length=0:=by unfold o.hc;rw[if_neg (by decide)]
   omega)) ?_
  rintro _ c9 ⟨⟨v,rfl,gM⟩,bU⟩;refine⟨bU,?_⟩;rw[o.YB] at gM;refine aa ?_;refine K.call (CE v _ m.a7[k].name _ c9 gM) ?_;rintro _ rH ⟨rfl,rfl⟩;replace ar:=bU.obj ar;replace aK:=bU.obj aK;have tG:=bC.trans bU;have dw:=ca.trans tG;refine aa ?_;apply K.cond<;>intro g4
  ·have j3:o.jJ m k=7:=by unfold o.jJ;rw[if_neg (by simpa using jg),fp,if_pos g4]
   have bx:=o.F7 cm oD br bL (by rw[j3];decide);rw[j3] at bx;refine aa ?_;intro c9 iz c5;refine aa ?_;exact⟨by rw[bx];rfl,iz.ext dw (by omega)⟩
  ·refine aa ?_;refine⟨br,bf,(),trivial,(aM.trans aN).trans tG,fun j aI=>?_⟩;by_cases km:j=k
   ·subst km;unfold o.jJ;rw[if_neg (by simpa using jg),fp,if_neg g4]
   ·exact bL j (by omega)
 have bx:=o.Rw cm oD fun j aI=>bL j (by omega);refine aa ?_;intro bQ fy b5;refine aa ?_;exact⟨by rw[bx];rfl,fy.ext bX (by omega)⟩
end Go.Proofs.R
end
section
namespace o
structure sT(m:Model):Prop where
 v:m.vars.length≤1000000
 c:m.a7.length≤1000000
 p:m.procs.length≤1000000
 i:∀p∈m.procs,p.vars.length≤1000000∧p.cE.length≤1000000
def c1(m:Model)(k:Nat):Int:=hU ((m.vars.take k).map fun v=>cells v m.scalars)
def c2(m:Model)(k:Nat):Int:=hU ((m.a7.take k).map pe)
def i1(m:Model)(k:Nat):Int:=hU ((m.procs.take k).map (kb m))
def i2(m:Model)(k:Nat):Int:=hU ((m.procs.take k).map fun p=>kb m p*p.cE.length)
def i3(m:Model)(k:Nat):Int:=hU ((m.procs.take k).map fun p=>kb m p*(1+p.vars.length))
theorem Vx{α:Type}{l:List α}{k:Nat}{x:α}(h:x∈l.take k):x∈l:=List.mem_of_mem_take h
theorem zb{m:Model}(h:sT m)(k:Nat):0≤c1 m k∧c1 m k≤4000000:=by
 have:=EP (fun v=>cells v m.scalars) 4 (by decide) (m.vars.take k) fun v _=>w1 v _
 have h1:=h.v;have U:(m.vars.take k).length≤m.vars.length:=by simp;omega
 unfold c1;omega
theorem FT{m:Model}(h:sT m)(k:Nat):0≤c2 m k∧c2 m k≤5000000:=by
 have:=EP pe 5 (by decide) (m.a7.take k) fun c _=>by have:=Ji c;omega
 have h1:=h.c;have U:(m.a7.take k).length≤m.a7.length:=by simp;omega
 unfold c2;omega
theorem Us{m:Model}(h:sT m)(k:Nat):0≤i1 m k∧i1 m k≤4000000:=by
 have:=EP (kb m) 4 (by decide) (m.procs.take k) fun p _=>Er m p
 have h1:=h.p;have U:(m.procs.take k).length≤m.procs.length:=by simp;omega
 unfold i1;omega
theorem AD{a b:Int}(bu:0≤a∧a≤4)(aB:0≤b∧b≤1000001):0≤a*b∧a*b≤4000004:=by
 have:a=0∨a=1∨a=2∨a=3∨a=4:=by omega
 rcases this with rfl | rfl | rfl | rfl | rfl<;>omega
theorem Uu{m:Model}(h:sT m)(k:Nat):0≤i2 m k∧i2 m k≤4000004000000:=by
 have:=EP (fun p=>kb m p*p.cE.length) 4000004 (by decide) (m.procs.take k) fun p aW=>AD (Er m p) (by have:=(h.i p (Vx aW)).2;omega)
 have h1:=h.p;have U:(m.procs.take k).length≤m.procs.length:=by simp;omega
 unfold i2;omega
theorem Uw{m:Model}(h:sT m)(k:Nat):0≤i3 m k∧i3 m k≤4000004000000:=by
 have:=EP (fun p=>kb m p*(1+p.vars.length)) 4000004 (by decide) (m.procs.take k) fun p aW=>AD (Er m p) (by have:=(h.i p (Vx aW)).1;omega)
 have h1:=h.p;have U:(m.procs.take k).length≤m.procs.length:=by simp;omega
 unfold i3;omega
theorem Q9{m:Model}{k:Nat}(h:k<m.vars.length):c1 m (k+1)=c1 m k+cells m.vars[k] m.scalars:=ER _ _ h
theorem Ra{m:Model}{k:Nat}(h:k<m.a7.length):c2 m (k+1)=c2 m k+pe m.a7[k]:=ER _ _ h
theorem Ut{m:Model}{k:Nat}(h:k<m.procs.length):i1 m (k+1)=i1 m k+kb m m.procs[k]:=ER _ _ h
theorem Uv{m:Model}{k:Nat}(h:k<m.procs.length):i2 m (k+1)=i2 m k+kb m m.procs[k]*m.procs[k].cE.length:=ER _ _ h
theorem Ux{m:Model}{k:Nat}(h:k<m.procs.length):i3 m (k+1)=i3 m k+kb m m.procs[k]*(1+m.procs[k].vars.length):=ER _ _ h
theorem VW(m:Model){a b c:Nat}(bu:m.vars.length≤a)(aB:m.a7.length≤b)(aw:m.procs.length≤c):pieces m=(i1 m c,i2 m c,c1 m a+c2 m b+i3 m c):=by
 unfold pieces i1 i2 i3 c1 c2;rw[List.take_of_length_le bu,List.take_of_length_le aB,List.take_of_length_le aw]
end o
namespace Go.Proofs.R
open Go Go.RowKit bt
theorem ag6(cs:List Value)(m:o.Model)(w:World)(h:o.dM w cs m)(aT:o.sT m) :
  bw Tryz.prog F.BP #[.agg cs.toArray] w fun v w'=>v = .tuple #[.int .i64 (o.pieces m).1,.int .i64 (o.pieces m).2.1,.int .i64 (o.pieces m).2.2]∧Ext w w':=by
 obtain⟨cz,bV,cj,c1,cq,c2,cr,bJ,cC,bW,rfl,ao,h1,U,ah,aJ,eH,dB,dH,ee,ei⟩:=h.form;refine bP E.BP ?_;refine bM ?_;refine aa ?_;intro aq bE c8 aC ar;have sd:=ar;clear ar;refine aa ?_;refine K.cR 18 m.vars.length [1,5,6,16,17] (fun s:Int=>[(7,.int .i64 s)]) 0 (fun k s w'=>Ext aq w'∧s=o.c1 m k) bp bp ⟨Ext.refl _,by simp[o.c1,o.hU]⟩ ?_;rintro k _ S aU hk ⟨aA,rfl⟩;have ar:=aA.obj sd;have c0:∀{w'},Ext aU w'→Ext w w':=fun e=>(aC.trans aA).trans e;refine aa ?_;apply K.cond<;>intro g1
 ·have br:k<m.vars.length:=by omega
  obtain⟨a,rfl⟩:=h1.addr (by omega);have ew:=((h1.at k br).cells).ext (c0 (Ext.refl _));refine aa ?_;intro aY ch fE ax bB;replace ar:=ax.obj ar;refine aa ?_;refine K.call (FV m.vars[k] _ m.scalars aY (ao.ext (c0 ax))) ?_;rintro _ bo ⟨rfl,aF⟩;have dQ:=o.zb aT k;have ef:=o.w1 m.vars[k] m.scalars;refine aa ?_;exact⟨br,bf,_,bp,(aA.trans ax).trans aF,(o.Q9 br).symm⟩
 have l2:m.vars.length≤k:=by omega
 refine aa ?_;refine K.cR 32 m.a7.length [1,5,6,30,31] (fun s:Int=>[(7,.int .i64 s)]) (o.c1 m k) (fun j s w'=>Ext aq w'∧s=o.c1 m k+o.c2 m j) bp bp ⟨aA,by simp[o.c2,o.hU]⟩ ?_;clear ar c0;rintro j _ a8 aY aI ⟨ax,rfl⟩;have ar:=ax.obj sd;have eT:∀{w'},Ext aY w'→Ext w w':=fun e=>(aC.trans ax).trans e;refine aa ?_;apply K.cond<;>intro g2
 ·have eQ:j<m.a7.length:=by omega
  obtain⟨a,rfl⟩:=U.addr (by omega);have ew:=((U.at j eQ).cells).ext (eT (Ext.refl _));refine aa ?_;intro bo ch fE aF bB;have dQ:=o.zb aT k;have ef:=o.FT aT j;have ev:=o.Ji m.a7[j];unfold o.pe at ev;refine aa ?_;exact⟨eQ,bf,_,bp,ax.trans aF,by rw[o.Ra eQ];unfold o.pe;omega⟩
 have K1:m.a7.length≤j:=by omega
 refine aa ?_;refine K.cR 47 m.procs.length [1,45,46] (fun s:Int×Int×Int=>[(5,.int .i64 s.1),(6,.int .i64 s.2.1),(7,.int .i64 s.2.2)]) (0,0,o.c1 m k+o.c2 m j)
  (fun i s w'=>Ext aq w'∧s=(o.i1 m i,o.i2 m i,o.c1 m k+o.c2 m j+o.i3 m i)) bp bp ⟨ax,by simp[o.i1,o.i2,o.i3,o.hU]⟩ ?_
 clear ar eT;rintro i _ fh bo af ⟨aF,rfl⟩;have ar:=aF.obj sd;have eb:∀{w'},Ext bo w'→Ext w w':=fun e=>(aC.trans aF).trans e;refine aa ?_;apply K.cond<;>intro g3
 ·have cS:i<m.procs.length:=by omega
  obtain⟨a,rfl⟩:=ah.addr (by omega);obtain⟨_,cx,eg,aW,eL,dU⟩:=ah.at i cS;obtain⟨fz,ir,rfl,iA⟩:=eL.form;obtain⟨n1,kk,rfl,lc⟩:=dU.form;replace aW:=aW.ext (eb (Ext.refl _));have KT:=aT.i _ (List.getElem_mem cS);refine aa ?_;intro bD ch fE aM bB;replace ar:=aM.obj ar;refine aa ?_;refine K.call (FV ⟨⟨#[]⟩,0,m.procs[i].over,0,0,0⟩ _ m.scalars bD (ao.ext (eb aM))) ?_;rintro _ bQ ⟨rfl,aN⟩;have aej:o.cells ⟨⟨#[]⟩,0,m.procs[i].over,0,0,0⟩ m.scalars=o.kb m m.procs[i]:=rfl;rw[aej];replace bB:=aN.obj bB;have dQ:=o.zb aT k;have ef:=o.FT aT j;have ev:=o.Us aT i;have hR:=o.Uu aT i;have qm:=o.Uw aT i;have sI:=o.Er m m.procs[i];have MK:=o.AD sI (b:=m.procs[i].cE.length) (by omega);have AL:=o.AD sI (b:=1+m.procs[i].vars.length) (by omega);refine aa ?_;exact⟨cS,bf,(_,_,_),(by first | exact⟨rfl,rfl,rfl,trivial⟩ | exact⟨rfl,rfl,trivial⟩ | (simp -dsimp only[c6,uG,uF,ua,tZ,tx,tw,Nat.reduceAdd,Nat.reduceEqDiff,reduceIte,and_self];exact⟨rfl,rfl,rfl,trivial⟩) | (simp -dsimp only[c6,uG,uF,ua,tZ,tx,tw,Nat.reduceAdd,Nat.reduceEqDiff,reduceIte,and_self];exact⟨rfl,rfl,trivial⟩)),(aF.trans aM).trans aN,by rw[o.Ut cS,o.Uv cS,o.Ux cS];exact Prod.ext rfl (Prod.ext rfl (Int.add_assoc _ _ _))⟩
 have mD:m.procs.length≤i:=by omega
 refine aa ?_;exact⟨by rw[o.VW m l2 K1 mD],eb (Ext.refl _)⟩
theorem ae0(cs:List Value)(m:o.Model)(p:o.dt)(cx eg:Value)(w:World)(h:o.dM w cs m) :
  bw Tryz.prog F.D2 #[.agg cs.toArray,.agg (p.enc cx eg).toArray] w fun v w'=>v = .int .i64 (o.kb m p)∧Ext w w':=by
 obtain⟨cz,bV,cj,c1,cq,c2,cr,bJ,cC,bW,rfl,ao,_⟩:=h.form;refine bP E.D2 ?_;refine bM ?_;refine aa ?_;intro aq bE c8 aC ar;refine aa ?_;intro aU cp dT aA aK;refine aa ?_;refine K.cond (fun g=>?_) (fun g=>?_)
 ·refine aa ?_;exact⟨by rw[o.kb,if_pos g],aC.trans aA⟩
 refine aa ?_;refine K.call (AN p.over _ m.scalars aU (ao.ext (aC.trans aA))) ?_;rintro _ _ ⟨rfl,rfl⟩;refine aa ?_;exact⟨by rw[o.kb,if_neg g],aC.trans aA⟩
theorem ahT(cs:List Value)(m:o.Model)(w:World)(h:o.dM w cs m)(aT:o.sT m) :
  bw Tryz.prog F.D3 #[.agg cs.toArray] w fun v w'=>v = .tuple #[.int .i64 (o.pieces m).1,.int .i64 (o.pieces m).2.1,.int .i64 (o.pieces m).2.2]∧Ext w w':=by
 have bq:=h;obtain⟨cz,bV,cj,c1,cq,c2,cr,bJ,cC,bW,rfl,ao,h1,U,ah,aJ,eH,dB,dH,ee,ei⟩:=h.form;refine bP E.D3 ?_;refine bM ?_;refine aa ?_;intro aq bE c8 aC ar;have sd:=ar;clear ar;refine aa ?_;refine K.cR 8 m.vars.length [1,5,6] (fun s:Int=>[(7,.int .i64 s)]) 0 (fun k s w'=>Ext aq w'∧s=o.c1 m k) bp bp ⟨Ext.refl _,by simp[o.c1,o.hU]⟩ ?_;rintro k _ S aU hk ⟨aA,rfl⟩;have ar:=aA.obj sd;have c0:∀{w'},Ext aU w'→Ext w w':=fun e=>(aC.trans aA).trans e;refine aa ?_;apply K.cond<;>intro g1
 ·have br:k<m.vars.length:=by omega
  obtain⟨a,rfl⟩:=h1.addr (by omega);have ew:=((h1.at k br).cells).ext (c0 (Ext.refl _));have dQ:=o.zb aT k;have ef:=o.w1 m.vars[k] m.scalars;refine aa ?_;refine K.gm (.int .i64 (o.cells m.vars[k] m.scalars)) (fun w' e=>MW m.vars[k] _ m.scalars w' (ao.ext (c0 e))) ?_;refine aa ?_;intro bo aF;refine aa ?_;exact⟨br,bf,_,bp,aA.trans aF,(o.Q9 br).symm⟩
 have l2:m.vars.length≤k:=by omega
 refine aa ?_;refine K.cR 9 m.a7.length [1,5,6] (fun s:Int=>[(7,.int .i64 s)]) (o.c1 m k) (fun j s w'=>Ext aq w'∧s=o.c1 m k+o.c2 m j) bp bp ⟨aA,by simp[o.c2,o.hU]⟩ ?_;clear ar c0;rintro j _ a8 aY aI ⟨ax,rfl⟩;have ar:=ax.obj sd;have eT:∀{w'},Ext aY w'→Ext w w':=fun e=>(aC.trans ax).trans e;refine aa ?_;apply K.cond<;>intro g2
 ·have eQ:j<m.a7.length:=by omega
  obtain⟨a,rfl⟩:=U.addr (by omega);have ew:=((U.at j eQ).cells).ext (eT (Ext.refl _));have dQ:=o.zb aT k;have ef:=o.FT aT j;have ev:=o.Ji m.a7[j];unfold o.pe at ev;refine aa ?_;exact⟨eQ,bf,_,bp,ax,by rw[o.Ra eQ];unfold o.pe;omega⟩
 have K1:m.a7.length≤j:=by omega
 refine aa ?_;refine K.cR 10 m.procs.length [1] (fun s:Int×Int×Int=>[(5,.int .i64 s.1),(6,.int .i64 s.2.1),(7,.int .i64 s.2.2)]) (0,0,o.c1 m k+o.c2 m j)
  (fun i s w'=>Ext aq w'∧s=(o.i1 m i,o.i2 m i,o.c1 m k+o.c2 m j+o.i3 m i)) bp bp ⟨ax,by simp[o.i1,o.i2,o.i3,o.hU]⟩ ?_
 clear ar eT;rintro i _ fh bo af ⟨aF,rfl⟩;have ar:=aF.obj sd;have eb:∀{w'},Ext bo w'→Ext w w':=fun e=>(aC.trans aF).trans e;refine aa ?_;apply K.cond<;>intro g3
 ·have cS:i<m.procs.length:=by omega
  obtain⟨a,rfl⟩:=ah.addr (by omega);obtain⟨_,cx,eg,aW,eL,dU⟩:=ah.at i cS;obtain⟨fz,ir,rfl,iA⟩:=eL.form;obtain⟨n1,kk,rfl,lc⟩:=dU.form;replace aW:=aW.ext (eb (Ext.refl _));have KT:=aT.i _ (List.getElem_mem cS);refine aa ?_;refine K.gm (.int .i64 (o.kb m m.procs[i])) (fun w' e=>ae0 _ m m.procs[i] _ _ w' (bq.ext (eb e))) ?_;refine aa ?_;intro bQ aN;replace ar:=aN.obj ar;replace aW:=aW.ext aN;have dQ:=o.zb aT k;have ef:=o.FT aT j;have ev:=o.Us aT i;have hR:=o.Uu aT i;have qm:=o.Uw aT i;have sI:=o.Er m m.procs[i];have MK:=o.AD sI (b:=m.procs[i].cE.length) (by omega);have AL:=o.AD sI (b:=1+m.procs[i].vars.length) (by omega);refine aa ?_;exact⟨cS,bf,(_,_,_),(by first | exact⟨rfl,rfl,rfl,trivial⟩ | exact⟨rfl,rfl,trivial⟩ | (simp -dsimp only[c6,uG,uF,ua,tZ,tx,tw,Nat.reduceAdd,Nat.reduceEqDiff,reduceIte,and_self];exact⟨rfl,rfl,rfl,trivial⟩) | (simp -dsimp only[c6,uG,uF,ua,tZ,tx,tw,Nat.reduceAdd,Nat.reduceEqDiff,reduceIte,and_self];exact⟨rfl,rfl,trivial⟩)),aF.trans aN,by rw[o.Ut cS,o.Uv cS,o.Ux cS];exact Prod.ext rfl (Prod.ext rfl (Int.add_assoc _ _ _))⟩
 have mD:m.procs.length≤i:=by omega
 refine aa ?_;exact⟨by rw[o.VW m l2 K1 mD],eb (Ext.refl _)⟩
end Go.Proofs.R
end
section
namespace o
structure akk(m:Model):Prop where
 s:m.scalars.length≤10
 v:m.vars.length≤30
 c:m.a7.length≤20
 p:m.procs.length≤20
 q:m.props.length≤20
 i:∀p∈m.procs,p.vars.length≤20∧p.cE.length≤30∧∀c∈p.cE,c.cn.length≤20∧c.guard.length≤60
end o
end
section
namespace bt
open Go Go.RowKit
inductive qE where
 | rD (g:Operand) (p:Nat) (a b:e1)
 | rE (x:qE) (y:e1)
 | hS (x:e1) (y:qE)
 | aQ (id:Nat) (x:qE)
def lR(P:Program)(n:Nat):Code→Option qE
 | .rangeFunc g dr a b=>match dr.toList,comp P n a,comp P n b with
  | [p],some ns,some gy=>if p<n then some (.rD g p ns gy) else none
  | _,_,_=>none
 | .seq x y=>match comp P n x with
  | some x9=>(lR P n y).map (.hS x9)
  | none=>match lR P n x,comp P n y with
   | some rx,some uk=>some (.rE rx uk)
   | _,_=>none
 | .block id x=>(lR P n x).map (.aQ id)
 | _=>none
structure wI where
 n:Nat
 res:List lN
 code:qE
def w5(P:Program)(f:FuncId):Option wI :=
 match P.funcs[f]? with
 | some fn=>match fn.body with
  | some c=>match lR P fn.ntmps c,vb P fn.results.toList with
   | some lc,some r=>some ⟨fn.ntmps,r,lc⟩
   | _,_=>none
  | none=>none
 | none=>none
structure Bg(hv:World→World→Prop)(B:Nat):Prop where
 trans:∀{a b c:World},hv a b→hv b c→hv a c
 put:∀(W:World) (l:Nat) (ak o':Obj),B≤l→W.heap[l]? = some ak→ak.isCells=false→hv W (W.putObj l o')
def lq(gO:Nat)(cD:List TypeId)(W b8:World):Prop:=Below gO W b8∧∀(k:Nat) (c:Array Value) (t:TypeId) (f:Nat×Nat),W.heap[k]? = some (.cells c t f)→t∈cD→b8.heap[k]? = W.heap[k]?
theorem lq.ok{gO B:Nat}(cD:List TypeId)(h:gO≤B):Bg (lq gO cD) B where
 trans h k:=⟨h.1.trans k.1,fun i c t f af aL=>by rw[←h.2 i c t f af aL];exact k.2 i c t f ((h.2 i c t f af aL).trans af) aL⟩
 put W l ak o' a1 aZ aw:=⟨(Below.refl gO W).grown (grownBy_putObj' W l o') (by have:=(Array.getElem?_eq_some_iff.1 aZ).1;omega) (fun k e=>by cases e;omega),fun k c t f hk _=>by
  have cH:l≠k:=fun e=>by subst e;rw[aZ] at hk;injection hk with hk;subst hk;cases aw
  exact World.putObj_heap_other (Ne.symm cH)⟩
theorem Ext.hA{gO:Nat}{cD:List TypeId}{W b8:World}(h:Ext W b8)(aH:gO≤W.heap.size):lq gO cD W b8:=⟨Below.mono h aH,fun k c t f hk _=>h.heap (cy hk)⟩
def ah7{α:Type}(hv:World→World→Prop)(B:Nat)(ep:List α→World→Prop)(o2:dS→List α→World→Prop)(xs:List α)(W:World):dS→Fr→World→Prop
 | .normal,_,b8=>KeepsFrom B W b8∧hv W b8∧ep xs b8
 | .fA _,_,_=>False
 | e,_,b8=>KeepsFrom B W b8∧o2 e xs b8
def rK(B:Nat)(W b8:World):Prop := ∃l,B≤l∧(∃ak,W.heap[l]? = some ak∧ak.isCells=false)∧W.grownBy b8 (some l)
def Ye(P:Program)(g:Value)(p:Nat)(a b:e1)(Q:Nat→dS→Fr→World→Prop)(S:Fr)(w:World):Prop :=
 ∃(α:Type) (enc:α→Value) (jL:Nat) (gy:Array Value) (hv:World→World→Prop) (mq ov:List α→Prop) (N:Nat) (w0:World),g = .func (.func jL) #[] gy∧okF P jL=true∧SeqStopsK Fence.wide 0 P jL gy (fun x=>#[enc x]) hv mq ov N w0∧Ext w0 w∧Bg hv w.heap.size ∧
 ∃(ep:List α→World→Prop) (o2:dS→List α→World→Prop),OwnFrom w.heap.size ep∧(∀e,OwnFrom w.heap.size (o2 e))∧ep [] w ∧
  (∀pre x W,ep pre W→pre.length<N→eg P a (sQ (fun rL hI=>KeepsFrom w.heap.size W hI∧hv W hI∧∀eE,rK w.heap.size hI eE→eg P b (ah7 hv w.heap.size ep o2 (pre++[x]) eE) rL eE) (fun _ _ _=>False)) (cc S p (enc x)) W) ∧
  (∀D xs W,w.heap.size≤D→mq xs→ep xs W→W.heap[D]? = some (.deferred (some []))→Q D .normal S W) ∧
  (∀D e pre W,e≠.normal→w.heap.size≤D→ov pre→o2 e pre W→W.heap[D]? = some (.deferred (some []))→Q D e S W)
theorem ah9{α:Type}{enc:α→Value}{P:Program}{g:Operand}{p:Nat}{y0 body:Code}{Q:Exit→Act→World→Prop}{a:Act}{w w0:World}{jL:Nat}{gy:Array Value}{hv:World→World→Prop}{N:Nat}{mq ov:List α→Prop}
  (aV:a.eval g = .func (.func jL) #[] gy)(dA:okF P jL=true)(rf:SeqStopsK Fence.wide 0 P jL gy (fun x=>#[enc x]) hv mq ov N w0)(he:Ext w0 w)(q1:Bg hv w.heap.size)
  (ep:List α→World→Prop)(o2:Code→List α→World→Prop)(bs:OwnFrom w.heap.size ep)(vn:∀c,OwnFrom w.heap.size (o2 c))(ao:ep [] w)
  (Dk:∀l pre x W,ep pre W→pre.length<N→y0.wpIn (mi (some l)) 1 P (Exit.then (fun dG hI=>KeepsFrom w.heap.size W hI∧hv W hI ∧
   ∀eE,rK w.heap.size hI eE→body.wpIn (mi (some l)) 1 P (ownPostG w.heap.size hv ep o2 (pre++[x]) eE) dG eE) (fun _ _ _=>False)) { tmps:=a.tmps.setIfInBounds p (enc x),defers:=[] } W)
  (xw:∀D xs W,w.heap.size≤D→mq xs→ep xs W→W.heap[D]? = some (.deferred (some []))→Q .normal { a with defers:={ target:=.collected D,args:=#[] } :: a.defers } W)
  (Hf:∀D c pre W,w.heap.size≤D→ov pre→o2 c pre W→W.heap[D]? = some (.deferred (some []))→c.wpIn Fence.wide 3 P Q { a with defers:={ target:=.collected D,args:=#[] } :: a.defers } W) :
  (Code.rangeFunc g #[p] y0 body).wpIn Fence.wide 3 P Q a w:=by
 refine wpIn_rangeFunc fun fn j4=>?_;obtain⟨mO,si⟩:∃mO:LoopState→Option Code→Loop,mO=fun st Mx=>{ state:=st,pending:=Mx,fn,tmps:=a.tmps,params:=#[p],assign:=y0,body,defers:=w.heap.size }:=⟨_,rfl⟩;obtain⟨aq,mJ⟩:∃aq,(w.alloc (.deferred (some []))).alloc (.loop (mO .ready none))=aq:=⟨_,rfl⟩;have Ur:aq.heap.size=w.heap.size+2:=by rw[←mJ];simp
 have hN:aq.heap[w.heap.size+1]? = some (.loop (mO .ready none)):=by
  rw[←mJ]
  have:=World.alloc_heap_new (w.alloc (.deferred (some []))) (.loop (mO .ready none))
  rwa[World.size_alloc] at this
 have adg:aq.heap[w.heap.size]? = some (.deferred (some [])):=by rw[←mJ];exact(Below.heap_alloc _ _ _ (by simp)).trans (World.alloc_heap_new w _)
 have G1:ep [] aq:=by rw[←mJ];exact bs.alloc _ (bs.alloc _ ao)
 have c8:Below w0.heap.size w0 aq:=by rw[←mJ];exact(he.alloc _).alloc _
 have low:∀{A B:World} {row:Option Nat},(∀r,row=some r→aq.heap.size≤r∧∃ak:Obj,A.heap[r]? = some ak∧ak.isWalk=true)→(∀r,row=some r→w.heap.size≤r∧∃ak:Obj,A.heap[r]? = some ak∧ak.isCells=false) :=
  fun bd r e=>by obtain⟨U,ak,aZ,hw⟩:=bd r e;exact⟨by omega,ak,aZ,Obj.not_cells_of_walk hw⟩
 refine⟨w.heap.size+1,[{ target:=.collected w.heap.size,args:=#[] }],aq,{ target:=.fn (.func jL) gy,args:=#[.func (.yield (w.heap.size+1)) #[] #[]] },aq,jL,
  #[.func (.yield (w.heap.size+1)) #[] #[]]++gy,aq,?_,?_,fun _ _=>trivial,?_,fun _=>by decide,?_⟩
 ·rw[←mJ,si];exact run_enterLoop_outer _ _ _ _ _
 ·simp only[resolve,aV];simp[go_sem]
 ·simp[invoke,go_sem,ED dA]
 refine CallsIn.mono (Jg (r:=none) (callsIn_wide.1 (rf (w.heap.size+1)
  (fun pre W=>ep pre W∧W.heap[w.heap.size+1]? = some (.loop (mO .ready none))∧W.heap[w.heap.size]? = some (.deferred (some [])))
  (fun pre W => ∃c,o2 c pre W∧W.heap[w.heap.size+1]? = some (.loop (mO .done (some c)))∧W.heap[w.heap.size]? = some (.deferred (some [])))
  aq c8 ?_ ?_ ?_ ⟨G1,hN,adg⟩))) ?_
 ·exact fun s A B row aG ps bd=>⟨bs s A B row aG.1 ps (low (B:=B) bd),(grownBy_keeps ps (fun r e=>(bd r e).2) aG.2.1 rfl).trans aG.2.1,(grownBy_keeps ps (fun r e=>(bd r e).2) aG.2.2 rfl).trans aG.2.2⟩
 ·intro s A B row aG ps bd;obtain⟨c,aw,U,ah⟩:=aG;exact⟨c,vn c s A B row aw ps (low (B:=B) bd),(grownBy_keeps ps (fun r e=>(bd r e).2) U rfl).trans U,(grownBy_keeps ps (fun r e=>(bd r e).2) ah rfl).trans ah⟩
 ·rintro pre x W ⟨af,U,ah⟩ hlen;have bS:=run_yield (P:=P) (args:=#[enc x]) U (by rw[si];rfl);rw[si] at bS;refine⟨fn,_,y0,body,bS,Wv (r:=none) (m:=0 - 1) ?_⟩;refine(roundIn_of_wpIn (F:=Fence.wide) (n:=1) (l:=w.heap.size+1) j4 ?_) |> fun h=>⟨trivial,fun c cs _=>h.2 c cs (room_wide _)⟩
  have bL:(#[p]:Array Tmp).zip #[enc x]=#[(p,enc x)]:=by apply Array.ext';simp[Array.toList_zip]
  have acy:=Dk (w.heap.size+1) pre x W af hlen;simp only[bL];refine wpIn_mono acy fun e dG hI h=>?_;cases e with
  | normal =>
   obtain⟨dc,cY,gW⟩:=h;have eO:=dc.same _ _ (by omega) U rfl;have d1:=dc.same _ _ (Nat.le_refl _) ah rfl;refine⟨_,run_beginRound eO (by rw[si]),?_⟩;have cB:=(Array.getElem?_eq_some_iff.1 eO).1;have fc:(hI.putObj (w.heap.size+1) (.loop { mO .ready none with state:=.busy })).heap[w.heap.size+1]? = some (.loop { mO .ready none with state:=.busy }):=World.putObj_heap_same cB;have d2:(hI.putObj (w.heap.size+1) (.loop { mO .ready none with state:=.busy })).heap[w.heap.size]? = some (.deferred (some [])):=(World.putObj_heap_other (by omega)).trans d1;have cp:hv hI (hI.putObj (w.heap.size+1) (.loop { mO .ready none with state:=.busy })):=q1.put _ _ _ _ (by omega) eO rfl;refine wpIn_mono (gW _ ⟨_,by omega,⟨_,eO,rfl⟩,grownBy_putObj' _ _ _⟩) fun e a3 mu aW=>?_;have fin:∀(jump:Option Code),KeepsFrom w.heap.size (hI.putObj (w.heap.size+1) (.loop { mO .ready none with state:=.busy })) mu →
     (Instr.endRound (w.heap.size+1) jump).run P mu = .ok (.bool jump.isNone) (mu.putObj (w.heap.size+1) (.loop (mO (if jump.isNone then .ready else .done) jump))) ∧
     mu.heap[w.heap.size+1]? = some (.loop { mO .ready none with state:=.busy }) ∧
     (mu.putObj (w.heap.size+1) (.loop (mO (if jump.isNone then .ready else .done) jump))).heap[w.heap.size+1]? = some (.loop (mO (if jump.isNone then .ready else .done) jump)) ∧
     (mu.putObj (w.heap.size+1) (.loop (mO (if jump.isNone then .ready else .done) jump))).heap[w.heap.size]? = some (.deferred (some [])):=fun jump ic=>by
    have mb:=ic.same _ _ (by omega) fc rfl
    have:=run_endRound (P:=P) jump mb
    rw[si] at this ⊢;exact⟨this,by rw[si] at mb;exact mb,World.putObj_heap_same (Array.getElem?_eq_some_iff.1 mb).1,(World.putObj_heap_other (by omega)).trans (ic.same _ _ (Nat.le_refl _) d2 rfl)⟩
   cases e with
   | normal =>
    obtain⟨dQ,ef,ev⟩:=aW;obtain⟨f1,f2,f3,f4⟩:=fin none dQ;exact⟨_,_,f1,.inl ⟨rfl,⟨bs.putObj _ ev (by omega) f2 rfl,f3,f4⟩,q1.trans (q1.trans (q1.trans cY cp) ef) (q1.put _ _ _ _ (by omega) f2 rfl)⟩⟩
   | ret =>
    obtain⟨dQ,ev⟩:=aW;obtain⟨f1,f2,f3,f4⟩:=fin (some .ret) dQ;exact⟨_,_,f1,.inr ⟨rfl,.ret,(vn _).putObj _ ev (by omega) f2 rfl,f3,f4⟩⟩
   | exit id =>
    obtain⟨dQ,ev⟩:=aW;obtain⟨f1,f2,f3,f4⟩:=fin (some (.exit id)) dQ;exact⟨_,_,f1,.inr ⟨rfl,.exit id,(vn _).putObj _ ev (by omega) f2 rfl,f3,f4⟩⟩
   | goto t =>
    obtain⟨dQ,ev⟩:=aW;obtain⟨f1,f2,f3,f4⟩:=fin (some (.goto t)) dQ;exact⟨_,_,f1,.inr ⟨rfl,.goto t,(vn _).putObj _ ev (by omega) f2 rfl,f3,f4⟩⟩
   | _=>exact aW.elim
  | _=>exact h.elim
 ·rintro e eE ⟨⟨v,rfl⟩,(⟨xs,cm,af,U,ah⟩ | ⟨pre,ack,c,af,U,ah⟩)⟩
  ·exact⟨none,_,by have:=run_endLoop (P:=P) U (by rw[si];simp);rw[si] at this;exact this,xw _ xs _ (Nat.le_refl _) cm (bs.putObj _ af (by omega) U rfl) ((World.putObj_heap_other (by omega)).trans ah)⟩
  ·exact⟨some c,_,by have:=run_endLoop (P:=P) U (by rw[si];simp);rw[si] at this;exact this,Hf _ c pre _ (Nat.le_refl _) ack ((vn c).putObj _ af (by omega) U rfl) ((World.putObj_heap_other (by omega)).trans ah)⟩
def mS(P:Program):qE→(Option Nat→dS→Fr→World→Prop)→Fr→World→Prop
 | .rD g p a b,Q,S,w=>Ye P (bj S g) p a b (fun D=>Q (some D)) S w
 | .rE x y,Q,S,w=>mS P x (fun ak=>sQ (fun S w=>eg P y (Q ak) S w) (Q ak)) S w
 | .hS x y,Q,S,w=>eg P x (sQ (fun S w=>mS P y Q S w) (Q none)) S w
 | .aQ id x,Q,S,w=>mS P x (fun ak=>y6 id (Q ak)) S w
def marks:Option Nat→List Deferred
 | none=>[]
 | some D=>[{ target:=.collected D,args:=#[] }]
def Vn(n:Nat)(Q:Option Nat→dS→Fr→World→Prop):Exit→Act→World→Prop
 | .normal,a,w => ∃ak S,Fits (marks ak) a S n∧Q ak .normal S w
 | .exit i,a,w => ∃ak S,Fits (marks ak) a S n∧Q ak (.exit i) S w
 | .ret,a,w => ∃ak S,Fits (marks ak) a S n∧Q ak .ret S w
 | .panic c,a,w => ∃ak S,Fits (marks ak) a S n∧Q ak (.fA c) S w
 | _,_,_=>False
theorem afJ{n:Nat}{Q:Option Nat→dS→Fr→World→Prop}{ak:Option Nat}{e:Exit}{a:Act}{w:World}(h:Hy (marks ak) n (Q ak) e a w):Vn n Q e a w:=by
 cases e with
 | normal=>obtain⟨S,h1,U⟩:=h;exact⟨ak,S,h1,U⟩
 | exit i=>obtain⟨S,h1,U⟩:=h;exact⟨ak,S,h1,U⟩
 | ret=>obtain⟨S,h1,U⟩:=h;exact⟨ak,S,h1,U⟩
 | panic c=>obtain⟨S,h1,U⟩:=h;exact⟨ak,S,h1,U⟩
 | _=>exact h.elim
theorem H0{P:Program}(hm:P.follows .mixedOrders=true){n:Nat}:∀(c:Code) (rc:qE),lR P n c=some rc→∀(Q:Option Nat→dS→Fr→World→Prop) (a:Act) (S:Fr) (w:World),Fits [] a S n→mS P rc Q S w→c.wpIn Fence.wide 3 P (Vn n Q) a w
 | .rangeFunc g dr y0 b,rc,h,Q,a,S,w,aT,aO=>by
  simp only[lR] at h;split at h
  ·rename_i p ns gy xL bu aB;split at h
   ·rename_i aW;injection h with h;subst h
    obtain⟨α,enc,jL,amC,hv,mq,ov,N,w0,aV,dA,rf,he,q1,ep,o2,bs,vn,ao,acF,xw,Hf⟩:=aO;have aem:dr=#[p]:=by rw[←Array.toArray_toList (xs:=dr),xL]
    subst aem;refine ah9 (by rw[aT.eval];exact aV) dA rf he q1 ep (fun c=>match c with | .ret=>o2 .ret | .exit id=>o2 (.exit id) | _=>fun _ _=>False) bs ?_ ao ?_ ?_ ?_
    ·intro c;split
     ·exact vn _
     ·exact vn _
     ·exact fun s W b8 row h _ _=>h.elim
    ·intro l pre x W af a1;have vy:Fits [] ({ tmps:=a.tmps.setIfInBounds p (enc x),defers:=[] }:Act) (cc S p (enc x)) n:=by
      refine⟨rfl,by simp[aT.2.1],fun t=>?_⟩
      have:=aT.2.2 t
      simp only[cc];by_cases aL:t=p
      ·subst aL;simp[aT.2.1,aW]
      ·have U:(a.tmps.setIfInBounds p (enc x))[t]? = a.tmps[t]? := Array.getElem?_setIfInBounds_ne (Ne.symm aL);rw[if_neg aL,←this];simp[Array.getD_eq_getD_getElem?,U]
     refine wpIn_mono (sound (ds:=[]) (r:=some l) hm y0 ns bu _ _ _ W vy (acF pre x W af a1)) fun e cX b8 aR=>?_;cases e with
     | normal =>
      obtain⟨a8,eo,h1,U,ah⟩:=aR;refine⟨h1,U,fun eE aJ=>?_⟩;refine wpIn_mono (sound (ds:=[]) (r:=some l) hm b gy aB _ _ _ eE eo (ah eE aJ)) fun e a2 mu aR=>?_;cases e with
      | normal=>obtain⟨a8,_,h1,U,ah⟩:=aR;exact⟨h1,U,ah⟩
      | ret=>obtain⟨a8,_,h1,U⟩:=aR;exact⟨h1,U⟩
      | exit id=>obtain⟨a8,_,h1,U⟩:=aR;exact⟨h1,U⟩
      | panic c=>obtain⟨a8,_,h1⟩:=aR;exact h1.elim
      | _=>exact aR.elim
     | ret=>obtain⟨a8,_,h1⟩:=aR;exact h1.elim
     | exit id=>obtain⟨a8,_,h1⟩:=aR;exact h1.elim
     | panic c=>obtain⟨a8,_,h1⟩:=aR;exact h1.elim
     | _=>exact aR.elim
    ·intro D xs W hj cm af bx;exact⟨some D,S,⟨by rw[aT.1];rfl,aT.2⟩,xw D xs W hj cm af bx⟩
    ·intro D c pre W hj cm af bx;have TC:Fits (marks (some D)) { a with defers:={ target:=.collected D,args:=#[] } :: a.defers } S n:=⟨by rw[aT.1];rfl,aT.2⟩;split at af
     ·exact wpIn_ret ⟨some D,S,TC,Hf D .ret pre W (by simp) hj cm af bx⟩
     ·exact wpIn_exit ⟨some D,S,TC,Hf D (.exit _) pre W (by simp) hj cm af bx⟩
     ·exact af.elim
   ·cases h
  ·cases h
 | .seq x y,rc,h,Q,a,S,w,aT,aO=>by
  simp only[lR] at h;split at h
  ·rename_i x9 av;obtain⟨WK,bS,rfl⟩:=Option.map_eq_some_iff.1 h;refine wpIn_seq (wpIn_mono (sound (ds:=[]) (r:=none) (m:=3) hm x x9 av _ a S w aT aO) fun e cX w' aR=>?_);cases e with
   | normal=>obtain⟨a8,eo,aR⟩:=aR;exact H0 hm y WK bS Q cX a8 w' eo aR
   | exit i=>obtain⟨a8,eo,aR⟩:=aR;exact⟨none,a8,eo,aR⟩
   | ret=>obtain⟨a8,eo,aR⟩:=aR;exact⟨none,a8,eo,aR⟩
   | panic c=>obtain⟨a8,eo,aR⟩:=aR;exact⟨none,a8,eo,aR⟩
   | _=>exact aR.elim
  ·split at h
   ·rename_i rx uk av bS;injection h with h;subst h
    refine wpIn_seq (wpIn_mono (H0 hm x rx av _ a S w aT aO) fun e cX w' aR=>?_);cases e with
    | normal =>
     obtain⟨ak,a8,eo,aR⟩:=aR;exact wpIn_mono (sound (ds:=marks ak) (r:=none) (m:=3) hm y uk bS (Q ak) cX a8 w' eo aR) fun e QQ b1 h=>afJ h
    | exit i=>obtain⟨ak,a8,eo,aR⟩:=aR;exact⟨ak,a8,eo,aR⟩
    | ret=>obtain⟨ak,a8,eo,aR⟩:=aR;exact⟨ak,a8,eo,aR⟩
    | panic c=>obtain⟨ak,a8,eo,aR⟩:=aR;exact⟨ak,a8,eo,aR⟩
    | _=>exact aR.elim
   ·cases h
 | .block id b,rc,h,Q,a,S,w,aT,aO=>by
  simp only[lR] at h;obtain⟨Ex,aB,rfl⟩:=Option.map_eq_some_iff.1 h;refine wpIn_block (wpIn_mono (H0 hm b Ex aB _ a S w aT aO) fun e cX w' aR=>?_);cases e with
  | normal=>obtain⟨ak,a8,eo,aR⟩:=aR;exact⟨ak,a8,eo,aR⟩
  | ret=>obtain⟨ak,a8,eo,aR⟩:=aR;exact⟨ak,a8,eo,aR⟩
  | panic c=>obtain⟨ak,a8,eo,aR⟩:=aR;exact⟨ak,a8,eo,aR⟩
  | exit i =>
   obtain⟨ak,a8,eo,aR⟩:=aR;simp only[y6] at aR;simp only[Exit.inBlock];split at aR
   ·rename_i af;rw[if_pos af];exact⟨ak,a8,eo,aR⟩
   ·rename_i af;rw[if_neg af];exact⟨ak,a8,eo,aR⟩
  | _=>exact aR.elim
 | .skip,rc,h,_,_,_,_,_,_=>by simp[lR] at h
 | .region _ _ _,rc,h,_,_,_,_,_,_=>by simp[lR] at h
 | .cond _ _ _,rc,h,_,_,_,_,_,_=>by simp[lR] at h
 | .loop _,rc,h,_,_,_,_,_,_=>by simp[lR] at h
 | .exit _,rc,h,_,_,_,_,_,_=>by simp[lR] at h
 | .ret,rc,h,_,_,_,_,_,_=>by simp[lR] at h
 | .scope _,rc,h,_,_,_,_,_,_=>by simp[lR] at h
 | .label _,rc,h,_,_,_,_,_,_=>by simp[lR] at h
 | .goto _,rc,h,_,_,_,_,_,_=>by simp[lR] at h
 | .refuse _,rc,h,_,_,_,_,_,_=>by simp[lR] at h
def Cg(res:List lN)(R:Value→World→Prop):Option Nat→dS→Fr→World→Prop
 | none,e,S,w=>Ce res R e S w
 | some D,.normal,S,w=>w.heap[D]? = some (.deferred (some []))∧oc res S (e2 w D (.deferred none)) fun vs=>R (gn vs) (e2 w D (.deferred none))
 | some D,.ret,S,w=>w.heap[D]? = some (.deferred (some []))∧oc res S (e2 w D (.deferred none)) fun vs=>R (gn vs) (e2 w D (.deferred none))
 | some _,.exit _,_,_=>False
 | some _,.fA _,_,_=>False
theorem aim{P:Program}{D:Nat}{w:World}(h:w.heap[D]? = some (.deferred (some []))):(Instr.takeDeferred D).run P w = .ok [] (e2 w D (.deferred none)):=by
 simp[Instr.takeDeferred,Sem.run_bind,getObj,setObj,Sem.run,h,Result.andThen,e2]
theorem aaG{P:Program}{f:FuncId}{L:wI}(hm:P.follows .mixedOrders=true)(aw:w5 P f=some L){args:List Value}{w:World}{R:Value→World→Prop}(bu:args.length≤L.n)
  (h:mS P L.code (Cg L.res R) (hL args 0) w):bw P f args.toArray w R:=by
 unfold w5 at aw;split at aw
 ·rename_i fn j4;split at aw
  ·rename_i c aB;split at aw
   ·rename_i lc r h1 U;injection aw with aw;subst aw
    refine(callsIn_wide (n:=3)).1 (callsIn_of_wp_marks (F:=Fence.wide) j4 aB trivial (wpIn_mono (H0 hm c lc h1 _ _ (hL args 0) w ?_ h) ?_))
    ·refine⟨rfl,?_,fun t=>?_⟩
     ·have:=bu;simp only at this;simp;omega
     ·rw[Gm];simp only[Nat.zero_le,if_true,Nat.sub_zero];by_cases aL:t<args.length
      ·simp[Array.getD_eq_getD_getElem?,Array.getElem?_append,aL]
      ·simp only[Array.getD_eq_getD_getElem?,Array.getElem?_append,List.size_toArray,if_neg aL,List.getElem?_eq_none (Nat.le_of_not_lt aL),Option.getD_none];rw[Array.getElem?_replicate];split<;>rfl
    ·have fin:∀(ak:Option Nat) (S:Fr) (cX:Act) (w':World),Fits (marks ak) cX S fn.ntmps→(Cg r R ak .normal S w')→LeavesInM Fence.wide 3 P fn cX.tmps (fun e w' => ∃v,e = .returned v∧R v w') cX.defers .returning w':=by
      intro ak S cX w' aT aR;rw[aT.1];cases ak with
      | none =>
       obtain⟨vs,ah,aJ⟩:=qq aT _ _ _ U aR;exact⟨_,uz ah,_,rfl,aJ⟩
      | some D =>
       obtain⟨bx,aR⟩:=aR;obtain⟨vs,ah,aJ⟩:=qq aT _ _ _ U aR;exact⟨by simp,.inl ⟨D,_,rfl,aim bx,⟨_,uz ah,_,rfl,aJ⟩⟩⟩
     intro e cX w' aR;cases e with
     | normal=>obtain⟨ak,S,aT,aR⟩:=aR;exact fin ak S cX w' aT aR
     | ret =>
      obtain⟨ak,S,aT,aR⟩:=aR;refine fin ak S cX w' aT ?_;cases ak<;>exact aR
     | exit i=>obtain⟨ak,S,aT,aR⟩:=aR;cases ak<;>exact aR.elim
     | panic c=>obtain⟨ak,S,aT,aR⟩:=aR;cases ak<;>exact aR.elim
     | _=>exact aR.elim
   ·cases aw
  ·cases aw
 ·cases aw
end bt
namespace bt
open Go Go.RowKit
section
variable{P:Program}{S:Fr}{w:World}
theorem fL.start{f:FuncId}{L:wI}(hm:P.follows .mixedOrders=true)(aw:w5 P f=some L){args:List Value}{w:World}{R:Value→World→Prop}(bu:args.length≤L.n)(h:mS P L.code (Cg L.res R) (hL args 0) w):bw P f args.toArray w R:=aaG hm aw bu h
theorem fL.hS{x:e1}{y:qE}{Q:Option Nat→dS→Fr→World→Prop}(h:dR P x (hb (fun S w=>mS P y Q S w) (Q none) ⟨⟩) S w ⟨⟩):mS P (.hS x y) Q S w:=by unfold dR hb at h;exact h
theorem fL.rE{x:qE}{y:e1}{Q:Option Nat→dS→Fr→World→Prop}(h:mS P x (fun ak=>hb (fun S w=>dR P y (Q ak) S w ⟨⟩) (Q ak) ⟨⟩) S w):mS P (.rE x y) Q S w:=by unfold dR hb at h;exact h
theorem fL.aQ{id:Nat}{x:qE}{Q:Option Nat→dS→Fr→World→Prop}(h:mS P x (fun ak=>pc id (Q ak) ⟨⟩) S w):mS P (.aQ id x) Q S w:=by unfold pc at h;exact h
theorem fL.ret{res:List lN}{R:Value→World→Prop}{D:Nat}(bx:w.heap[D]? = some (.deferred (some [])))(h:ik res S (e2 w D (.deferred none)) (fun vs=>R (gn vs) (e2 w D (.deferred none))) ⟨⟩):Cg res R (some D) .ret S w:=by
 unfold ik at h;exact⟨bx,h⟩
theorem fL.Cd{res:List lN}{R:Value→World→Prop}{e:dS}(h:qW res R ⟨⟩ e S w):Cg res R none e S w:=by
 unfold qW at h;exact h
theorem fL.rD{α:Type}{enc:α→Value}{g:Operand}{p:Nat}{a b:e1}{Q:Option Nat→dS→Fr→World→Prop}{jL:Nat}{gy:Array Value}{hv:World→World→Prop}{mq ov:List α→Prop}{N:Nat}{w0:World}
  (aV:bj S g = .func (.func jL) #[] gy)(dA:okF P jL=true)(rf:SeqStopsK Fence.wide 0 P jL gy (fun x=>#[enc x]) hv mq ov N w0)(he:Ext w0 w)(q1:Bg hv w.heap.size)
  (ep:List α→World→Prop)(bs:OwnFrom w.heap.size ep)(ao:ep [] w)
  (Dk:∀pre x W,ep pre W→pre.length<N→dR P a (hb (fun rL hI=>KeepsFrom w.heap.size W hI∧hv W hI∧∀eE,rK w.heap.size hI eE →
   dR P b (hb (fun _ b8=>KeepsFrom w.heap.size eE b8∧hv eE b8∧ep (pre++[x]) b8) (fun _ _ _=>False) ⟨⟩) rL eE ⟨⟩) (fun _ _ _=>False) ⟨⟩) (cc S p (enc x)) W ⟨⟩)
  (xw:∀D xs W,w.heap.size≤D→mq xs→ep xs W→W.heap[D]? = some (.deferred (some []))→Q (some D) .normal S W):mS P (.rD g p a b) Q S w:=by
 refine⟨α,enc,jL,gy,hv,mq,ov,N,w0,aV,dA,rf,he,q1,ep,fun _ _ _=>False,bs,fun _ _ _ _ _ h _ _=>h.elim,ao,fun pre x W af a1=>?_,xw,fun D e pre W _ _ _ h _=>h.elim⟩;have h:=Dk pre x W af a1;unfold dR hb at h;refine og a _ _ _ W (fun e rL hI _ h1=>?_) h;cases e with
 | normal =>
  obtain⟨dc,cY,gW⟩:=h1;refine⟨dc,cY,fun eE bd=>?_⟩;have U:=gW eE bd;refine og b _ _ _ eE (fun e iH mu _ ah=>?_) U;cases e with
  | normal=>exact ah
  | exit _=>exact ah.elim
  | ret=>exact ah.elim
  | fA _=>exact ah.elim
 | exit _=>exact h1.elim
 | ret=>exact h1.elim
 | fA _=>exact h1.elim
theorem rK.cells{B:Nat}{W b8:World}(h:rK B W b8){k:Nat}{c:Array Value}{t:TypeId}{f:Nat×Nat}(hk:W.heap[k]? = some (.cells c t f)):b8.heap[k]? = some (.cells c t f):=by
 obtain⟨l,a1,⟨ak,aZ,aw⟩,aV⟩:=h;rw[aV.block k (cy hk) fun e=>by injection e with e;subst e;rw[aZ] at hk;injection hk with hk;subst hk;cases aw];exact hk
theorem rK.mod{B:Nat}{W b8:World}(h:rK B W b8):∃l,B≤l∧(∀c t f,W.heap[l]? ≠ some (.cells c t f))∧Mod (fun k=>k=l) W b8:=by
 obtain⟨l,a1,⟨ak,aZ,aw⟩,aV⟩:=h;exact⟨l,a1,(fun c t f e=>by rw[aZ] at e;injection e with e;subst e;cases aw),Mod.grown aV fun k e=>by injection e with e;exact e.symm⟩
theorem rK.ext{B:Nat}{w W b8:World}(h:rK B W b8)(he:Ext w W)(jN:w.heap.size≤B):Ext w b8:=by
 obtain⟨l,a1,_,hm⟩:=h.mod;exact hm.ext he fun k hk e=>by omega
theorem Ext.keeps{W b8:World}(h:Ext W b8)(B:Nat):KeepsFrom B W b8:=⟨h.size,fun k ak _ hk _=>h.obj hk⟩
theorem Mod.keeps{A:Nat→Prop}{B:Nat}{W b8:World}(h:Mod A W b8)(ed:∀k,B≤k→A k→∃c t f,W.heap[k]? = some (.cells c t f)):KeepsFrom B W b8 :=
 ⟨h.size,fun k ak jN hk aw=>h.obj (fun a=>by obtain⟨c,t,f,e⟩:=ed k jN a;rw[hk] at e;injection e with e;subst e;cases aw) hk⟩
theorem Mod.hA{A:Nat→Prop}{gO:Nat}{cD:List TypeId}{W b8:World}(h:Mod A W b8)(aH:gO≤W.heap.size)(ao:∀k,k<gO→¬A k)(ed:∀k c t f,A k→W.heap[k]? = some (.cells c t f)→t∉cD):lq gO cD W b8 :=
 ⟨⟨h.os,h.tape,h.output,h.size,fun k hk=>h.block k (by omega) (ao k hk)⟩,fun k c t f hk aL=>h.block k (cy hk) fun a=>ed k c t f a hk aL⟩
theorem Mod.high{A:Nat→Prop}{w W b8:World}{row:Option Nat}(h:Mod A w W)(aV:W.grownBy b8 row)(bd:∀r,row=some r→w.heap.size≤r):Mod A w b8 :=
 h.comp (Mod.grown (A:=fun k=>row=some k) aV fun k e=>e) (fun _ _ a=>a) fun i af e=>by have:=bd i e;omega
def gQ(bA:Nat)(b0:List Nat)(cD:List TypeId)(W b8:World):Prop:=Mod (fun k=>k∈b0∨(bA≤k∧∃c t f,t∈cD∧W.heap[k]? = some (.cells c t f))) W b8
theorem Ext.zh{bA:Nat}{b0:List Nat}{cD:List TypeId}{W b8:World}(h:Ext W b8):gQ bA b0 cD W b8:=h.mod
theorem gQ.trans{bA:Nat}{b0:List Nat}{cD:List TypeId}{a b c:World}(h:gQ bA b0 cD a b)(k:gQ bA b0 cD b c):gQ bA b0 cD a c :=
 ⟨k.os.trans h.os,k.tape.trans h.tape,k.output.trans h.output,Nat.le_trans h.size k.size,fun i af aH=>by
  have e:=h.block i af aH;refine(k.block i (Nat.lt_of_lt_of_le af h.size) fun a=>aH ?_).trans e;rcases a with a | ⟨dG,c,t,f,a2,a3⟩
  ·exact .inl a
  ·exact .inr ⟨dG,c,t,f,a2,by rw[←e];exact a3⟩⟩
theorem dz.zh{bA b:Nat}{b0:List Nat}{cD:List TypeId}{W b8:World}(h:dz b W b8)(aB:b∈b0):gQ bA b0 cD W b8:=(h.mod (A:=fun k=>k=b) rfl).Ip fun k e=>.inl (e ▸ aB)
theorem gQ.grown{α:Type}{enc:α→List Value}{sz bA:Nat}{e:TypeId}{b0:List Nat}{cD:List TypeId}{W b8:World}{v:Value}{xs:List α}(aZ:bg enc e sz bA W v xs)(aV:W.grownBy b8 v.ownBlock)(he:e∈cD):gQ bA b0 cD W b8 :=
 (Mod.grown (A:=fun k=>v.ownBlock=some k) aV fun k e=>e).Ip fun k hk=>by
  obtain⟨cur,h⟩:=aZ.aQ k hk;exact .inr ⟨(aZ.lt k hk).1,_,_,_,he,h⟩
theorem gQ.keeps{bA B:Nat}{b0:List Nat}{cD:List TypeId}{W b8:World}(h:gQ bA b0 cD W b8)(jN:∀b∈b0,b<B):KeepsFrom B W b8 :=
 Mod.keeps h fun k hk a=>by
  rcases a with a | ⟨_,c,t,f,_,a⟩
  ·have:=jN k a;omega
  ·exact⟨c,t,f,a⟩
theorem gQ.hA{bA gO:Nat}{b0:List Nat}{cD mc:List TypeId}{W b8:World}(h:gQ bA b0 cD W b8)(aH:gO≤W.heap.size)(ao:gO≤bA)(aB:∀b∈b0,gO≤b∧∀c t f,W.heap[b]? = some (.cells c t f)→t∉mc)(aL:∀t∈cD,t∉mc):lq gO mc W b8 :=
 Mod.hA h aH (fun k hk a=>by
  rcases a with a | ⟨a,_⟩
  ·have:=(aB k a).1;omega
  ·omega) fun k c t f a hk=>by
  rcases a with a | ⟨_,kj,fJ,r5,dG,a2⟩
  ·exact(aB k a).2 c t f hk
  ·rw[hk] at a2;injection a2 with a2;injection a2 with _ a2;subst a2;exact aL _ dG
theorem gQ.from{b0:List Nat}{cD:List TypeId}{w W b8:World}(h:Mod (fun k=>k∈b0) w W)(c:gQ w.heap.size b0 cD W b8):Mod (fun k=>k∈b0) w b8 :=
 h.comp c (fun _ _ a=>a) fun k hk a=>by
  rcases a with a | ⟨a,_⟩
  ·exact a
  ·omega
theorem gQ.obj{bA:Nat}{b0:List Nat}{cD:List TypeId}{W b8:World}(h:gQ bA b0 cD W b8){k:Nat}{c:Array Value}{t:TypeId}{f:Nat×Nat}(hk:W.heap[k]? = some (.cells c t f))(aB:k∉b0)(aL:t∉cD):b8.heap[k]? = some (.cells c t f):=by
 rw[Mod.block h k (cy hk) fun a=>?_]
 ·exact hk
 ·rcases a with a | ⟨_,kj,fJ,r5,dG,a2⟩
  ·exact aB a
  ·rw[hk] at a2;injection a2 with a2;injection a2 with _ a2;subst a2;exact aL dG
end
end bt
end
section
namespace Go.Proofs.R
open Go bt Go.Proofs
def D.i:wI:=⟨78,[.cell 6], (.hS (.bF [ay 3 (.box T.b (ab 0)),ay 4 (.box T.a (ab 1)),ay 6 (.new T.l (.bool false))]) (.hS (J [a6 14 5 3,bb 15 F.j [14],bh 16 (.jd 0 (ab 15)),az .neq T.e 17 16 0] (aD 17 (J [hd (.st (ab 6) (b4 false))] .ret) .skip)) (.hS (.dW (al (a6 18 5 3) (al (a6 20 5 3) (.alt (bb 19 F.a [18]) (.bT (bb 21 F.e [20]) (.alt (ay 8 (.new T.t aP)) (al (I 7 19) (.bT (ys 8 21) .done .nil)) .nil) (.alt (ay 8 (.new T.t aP)) (.bT (bb 21 F.e [20]) (al (I 7 19) (.bT (ys 8 21) .done .nil)) .nil) .nil)) (.alt (ay 8 (.new T.t aP)) (.alt (bb 19 F.a [18]) (.bT (bb 21 F.e [20]) (al (I 7 19) (.bT (ys 8 21) .done .nil)) .nil) .nil) .nil))))) (.hS (.seq (.ec [ae 22 4,az .lss T.a 23 22 0,I 24 23,au 24 (ae 25 4),au 24 (I 26 7),au 24 (bI 27 26),au 24 (bl .geq T.a 28 25 27),ct 29 24 28,I 30 29,au 30 (I 31 2),au 30 (az .lss T.a 32 31 0),ct 33 30 32,I 34 33,au 34 (I 35 2),au 34 (ag 36 3 3),au 34 (ae 37 36),au 34 (I 38 7),au 34 (ae 39 4),au 34 (bc 40 2 38 39),au 34 (ag 41 0 40),au 34 (ae 42 41),au 34 (bc 43 5 37 42),au 34 (ag 44 2 43),au 34 (ae 45 44),au 34 (bl .geq T.a 46 35 45),ct 47 34 46]) (aD 47 (J [hd (.st (ab 6) (b4 false))] .ret) .skip)) (.hS (.bF [a6 48 5 3,bb 49 F.qJ [48],ay 9 (.new T.rR aP),ys 9 49]) (.rE (.hS (.bF [a6 50 5 3,ae 51 4,I 52 2,bb 53 F.cV [50,51,52]]) (.aQ 0 (.rD (ab 53) 54 (.bF [I 10 54]) (.aQ 1 (J [bh 55 (.jv F.y2 [] [(ab 4)]),I 11 55] (J [ae 56 8,bI 57 56,aj 58 (ai 0)] (.aQ 2 (.loop (J [bl .lss T.a 59 58 57] (eS 59 2
 (.seq (.aQ 3 (J [I 60 58,bc 61 2 56 58,a6 62 2 61,ay 13 (.new T.ak (.agg #[an,an])),I 12 60,cf 2 13 62] (.seq (.ec [I 63 11,a6 64 2 13,dh 65 (.val (ab 63) [(ab 64)]),I 66 65,aS 66 (ae 67 9),aS 66 (I 68 10),aS 66 (bc 69 2 67 68),aS 66 (a6 70 2 69),aS 66 (ae 71 9),aS 66 (I 72 12),aS 66 (bc 73 2 71 72),aS 66 (a6 74 2 73),aS 66 (bb 75 F.a9 [70,74]),du 76 66 75]) (aD 76 (J [hd (.st (ab 6) (b4 false))] .ret) .skip)))) (e0 T.a 77 58)))))))))))) (J [hd (.st (ab 6) (b4 true))] .ret)))))))⟩
theorem Bd.i:w5 Tryz.prog F.i=some D.i:=by kernel_rfl
def D.e:wI:=⟨37,[.tmp 2], (.hS (.bF [ay 1 (.box T.b (ab 0)),aj 2 (.const aP)]) (.hS (.bF [ay 3 (.new T.t aP)]) (.hS (.bF [bh 8 (.cP [an,an] [(0,1),(1,1)] [(0,(ai (-1)))]),ay 4 (.new T.a an),ay 5 (.new T.n (.agg #[an,an])),hd (.st (ab 4) (ai (-1))),cf 2 5 8]) (.rE (.hS (.bF [a6 9 5 1,bb 10 F.y4 [9]]) (.aQ 0 (.rD (ab 10) 11 (.bF [ay 6 (.new T.n (.agg #[an,an])),cf 2 6 11]) (.aQ 1 (.seq (J [a6 12 2 6,a6 13 2 5,bl .neq T.n 14 12 13] (aD 14 (.bF [ae 15 4,az .add T.a 16 15 1,ys 4 16]) .skip)) (J [a6 17 2 6,cf 2 5 17] (J [ag 18 3 1,ae 19 18,ag 20 0 6,ae 21 20,bc 22 5 19 21,ag 23 4 22,ae 24 23,bI 25 24,aj 26 (ai 0)] (.aQ 2 (.loop (J [bl .lss T.a 27 26 25] (eS 27 2
 (.seq (.aQ 3 (J [I 28 26,I 7 28] (.bF [ae 29 3,ae 30 4,I 31 7,bh 32 (.cP [an,an] [(0,1),(1,1)] [(0,(ab 30)),(1,(ab 31))]),ay 33 (.cQ T.ak 1 2 [an,an] [(0,(ab 32))]),ay 34 (.app T.t T.ak 2 16 (ab 29) (ab 33)),ys 3 34]))) (e0 T.a 35 26))))))))))))) (J [ae 36 3,I 2 36] .ret)))))⟩
theorem Bd.e:w5 Tryz.prog F.e=some D.e:=by kernel_rfl
def D.vi:wI:=⟨13,[.tmp 4], (.hS (.bF [ay 2 (.box T.pa (ab 0)),aj 4 (.const aP)]) (.rE (.hS (.bF [I 6 1]) (.aQ 0 (.rD (ab 6) 7 (.bF [ay 5 (.new T.n (.agg #[an,an])),cf 2 5 7]) (.aQ 1 (.bF [ae 8 2,a6 9 2 5,ay 10 (.cQ T.n 1 2 [an,an] [(0,(ab 9))]),ay 11 (.app T.pa T.n 2 16 (ab 8) (ab 10)),ys 2 11]))))) (J [ae 12 2,I 4 12] .ret)))⟩
theorem Bd.vi:w5 Tryz.prog F.vi=some D.vi:=by kernel_rfl
end Go.Proofs.R
end
section
namespace o
open Go Go.RowKit bt
theorem Rr(x:cU):pY WY x.enc:=⟨⟨_,rfl⟩,⟨_,rfl⟩,trivial⟩
theorem aeZ(x y:cU)(h:x.enc=y.enc):x=y:=by cases x;cases y;simpa[cU.enc] using h
abbrev uY(m:Model):={x:cU // x.of m}
end o
namespace bt
open Go Go.RowKit
theorem Ext.SB{w w':World}(h:Ext w w'):w.grownBy w' none:=⟨h.os,h.tape,h.output,h.size,fun k hk _=>h.heap hk⟩
end bt
namespace Go.Proofs.R
open Go Go.RowKit bt
theorem aax(cs:List Value)(m:o.Model)(p:o.dt)(cx eg:Value)(w:World)(h:o.dM w cs m) :
  bw Tryz.prog F.BT #[.agg cs.toArray,.agg (p.enc cx eg).toArray] w fun v w'=>v = .int .i64 (o.elems m p)∧Ext w w':=by
 obtain⟨cz,bV,cj,c1,cq,c2,cr,bJ,cC,bW,rfl,ao,h1,U,ah,aJ,eH,dB,dH,ee,ei⟩:=h.form;refine bP E.BT ?_;refine bM ?_;refine aa ?_;intro aq bE c8 aC ar;refine aa ?_;intro aU cp dT aA aK;have c0:∀{w'},Ext aU w'→Ext w w':=fun e=>(aC.trans aA).trans e;refine aa ?_;rw[o.elems];apply K.cond<;>intro g1
 ·refine aa ?_;rw[o.kK (.inl (by omega))];exact⟨bf,c0 (Ext.refl _)⟩
 refine aa ?_;apply K.cond<;>intro g2
 ·refine aa ?_;rw[o.kK (.inr (by omega))];exact⟨bf,c0 (Ext.refl _)⟩
 have af:(p.over - 1).toNat<m.scalars.length:=by omega
 obtain⟨a,rfl⟩:=ao.addr (by omega);rw[o.lf (by omega) (by omega)];refine aa ?_;refine K.dx (p.over - 1).toNat (by omega) af ?_;refine aa ?_;apply K.cond<;>intro g3
 ·refine aa ?_;refine⟨?_,c0 (Ext.refl _)⟩;rw[if_pos (by omega)];rfl
 refine aa ?_;apply K.cond<;>intro g4
 ·refine aa ?_;refine⟨?_,c0 (Ext.refl _)⟩;rw[if_pos (by omega)];rfl
 refine aa ?_;refine⟨?_,c0 (Ext.refl _)⟩;rw[if_neg (by omega)];congr 1;omega
theorem ahQ(cs:List Value)(m:o.Model)(p:o.dt)(cx eg:Value)(w:World)(h:o.dM w cs m) :
  bw Tryz.prog F.D1 #[.agg cs.toArray,.agg (p.enc cx eg).toArray] w fun v w'=>v = .int .i64 (o.elems m p)∧Ext w w':=by
 obtain⟨cz,bV,cj,c1,cq,c2,cr,bJ,cC,bW,rfl,ao,h1,U,ah,aJ,eH,dB,dH,ee,ei⟩:=h.form;refine bP E.D1 ?_;refine bM ?_;refine aa ?_;intro aq bE c8 aC ar;refine aa ?_;intro aU cp dT aA aK;have c0:∀{w'},Ext aU w'→Ext w w':=fun e=>(aC.trans aA).trans e;refine aa ?_;rw[o.elems];apply K.cond<;>intro g1
 ·refine aa ?_;rw[o.kK (.inl (by omega))];exact⟨bf,c0 (Ext.refl _)⟩
 refine aa ?_;apply K.cond<;>intro g2
 ·refine aa ?_;rw[o.kK (.inr (by omega))];exact⟨bf,c0 (Ext.refl _)⟩
 have af:(p.over - 1).toNat<m.scalars.length:=by omega
 obtain⟨a,rfl⟩:=ao.addr (by omega);rw[o.lf (by omega) (by omega)];refine aa ?_;refine K.dx (p.over - 1).toNat (by omega) af ?_;refine aa ?_;apply K.cond<;>intro g3
 ·refine aa ?_;refine⟨?_,c0 (Ext.refl _)⟩;rw[if_pos (by omega)];rfl
 refine aa ?_;apply K.cond<;>intro g4
 ·refine aa ?_;refine⟨?_,c0 (Ext.refl _)⟩;rw[if_pos (by omega)];rfl
 refine aa ?_;refine⟨?_,c0 (Ext.refl _)⟩;rw[if_neg (by omega)];congr 1;omega
def UC(x:o.cU):Value:=.agg x.enc.toArray
theorem UK{nx w0:World}{b:Nat}{cs:List Value}{m:o.Model}(aw:w0.heap[b]? = some (.cells cs.toArray T.b))(h:o.dM nx cs m)(oL:Ext nx w0) :
  SeqStopsK Fence.wide 0 Tryz.prog F.am #[.pointer (some ⟨b,0,none⟩)] (fun x:o.uY m=>#[UC x.1]) (lq nx.heap.size [T.g,T.b]) (fun xs=>xs.map Subtype.val=o.insts m) (fun _=>True) (o.insts m).length w0:=by
 intro l hZ IH W aB pj ab5 bS G4;have zJ:Ext nx W:=oL.trans aB;have Te:=Ext.obj (w:=w0) aB aw;obtain⟨cz,bV,cj,c1,cq,c2,cr,bJ,cC,bW,rfl,ao,h1,U,ah,aJ,eH,dB,dH,ee,ei⟩:=h.form;refine callsIn_wide.2 (Calls.mono (show bw Tryz.prog F.am #[.func (.yield l) #[] #[],.pointer (some ⟨b,0,none⟩)] W (fun _ b8=>(∃xs,xs.map Subtype.val=o.insts m∧hZ xs b8)∨(∃pre:List (o.uY m),True∧IH pre b8)) from ?_) fun e b8 ⟨v,b2,ba⟩=>⟨⟨v,b2⟩,ba⟩);have zB:∀{pre:List (o.uY m)} {w w':World},hZ pre w→Ext w w'→hZ pre w':=fun {pre w w'} aI e=>pj pre w w' none aI e.SB (fun r e=>by cases e);refine bP E.am ?_;refine bM ?_;refine aa ?_;refine K.cR 9 m.procs.length [0,1,7,8] (fun _=>[]) ([]:List (o.uY m)) (fun k pre w'=>(Ext nx w'∧w'.heap[b]? = some (.cells #[.slice cz m.scalars.length bV,.slice cj m.vars.length c1,.slice cq m.a7.length c2,.slice cr m.procs.length bJ,.slice cC m.props.length bW] T.b)∧hZ pre w')∧pre.map Subtype.val++o.iP m (m.procs.drop k) k=o.insts m) bp bp ⟨⟨zJ,Te,G4⟩,by simp[o.insts]⟩ ?_;clear Te aw;rintro k pre S aq hk ⟨⟨aC,Tg,TL⟩,qb⟩;refine aa ?_;apply K.cond<;>intro g1
 ·have br:k<m.procs.length:=by omega
  obtain⟨a,rfl⟩:=ah.addr (by omega);obtain⟨aG,cx,eg,dU,eL,fU⟩:=ah.at k br;obtain⟨_,_,rfl,_⟩:=eL.form;obtain⟨_,_,rfl,_⟩:=fU.form;rw[o.UE br] at qb;have p4:=cy Tg;refine eh ?_;simp -dsimp only[cA];refine eh ?_;simp -dsimp only[cA];refine eh ?_;intro A3 cp dT lZ nS;refine eh ?_;intro aU aeL aK;have aA:=aeL.ext lZ dT;have Th:=aA.obj Tg;have lE:=zB TL aA;have e5:∀(q:List (o.uY m)) (r:List o.cU),q.map Subtype.val++r=o.insts m→r≠[]→q.length<(o.insts m).length:=fun q r e bd=>by
   rw[←e,List.length_append,List.length_map]
   have:=List.length_pos_iff.2 bd
   omega
  have tH:=o.Cc m m.procs[k];refine eh ?_;refine K.gK [0,1,3,4,7,8,9] (fun _=>[]) (fun(Es:List (o.uY m)) w'=>(Ext nx w'∧w'.heap[cp]? = aU.heap[cp]? ∧ w'.heap[b]? = aU.heap[b]? ∧ hZ Es w')∧Es.map Subtype.val=pre.map Subtype.val++o.ih k m.procs[k]) ?_ ?_
  ·refine aa ?_;apply K.cond<;>intro g2
   ·have b2:o.ih k m.procs[k]=[⟨(k:Int),0⟩]:=by unfold o.ih;rw[if_pos g2]
    rw[b2] at qb;refine aa ?_;refine K.yield (bS pre ⟨⟨(k:Int),0⟩,by simp,by simpa using br,by simp⟩ aU lE (e5 pre _ (by simpa[List.append_assoc] using qb) (by simp))) ?_;rintro e aY (⟨rfl,p7,ra⟩ | ⟨rfl,p7⟩)
    ·refine⟨.bool true,rfl,?_⟩;refine aa ?_;exact⟨_,trivial,⟨Below.trans (Ext.trans aC aA) ra.1,ra.2 cp _ _ _ aK (by simp),ra.2 b _ _ _ Th (by simp),p7⟩,by simp[b2]⟩
    ·refine⟨.bool false,rfl,?_⟩;refine aa ?_;exact .inr ⟨_,trivial,p7⟩
   ·have b2:o.ih k m.procs[k]=[]:=by unfold o.ih;rw[if_neg g2]
    refine aa ?_;exact⟨pre,trivial,⟨aC.trans aA,bf,bf,lE⟩,by simp[b2]⟩
  rintro Mz S aY ⟨⟨ax,bB,Ti,p7⟩,aeh⟩;rw[aK] at bB;rw[Th] at Ti;refine aa ?_;refine K.call (aax _ m m.procs[k] _ _ aY (h.ext ax)) ?_;rintro _ bo ⟨rfl,aF⟩;have adM:=zB p7 aF;have Tj:=aF.obj Ti;have oH:=ax.trans aF;have T9:Mz.map Subtype.val++o.iS k (o.elems m m.procs[k])++o.iP m (m.procs.drop (k+1)) (k+1)=o.insts m:=by rw[aeh,←qb];simp
  refine aa ?_;refine K.cR 27 (o.elems m m.procs[k]) [0,1,3,7,8,9,26] (fun _=>[]) Mz (fun j Es w'=>(Ext nx w'∧w'.heap[b]? = bo.heap[b]? ∧ hZ Es w')∧Es.map Subtype.val=Mz.map Subtype.val++o.iS k j) bp bp ⟨⟨oH,rfl,adM⟩,by simp[o.iS]⟩ ?_;rintro j MA S bD aI ⟨⟨aM,GI,C6⟩,zX⟩;rw[Tj] at GI;refine aa ?_;apply K.cond<;>intro g3
  ·have eQ:j<o.elems m m.procs[k]:=by omega
   have cB:MA.length<(o.insts m).length:=by
    have b2:=congrArg List.length T9;have ba:=congrArg List.length zX;simp only[List.length_append,List.length_map,o.iS,List.length_range] at b2 ba;omega
   refine aa ?_;refine K.yield (bS MA ⟨⟨(k:Int),(j:Int)+1⟩,by simp,by simpa using br,by constructor<;>simp<;>omega⟩ bD C6 cB) ?_;rintro e bQ (⟨rfl,zR,C8⟩ | ⟨rfl,zR⟩)
   ·refine⟨.bool true,rfl,?_⟩;refine aa ?_;exact⟨eQ,bf,_,trivial,⟨Below.trans aM C8.1,by rw[C8.2 b _ _ _ GI (by simp),GI,Tj],zR⟩,by simp[zX,o.VR]⟩
   ·refine⟨.bool false,rfl,?_⟩;refine aa ?_;exact .inr ⟨_,trivial,zR⟩
  ·have kF:j=o.elems m m.procs[k]:=by omega
   subst kF;refine aa ?_;exact⟨br,bf,MA,trivial,⟨aM,GI,C6⟩,by rw[zX];exact T9⟩
 ·refine aa ?_;rw[List.drop_eq_nil_of_le (by omega)] at qb;exact .inl ⟨pre,by simpa[o.iP] using qb,TL⟩
end Go.Proofs.R
end