/- The plain law: what the functions compute answers as the statement says. -/
import Derived.Test.YtmdocdnidilaiaaGreatECheckShare
import Derived.Test.YtmdocdnidilaiaaGreatVArgs
namespace Go.Proofs.YtmdocdnidilaiaaGreat.CheckShare
open Go Go.Proofs.YtmdocdnidilaiaaGreat.V
set_option linter.unusedVariables false
set_option maxRecDepth 20000
def wf_i (x:Int):Prop:=(Lit.int .i64 x).wf=true
theorem un_i {bs:List B} (h:Sh.okL [.int .i64] bs):∃x:Int,bs=[(.val (.int .i64 x))]∧wf_i x:=by
  obtain⟨b0,m0,rfl,o0,h0⟩:=h
  obtain⟨x0,rfl,w0⟩:∃z:Int,b0=.val (.int .i64 z)∧(Lit.int .i64 z).wf=true:=by
    cases b0 with
    |val v=>
      cases v<;>first | exact o0.elim |(obtain⟨rfl,w⟩:=o0; exact⟨_,rfl,w⟩)
    |sl r=>exact o0.elim
  obtain rfl:=h0
  exact⟨x0,rfl,w0⟩
theorem uns_i:∀ {rows:List (List B)},(∀r∈rows,Sh.okL [.int .i64] r)→∃z:List Int,rows=z.map b_i∧∀u∈z,wf_i u
  |[],_=>⟨[],rfl,fun u h=>(by cases h)⟩
  |r::rows,h=>by
    obtain⟨x,e,w⟩:=un_i (h r (List.mem_cons_self ..))
    obtain⟨z,rfl,hz⟩:=uns_i (fun r hr=>h r (List.mem_cons_of_mem _ hr))
    refine⟨x::z,by rw[e]; rfl,fun u hu=>?_⟩
    rcases List.mem_cons.1 hu with rfl | hu
    · exact w
    · exact hz u hu
def wf_N (x:K_N):Prop:=(Lit.int .i64 x.f0).wf=true∧(Lit.int .i64 x.f1).wf=true∧(x.f2.length*8≤140737488351232∧∀z∈x.f2,wf_i z)
theorem un_N {bs:List B} (h:Sh.okL [.int .i64,.int .i64,.sl [.int .i64] 8] bs):∃x:K_N,bs=[(.val (.int .i64 x.f0)),(.val (.int .i64 x.f1)),(.sl (List.map b_i x.f2))]∧wf_N x:=by
  obtain⟨b0,m0,rfl,o0,h0⟩:=h
  obtain⟨x0,rfl,w0⟩:∃z:Int,b0=.val (.int .i64 z)∧(Lit.int .i64 z).wf=true:=by
    cases b0 with
    |val v=>
      cases v<;>first | exact o0.elim |(obtain⟨rfl,w⟩:=o0; exact⟨_,rfl,w⟩)
    |sl r=>exact o0.elim
  obtain⟨b1,m1,rfl,o1,h1⟩:=h0
  obtain⟨x1,rfl,w1⟩:∃z:Int,b1=.val (.int .i64 z)∧(Lit.int .i64 z).wf=true:=by
    cases b1 with
    |val v=>
      cases v<;>first | exact o1.elim |(obtain⟨rfl,w⟩:=o1; exact⟨_,rfl,w⟩)
    |sl r=>exact o1.elim
  obtain⟨b2,m2,rfl,o2,h2⟩:=h1
  obtain⟨x2,rfl,w2⟩:∃z:(List Int),b2=.sl (z.map b_i)∧z.length*8≤140737488351232∧∀u∈z,wf_i u:=by
    cases b2 with
    |val v=>cases v<;>exact o2.elim
    |sl r=>
      obtain⟨z,rfl,hz⟩:=uns_i o2.2
      exact⟨z,rfl,by simpa using o2.1,hz⟩
  obtain rfl:=h2
  exact⟨⟨x0,x1,x2⟩,rfl,⟨w0,w1,w2⟩⟩
theorem ok_wf_N (x:K_N) (w:wf_N x):ok_N x:=w.2.2.1
theorem uns_N:∀ {rows:List (List B)},(∀r∈rows,Sh.okL [.int .i64,.int .i64,.sl [.int .i64] 8] r)→∃z:List K_N,rows=z.map b_N∧∀u∈z,wf_N u
  |[],_=>⟨[],rfl,fun u h=>(by cases h)⟩
  |r::rows,h=>by
    obtain⟨x,e,w⟩:=un_N (h r (List.mem_cons_self ..))
    obtain⟨z,rfl,hz⟩:=uns_N (fun r hr=>h r (List.mem_cons_of_mem _ hr))
    refine⟨x::z,by rw[e]; rfl,fun u hu=>?_⟩
    rcases List.mem_cons.1 hu with rfl | hu
    · exact w
    · exact hz u hu
def wf_U (x:K_U):Prop:=(Lit.int .i64 x.f0).wf=true∧(x.f1.length*8≤140737488351232∧∀z∈x.f1,wf_i z)
theorem un_U {bs:List B} (h:Sh.okL [.int .i64,.sl [.int .i64] 8] bs):∃x:K_U,bs=[(.val (.int .i64 x.f0)),(.sl (List.map b_i x.f1))]∧wf_U x:=by
  obtain⟨b0,m0,rfl,o0,h0⟩:=h
  obtain⟨x0,rfl,w0⟩:∃z:Int,b0=.val (.int .i64 z)∧(Lit.int .i64 z).wf=true:=by
    cases b0 with
    |val v=>
      cases v<;>first | exact o0.elim |(obtain⟨rfl,w⟩:=o0; exact⟨_,rfl,w⟩)
    |sl r=>exact o0.elim
  obtain⟨b1,m1,rfl,o1,h1⟩:=h0
  obtain⟨x1,rfl,w1⟩:∃z:(List Int),b1=.sl (z.map b_i)∧z.length*8≤140737488351232∧∀u∈z,wf_i u:=by
    cases b1 with
    |val v=>cases v<;>exact o1.elim
    |sl r=>
      obtain⟨z,rfl,hz⟩:=uns_i o1.2
      exact⟨z,rfl,by simpa using o1.1,hz⟩
  obtain rfl:=h1
  exact⟨⟨x0,x1⟩,rfl,⟨w0,w1⟩⟩
theorem ok_wf_U (x:K_U) (w:wf_U x):ok_U x:=w.2.1
theorem uns_U:∀ {rows:List (List B)},(∀r∈rows,Sh.okL [.int .i64,.sl [.int .i64] 8] r)→∃z:List K_U,rows=z.map b_U∧∀u∈z,wf_U u
  |[],_=>⟨[],rfl,fun u h=>(by cases h)⟩
  |r::rows,h=>by
    obtain⟨x,e,w⟩:=un_U (h r (List.mem_cons_self ..))
    obtain⟨z,rfl,hz⟩:=uns_U (fun r hr=>h r (List.mem_cons_of_mem _ hr))
    refine⟨x::z,by rw[e]; rfl,fun u hu=>?_⟩
    rcases List.mem_cons.1 hu with rfl | hu
    · exact w
    · exact hz u hu
def wf_T (x:K_T):Prop:=(Lit.int .i64 x.f0).wf=true∧(x.f1.length*40≤140737488351232∧∀z∈x.f1,wf_N z)∧(x.f2.length*32≤140737488351232∧∀z∈x.f2,wf_U z)
theorem un_T {bs:List B} (h:Sh.okL [.int .i64,.sl [.int .i64,.int .i64,.sl [.int .i64] 8] 40,.sl [.int .i64,.sl [.int .i64] 8] 32] bs):∃x:K_T,bs=[(.val (.int .i64 x.f0)),(.sl (List.map b_N x.f1)),(.sl (List.map b_U x.f2))]∧wf_T x:=by
  obtain⟨b0,m0,rfl,o0,h0⟩:=h
  obtain⟨x0,rfl,w0⟩:∃z:Int,b0=.val (.int .i64 z)∧(Lit.int .i64 z).wf=true:=by
    cases b0 with
    |val v=>
      cases v<;>first | exact o0.elim |(obtain⟨rfl,w⟩:=o0; exact⟨_,rfl,w⟩)
    |sl r=>exact o0.elim
  obtain⟨b1,m1,rfl,o1,h1⟩:=h0
  obtain⟨x1,rfl,w1⟩:∃z:(List K_N),b1=.sl (z.map b_N)∧z.length*40≤140737488351232∧∀u∈z,wf_N u:=by
    cases b1 with
    |val v=>cases v<;>exact o1.elim
    |sl r=>
      obtain⟨z,rfl,hz⟩:=uns_N o1.2
      exact⟨z,rfl,by simpa using o1.1,hz⟩
  obtain⟨b2,m2,rfl,o2,h2⟩:=h1
  obtain⟨x2,rfl,w2⟩:∃z:(List K_U),b2=.sl (z.map b_U)∧z.length*32≤140737488351232∧∀u∈z,wf_U u:=by
    cases b2 with
    |val v=>cases v<;>exact o2.elim
    |sl r=>
      obtain⟨z,rfl,hz⟩:=uns_U o2.2
      exact⟨z,rfl,by simpa using o2.1,hz⟩
  obtain rfl:=h2
  exact⟨⟨x0,x1,x2⟩,rfl,⟨w0,w1,w2⟩⟩
theorem ok_wf_T (x:K_T) (w:wf_T x):ok_T x:=⟨w.2.1.1,fun z hz=>ok_wf_N z (w.2.1.2 z hz),w.2.2.1,fun z hz=>ok_wf_U z (w.2.2.2 z hz)⟩
theorem uns_T:∀ {rows:List (List B)},(∀r∈rows,Sh.okL [.int .i64,.sl [.int .i64,.int .i64,.sl [.int .i64] 8] 40,.sl [.int .i64,.sl [.int .i64] 8] 32] r)→∃z:List K_T,rows=z.map b_T∧∀u∈z,wf_T u
  |[],_=>⟨[],rfl,fun u h=>(by cases h)⟩
  |r::rows,h=>by
    obtain⟨x,e,w⟩:=un_T (h r (List.mem_cons_self ..))
    obtain⟨z,rfl,hz⟩:=uns_T (fun r hr=>h r (List.mem_cons_of_mem _ hr))
    refine⟨x::z,by rw[e]; rfl,fun u hu=>?_⟩
    rcases List.mem_cons.1 hu with rfl | hu
    · exact w
    · exact hz u hu
def wf_J (x:K_J):Prop:=(Lit.int .i64 x.f0).wf=true∧(Lit.int .i64 x.f1).wf=true∧(Lit.int .i64 x.f2).wf=true∧(Lit.int .i64 x.f3).wf=true∧(Lit.int .i64 x.f4).wf=true∧(x.f5.length*56≤140737488351232∧∀z∈x.f5,wf_T z)
theorem un_J {bs:List B} (h:Sh.okL [.int .i64,.int .i64,.int .i64,.int .i64,.int .i64,.sl [.int .i64,.sl [.int .i64,.int .i64,.sl [.int .i64] 8] 40,.sl [.int .i64,.sl [.int .i64] 8] 32] 56] bs):∃x:K_J,bs=[(.val (.int .i64 x.f0)),(.val (.int .i64 x.f1)),(.val (.int .i64 x.f2)),(.val (.int .i64 x.f3)),(.val (.int .i64 x.f4)),(.sl (List.map b_T x.f5))]∧wf_J x:=by
  obtain⟨b0,m0,rfl,o0,h0⟩:=h
  obtain⟨x0,rfl,w0⟩:∃z:Int,b0=.val (.int .i64 z)∧(Lit.int .i64 z).wf=true:=by
    cases b0 with
    |val v=>
      cases v<;>first | exact o0.elim |(obtain⟨rfl,w⟩:=o0; exact⟨_,rfl,w⟩)
    |sl r=>exact o0.elim
  obtain⟨b1,m1,rfl,o1,h1⟩:=h0
  obtain⟨x1,rfl,w1⟩:∃z:Int,b1=.val (.int .i64 z)∧(Lit.int .i64 z).wf=true:=by
    cases b1 with
    |val v=>
      cases v<;>first | exact o1.elim |(obtain⟨rfl,w⟩:=o1; exact⟨_,rfl,w⟩)
    |sl r=>exact o1.elim
  obtain⟨b2,m2,rfl,o2,h2⟩:=h1
  obtain⟨x2,rfl,w2⟩:∃z:Int,b2=.val (.int .i64 z)∧(Lit.int .i64 z).wf=true:=by
    cases b2 with
    |val v=>
      cases v<;>first | exact o2.elim |(obtain⟨rfl,w⟩:=o2; exact⟨_,rfl,w⟩)
    |sl r=>exact o2.elim
  obtain⟨b3,m3,rfl,o3,h3⟩:=h2
  obtain⟨x3,rfl,w3⟩:∃z:Int,b3=.val (.int .i64 z)∧(Lit.int .i64 z).wf=true:=by
    cases b3 with
    |val v=>
      cases v<;>first | exact o3.elim |(obtain⟨rfl,w⟩:=o3; exact⟨_,rfl,w⟩)
    |sl r=>exact o3.elim
  obtain⟨b4,m4,rfl,o4,h4⟩:=h3
  obtain⟨x4,rfl,w4⟩:∃z:Int,b4=.val (.int .i64 z)∧(Lit.int .i64 z).wf=true:=by
    cases b4 with
    |val v=>
      cases v<;>first | exact o4.elim |(obtain⟨rfl,w⟩:=o4; exact⟨_,rfl,w⟩)
    |sl r=>exact o4.elim
  obtain⟨b5,m5,rfl,o5,h5⟩:=h4
  obtain⟨x5,rfl,w5⟩:∃z:(List K_T),b5=.sl (z.map b_T)∧z.length*56≤140737488351232∧∀u∈z,wf_T u:=by
    cases b5 with
    |val v=>cases v<;>exact o5.elim
    |sl r=>
      obtain⟨z,rfl,hz⟩:=uns_T o5.2
      exact⟨z,rfl,by simpa using o5.1,hz⟩
  obtain rfl:=h5
  exact⟨⟨x0,x1,x2,x3,x4,x5⟩,rfl,⟨w0,w1,w2,w3,w4,w5⟩⟩
theorem ok_wf_J (x:K_J) (w:wf_J x):ok_J x:=⟨w.2.2.2.2.2.1,fun z hz=>ok_wf_T z (w.2.2.2.2.2.2 z hz)⟩
theorem uns_J:∀ {rows:List (List B)},(∀r∈rows,Sh.okL [.int .i64,.int .i64,.int .i64,.int .i64,.int .i64,.sl [.int .i64,.sl [.int .i64,.int .i64,.sl [.int .i64] 8] 40,.sl [.int .i64,.sl [.int .i64] 8] 32] 56] r)→∃z:List K_J,rows=z.map b_J∧∀u∈z,wf_J u
  |[],_=>⟨[],rfl,fun u h=>(by cases h)⟩
  |r::rows,h=>by
    obtain⟨x,e,w⟩:=un_J (h r (List.mem_cons_self ..))
    obtain⟨z,rfl,hz⟩:=uns_J (fun r hr=>h r (List.mem_cons_of_mem _ hr))
    refine⟨x::z,by rw[e]; rfl,fun u hu=>?_⟩
    rcases List.mem_cons.1 hu with rfl | hu
    · exact w
    · exact hz u hu
def wf_JL (x:(List K_J)):Prop:=(x.length*64≤140737488351232∧∀z∈x,wf_J z)
theorem un_JL {bs:List B} (h:Sh.okL [.sl [.int .i64,.int .i64,.int .i64,.int .i64,.int .i64,.sl [.int .i64,.sl [.int .i64,.int .i64,.sl [.int .i64] 8] 40,.sl [.int .i64,.sl [.int .i64] 8] 32] 56] 64] bs):∃x:(List K_J),bs=[(.sl (List.map b_J x))]∧wf_JL x:=by
  obtain⟨b0,m0,rfl,o0,h0⟩:=h
  obtain⟨x0,rfl,w0⟩:∃z:(List K_J),b0=.sl (z.map b_J)∧z.length*64≤140737488351232∧∀u∈z,wf_J u:=by
    cases b0 with
    |val v=>cases v<;>exact o0.elim
    |sl r=>
      obtain⟨z,rfl,hz⟩:=uns_J o0.2
      exact⟨z,rfl,by simpa using o0.1,hz⟩
  obtain rfl:=h0
  exact⟨x0,rfl,w0⟩
def wf_KY (x:K_KY):Prop:=(Lit.int .i64 x.f0).wf=true∧(Lit.int .i64 x.f1).wf=true∧(Lit.int .i64 x.f2).wf=true∧(Lit.int .i64 x.f3).wf=true
theorem un_KY {bs:List B} (h:Sh.okL [.int .i64,.int .i64,.int .i64,.int .i64] bs):∃x:K_KY,bs=[(.val (.int .i64 x.f0)),(.val (.int .i64 x.f1)),(.val (.int .i64 x.f2)),(.val (.int .i64 x.f3))]∧wf_KY x:=by
  obtain⟨b0,m0,rfl,o0,h0⟩:=h
  obtain⟨x0,rfl,w0⟩:∃z:Int,b0=.val (.int .i64 z)∧(Lit.int .i64 z).wf=true:=by
    cases b0 with
    |val v=>
      cases v<;>first | exact o0.elim |(obtain⟨rfl,w⟩:=o0; exact⟨_,rfl,w⟩)
    |sl r=>exact o0.elim
  obtain⟨b1,m1,rfl,o1,h1⟩:=h0
  obtain⟨x1,rfl,w1⟩:∃z:Int,b1=.val (.int .i64 z)∧(Lit.int .i64 z).wf=true:=by
    cases b1 with
    |val v=>
      cases v<;>first | exact o1.elim |(obtain⟨rfl,w⟩:=o1; exact⟨_,rfl,w⟩)
    |sl r=>exact o1.elim
  obtain⟨b2,m2,rfl,o2,h2⟩:=h1
  obtain⟨x2,rfl,w2⟩:∃z:Int,b2=.val (.int .i64 z)∧(Lit.int .i64 z).wf=true:=by
    cases b2 with
    |val v=>
      cases v<;>first | exact o2.elim |(obtain⟨rfl,w⟩:=o2; exact⟨_,rfl,w⟩)
    |sl r=>exact o2.elim
  obtain⟨b3,m3,rfl,o3,h3⟩:=h2
  obtain⟨x3,rfl,w3⟩:∃z:Int,b3=.val (.int .i64 z)∧(Lit.int .i64 z).wf=true:=by
    cases b3 with
    |val v=>
      cases v<;>first | exact o3.elim |(obtain⟨rfl,w⟩:=o3; exact⟨_,rfl,w⟩)
    |sl r=>exact o3.elim
  obtain rfl:=h3
  exact⟨⟨x0,x1,x2,x3⟩,rfl,⟨w0,w1,w2,w3⟩⟩
theorem uns_KY:∀ {rows:List (List B)},(∀r∈rows,Sh.okL [.int .i64,.int .i64,.int .i64,.int .i64] r)→∃z:List K_KY,rows=z.map b_KY∧∀u∈z,wf_KY u
  |[],_=>⟨[],rfl,fun u h=>(by cases h)⟩
  |r::rows,h=>by
    obtain⟨x,e,w⟩:=un_KY (h r (List.mem_cons_self ..))
    obtain⟨z,rfl,hz⟩:=uns_KY (fun r hr=>h r (List.mem_cons_of_mem _ hr))
    refine⟨x::z,by rw[e]; rfl,fun u hu=>?_⟩
    rcases List.mem_cons.1 hu with rfl | hu
    · exact w
    · exact hz u hu
def wf_LiiiiE (x:(List K_KY)):Prop:=(x.length*32≤140737488351232∧∀z∈x,wf_KY z)
theorem un_LiiiiE {bs:List B} (h:Sh.okL [.sl [.int .i64,.int .i64,.int .i64,.int .i64] 32] bs):∃x:(List K_KY),bs=[(.sl (List.map b_KY x))]∧wf_LiiiiE x:=by
  obtain⟨b0,m0,rfl,o0,h0⟩:=h
  obtain⟨x0,rfl,w0⟩:∃z:(List K_KY),b0=.sl (z.map b_KY)∧z.length*32≤140737488351232∧∀u∈z,wf_KY u:=by
    cases b0 with
    |val v=>cases v<;>exact o0.elim
    |sl r=>
      obtain⟨z,rfl,hz⟩:=uns_KY o0.2
      exact⟨z,rfl,by simpa using o0.1,hz⟩
  obtain rfl:=h0
  exact⟨x0,rfl,w0⟩
theorem in_iff (a b c:Int):m41 a b c=true↔b≤a∧a≤c:=by
  unfold m41; split<;>simp_all<;>omega
theorem l1In_iff (a b c:Int):m36 a b c=true↔b≤a∧a≤c:=by
  unfold m36; split<;>simp_all<;>omega
theorem in_eq (a b c:Int):m41 a b c=m36 a b c:=by
  rw[Bool.eq_iff_iff,in_iff,l1In_iff]

theorem wrap8 (x:Int):IntKind.wrap .u8 x=x % 256:=by simp[IntKind.wrap,IntKind.bits,IntKind.signed]
theorem fd8 (x:Int):Int.fdiv x (2 ^(min (Int.toNat 8) (IntKind.bits .i64)))=x / 256:=by
  rw[show (2 ^(min (Int.toNat 8) (IntKind.bits .i64)):Int)=256 from rfl]; exact Int.fdiv_eq_ediv_of_nonneg _ (by decide)
theorem fd16 (x:Int):Int.fdiv x (2 ^(min (Int.toNat 16) (IntKind.bits .i64)))=x / 65536:=by
  rw[show (2 ^(min (Int.toNat 16) (IntKind.bits .i64)):Int)=65536 from rfl]; exact Int.fdiv_eq_ediv_of_nonneg _ (by decide)
theorem fd24 (x:Int):Int.fdiv x (2 ^(min (Int.toNat 24) (IntKind.bits .i64)))=x / 16777216:=by
  rw[show (2 ^(min (Int.toNat 24) (IntKind.bits .i64)):Int)=16777216 from rfl]; exact Int.fdiv_eq_ediv_of_nonneg _ (by decide)
theorem four_is (a:Int):m145 a=[a / 16777216 % 256,a / 65536 % 256,a / 256 % 256,a % 256]:=by
  unfold m145
  simp only[fd8,fd16,fd24,wrap8]
theorem high4_is (a:Int):m146 a 4=[a / 256 / 256 / 256 % 256,a / 256 / 256 % 256,a / 256 % 256,a % 256]:=by
  have h:m146 a 4=[IntKind.wrap .u8 (Int.fdiv (Int.fdiv (Int.fdiv a (2 ^(min (Int.toNat 8) (IntKind.bits .i64)))) (2 ^(min (Int.toNat 8) (IntKind.bits .i64)))) (2 ^(min (Int.toNat 8) (IntKind.bits .i64)))),IntKind.wrap .u8 (Int.fdiv (Int.fdiv a (2 ^(min (Int.toNat 8) (IntKind.bits .i64)))) (2 ^(min (Int.toNat 8) (IntKind.bits .i64)))),IntKind.wrap .u8 (Int.fdiv a (2 ^(min (Int.toNat 8) (IntKind.bits .i64)))),IntKind.wrap .u8 a]:=by kernel_rfl
  rw[h]
  simp only[fd8,wrap8]
theorem high4_eq (a:Int):m146 a 4=m145 a:=by
  rw[high4_is,four_is]
  have h1:a / 256 / 256 / 256=a / 16777216:=by omega
  have h2:a / 256 / 256=a / 65536:=by omega
  rw[h1,h2]
theorem sum_loop (a b:List Int):∀(l:List Int) (i j v:Int),(match r140_0 a l i v with | .k0 w .. =>w)=(match r128_0 b l j v with | .k0 w .. =>w)
  |[],i,j,v=>rfl
  |x::l,i,j,v=>by
    simp only[r140_0,r128_0]
    rw[Int.mul_comm 33 v]
    exact sum_loop a b l (i+1) (j+1) _
theorem sum_eq (a:List Int):m140 a=m128 a:=by
  unfold m140 m128
  exact sum_loop a a a 0 0 5381
def Bs (l:List Int):Prop:=∀z∈l,(0:Int)≤z∧z≤255
theorem Bs.append {l m:List Int} (h:Bs l) (k:Bs m):Bs (l++m):=fun z hz=>by
  rcases List.mem_append.1 hz with hz | hz
  · exact h z hz
  · exact k z hz
theorem sum_range (a:List Int):∀(l:List Int) (i v:Int),Bs l→0≤v→v≤2147483646→0≤(match r128_0 a l i v with | .k0 w .. =>w)∧(match r128_0 a l i v with | .k0 w .. =>w)≤2147483646
  |[],i,v,_,h1,h2=>⟨h1,h2⟩
  |x::l,i,v,hb,h1,h2=>by
    have hx:=hb x (List.mem_cons_self ..)
    simp only[r128_0]
    rw[wrap64 (x:=v*33) (by omega),wrap64 (x:=x) (by omega),wrap64 (x:=v*33+x) (by omega),wrap64 (x:=v*33+x+1) (by omega)]
    have e1:=Int.tmod_nonneg (a:=v*33+x+1) 2147483647 (by omega)
    have e2:=Int.tmod_lt_of_pos (v*33+x+1) (show (0:Int) < 2147483647 by omega)
    exact sum_range a l (i+1) _ (fun z hz=>hb z (List.mem_cons_of_mem _ hz)) e1 (by omega)
theorem sum_ok {a:List Int} (h:Bs a):0≤m128 a∧m128 a≤2147483646:=by
  unfold m128
  exact sum_range a a 0 5381 h (by omega) (by omega)
theorem si_loop (a b:List Int):∀(l:List Int) (i j:Int) (v:List Int),(match r118_0 a l i v with | .k0 w .. =>w)=(match r113_0 b l j v with | .k0 w .. =>w)
  |[],i,j,v=>rfl
  |x::l,i,j,v=>by
    simp only[r118_0,r113_0,high4_eq]
    exact si_loop a b l _ _ _
theorem si_eq (a:List Int):m118 a=m113 a:=by
  have h:=si_loop a a a 0 0 []
  unfold m118 m113
  cases h1:r118_0 a a 0 [] with
  |k0 w j b=>
    cases h2:r113_0 a a 0 [] with
    |k0 w2 j2 b2=>
      rw[h1,h2] at h
      simp only[] at h⊢
      subst h
      exact sum_eq _

theorem ab2 (a b:Int):m98 [a,b]=[m113 [a,b]]:=by kernel_rfl
theorem ab3 (a b c:Int):m98 [a,b,c]=[m113 [a,b],m113 [c,c]]:=by kernel_rfl
theorem ab4 (a b c d:Int):m98 [a,b,c,d]=[m113 [a,b],m113 [c,d]]:=by kernel_rfl
theorem av2 (a b:Int):m107 [a,b]=[m113 [a,b]]:=by
  rw[← si_eq]; kernel_rfl
theorem av3 (a b c:Int):m107 [a,b,c]=[m113 [a,b],m113 [c,c]]:=by
  rw[← si_eq,← si_eq]; kernel_rfl
theorem av4 (a b c d:Int):m107 [a,b,c,d]=[m113 [a,b],m113 [c,d]]:=by
  rw[← si_eq,← si_eq]; kernel_rfl
def tS (l:List Int) (n:Nat):Bool:=match r69_0 n l with | .k0 .. =>false | .k1=>true
def tI (l:List Int) (n:Nat):Bool:=match r78_0 n l with | .k0 .. =>false | .k1=>true
theorem tS1 (n:Nat) (a:Int):tS [a] (n+1)=false:=by kernel_rfl
theorem tI1 (n:Nat) (a:Int):tI [a] (n+1)=false:=by kernel_rfl
theorem tS2 (n:Nat) (a b:Int):tS [a,b] (n+2)=(a==b):=by
  have e:r69_1 [a,b] (Int.toNat ((List.length [a,b]:Int) - 0)) 0=if(a==b)=true then .k1 else .k0 2 false:=by kernel_rfl
  unfold tS
  rw[r69_0,if_pos (by simp),e,ab2]
  by_cases h:(a==b)=true
  · rw[if_pos h,h]
  · have h':(a==b)=false:=by simpa using h
    rw[if_neg h,h']; exact tS1 n (m113 [a,b])
theorem tI2 (n:Nat) (a b:Int):tI [a,b] (n+2)=(a==b):=by
  have e:r78_1 [a,b] (Int.toNat ((List.length [a,b]:Int) - 1)) 1=if(a==b)=true then .k1 else .k0 3 false:=by kernel_rfl
  unfold tI
  rw[r78_0,if_pos (by simp),e,av2]
  by_cases h:(a==b)=true
  · rw[if_pos h,h]
  · have h':(a==b)=false:=by simpa using h
    rw[if_neg h,h']; exact tI1 n (m113 [a,b])
theorem t3 (n:Nat) (a b c:Int):tI [a,b,c] (n+3)=tS [a,b,c] (n+3):=by
  have e:r69_1 [a,b,c] (Int.toNat ((List.length [a,b,c]:Int) - 0)) 0=if(a==b)=true then .k1 else .k0 2 false:=by kernel_rfl
  have e2:r78_1 [a,b,c] (Int.toNat ((List.length [a,b,c]:Int) - 1)) 1=if(a==b)=true then .k1 else .k0 3 false:=by kernel_rfl
  unfold tI tS
  rw[r78_0,r69_0,if_pos (by simp),if_pos (by simp),e,e2,ab3,av3]
  by_cases h:(a==b)=true
  · rw[if_pos h,if_pos h]
  · rw[if_neg h,if_neg h]; exact(tI2 n _ _).trans (tS2 n _ _).symm
theorem t4 (n:Nat) (a b c d:Int):tI [a,b,c,d] (n+3)=tS [a,b,c,d] (n+3):=by
  have e:r69_1 [a,b,c,d] (Int.toNat ((List.length [a,b,c,d]:Int) - 0)) 0=if(a==b)=true then .k1 else if(c==d)=true then .k1 else .k0 4 false:=by kernel_rfl
  have e2:r78_1 [a,b,c,d] (Int.toNat ((List.length [a,b,c,d]:Int) - 1)) 1=if(a==b)=true then .k1 else if(c==d)=true then .k1 else .k0 5 false:=by kernel_rfl
  unfold tI tS
  rw[r78_0,r69_0,if_pos (by simp),if_pos (by simp),e,e2,ab4,av4]
  by_cases h:(a==b)=true
  · rw[if_pos h,if_pos h]
  · rw[if_neg h,if_neg h]
    by_cases h2:(c==d)=true
    · rw[if_pos h2,if_pos h2]
    · rw[if_neg h2,if_neg h2]; exact(tI2 n _ _).trans (tS2 n _ _).symm
def InS (x:Int):Prop:=0≤x∧x≤2147483646
theorem sf_loop (a:List Int):∀(l:List Int) (i:Int),(∀x∈l,InS x)→(match r1015702_0 a l i with | .k0 .. =>(-1:Int) | .k1 w=>w)= -1
  |[],i,_=>rfl
  |x::l,i,h=>by
    simp only[r1015702_0]
    rw[if_neg (by rw[(in_iff _ _ _).2 (h x (List.mem_cons_self ..))]; simp)]
    exact sf_loop a l _ (fun u hu=>h u (List.mem_cons_of_mem _ hu))
theorem leaves_ok {l:List Int} (h0:1≤l.length) (h1:l.length≤8) (h:∀x∈l,InS x):m106 l=0:=by
  unfold m106
  rw[if_neg (by rw[(in_iff _ _ _).2 (by simp only[List.length_map]; omega)]; simp)]
  have e:m1015702 l= -1:=sf_loop l l 0 h
  unfold m138
  rw[e]; rfl
theorem twin_eq {l:List Int} (h0:1≤l.length) (h1:l.length≤4) (h:∀x∈l,InS x):m78 l=m69 l:=by
  unfold m78
  rw[leaves_ok h0 (by omega) h,if_neg (by decide)]
  show tI l l.length=tS l l.length
  match l,h0,h1 with
  |[a],_,_=>exact(tI1 0 a).trans (tS1 0 a).symm
  |[a,b],_,_=>exact(tI2 0 a b).trans (tS2 0 a b).symm
  |[a,b,c],_,_=>exact t3 0 a b c
  |[a,b,c,d],_,_=>exact t4 1 a b c d
  |[],h,_=>simp at h
  |_::_::_::_::_::_,_,h=>simp at h

theorem wrap88 (x:Int):IntKind.wrap .u8 (IntKind.wrap .i64 x)=x % 256:=by
  rw[wrap8]
  show (if(true && decide (x % 18446744073709551616≥9223372036854775808))=true then x % 18446744073709551616 - 18446744073709551616 else x % 18446744073709551616) % 256=x % 256
  split<;>omega
theorem put_eq (n:Int):m160 n=m151 n:=by
  unfold m160 m151
  by_cases h:(decide (n < 253))=true
  · rw[if_pos h,if_pos h]
  · rw[if_neg h,if_neg h]
    have h2:253≤n:=by simp only[decide_eq_true_eq] at h; omega
    rw[fd8,Int.tmod_eq_emod_of_nonneg (by omega),wrap88,Int.tdiv_eq_ediv_of_nonneg (by omega),wrap8,wrap8,wrap8]
    congr 1
    congr 1
    omega
theorem big_eq (n:Int):m162 n=m152 n:=by
  unfold m162 m152
  rw[put_eq,put_eq]
theorem num_loop (a b:List Int):∀(l:List Int) (i j:Int) (v:List Int),(match r163_0 a l i v with | .k0 w .. =>w)=(match r153_0 b l j v with | .k0 w .. =>w)
  |[],i,j,v=>rfl
  |x::l,i,j,v=>by
    simp only[r163_0,r153_0,put_eq]
    exact num_loop a b l _ _ _
theorem num_eq (a:List Int):m163 a=m153 a:=by
  unfold m163 m153
  rw[put_eq]
  exact num_loop a a a 0 0 _
theorem num_nil:m163 []=[0]:=by kernel_rfl
theorem pk_loop0 (a b:K_T):∀(l:List K_N) (i j:Int) (v:List Int),v.length+60*l.length≤260→(match r141_0 a (l.map bare) i v with | .k0 w .. =>w)=(match r129_0 b false l j v with | .k0 w .. =>w)
  |[],i,j,v,_=>rfl
  |x::l,i,j,v,h=>by
    have q1:=pl151 x.f1
    have q2:=pb152 x.f0
    simp only[List.length_cons] at h
    simp only[r141_0,r129_0,List.map_cons,bare,put_eq,big_eq,num_nil]
    rw[cat4 (by simp only[List.length_cons,List.length_nil]; omega),if_neg (by simp)]
    exact pk_loop0 a b l _ _ _ (by simp only[List.length_append,List.length_cons,List.length_nil]; omega)
theorem pk_loop1 (a b:K_T):∀(l:List K_U) (i j:Int) (v:List Int),(∀x∈l,List.length x.f1≤12)→v.length+60*l.length≤520→(match r141_1 a l i v with | .k0 w .. =>w)=(match r129_1 b l j v with | .k0 w .. =>w)
  |[],i,j,v,_,_=>rfl
  |x::l,i,j,v,z,h=>by
    have q1:=z x (List.mem_cons_self ..)
    have q2:=pb152 x.f0
    have q3:=pn153 x.f1
    simp only[List.length_cons] at h
    simp only[r141_1,r129_1,num_eq,big_eq]
    rw[cat3 (by omega)]
    exact pk_loop1 a b l _ _ _ (fun u hu=>z u (List.mem_cons_of_mem _ hu)) (by simp only[List.length_append]; omega)
theorem pack_eq (t:K_T) (h:SmT t):m141 (K_T.mk t.f0 (t.f1.map bare) t.f2)=m129 t false:=by
  obtain⟨h1,h2,h3,h4⟩:=h
  have q0:=pl151 t.f0
  have q1:=pl151 (t.f1.length:Int)
  have q2:=pl151 (t.f2.length:Int)
  have e:=pk_loop0 (K_T.mk t.f0 (t.f1.map bare) t.f2) t t.f1 0 0 (m151 t.f0++m151 (t.f1.length:Int)) (by simp only[List.length_append]; omega)
  unfold m141 m129
  simp only[put_eq,List.length_map]
  cases g:r129_0 t false t.f1 0 (m151 t.f0++m151 (t.f1.length:Int)) with
  |k0 w j b=>
    rw[g] at e
    have q:=lk129_0 h2 g
    simp only[List.length_append] at q
    cases g2:r141_0 (K_T.mk t.f0 (t.f1.map bare) t.f2) (t.f1.map bare) 0 (m151 t.f0++m151 (t.f1.length:Int)) with
    |k0 w2 j2 b2=>
      rw[g2] at e
      simp only[] at e⊢
      subst e
      exact pk_loop1 _ t t.f2 0 0 _ h4 (by simp only[List.length_append]; omega)
theorem txsum_eq (t:K_T) (h:SmT t):m108 t=m128 (m129 t false):=by
  unfold m108
  cases g:r108_0 t t.f1 0 [] with
  |k0 w j b=>
    rw[lk108 g]
    simp only[List.nil_append]
    rw[pack_eq t h,sum_eq]
theorem Bs_put (n:Int):Bs (m151 n):=by
  unfold m151
  intro z hz
  split at hz<;>simp only[List.mem_cons,List.not_mem_nil,or_false,wrap8] at hz
  · subst hz; omega
  · rcases hz with rfl | rfl | rfl<;>omega
theorem Bs_big (n:Int):Bs (m152 n):=by
  unfold m152
  exact(Bs_put _).append (Bs_put _)
theorem Bs_list (a:List Int):∀(l:List Int) (i:Int) (v:List Int),Bs v→Bs (match r153_0 a l i v with | .k0 w .. =>w)
  |[],i,v,h=>h
  |x::l,i,v,h=>by
    simp only[r153_0]
    exact Bs_list a l _ _ (h.append (Bs_put _))
theorem Bs_num (a:List Int):Bs (m153 a):=by
  unfold m153
  exact Bs_list a a 0 _ (Bs_put _)
theorem Bs_p0 (a:K_T) (c:Bool):∀(l:List K_N) (i:Int) (v:List Int),Bs v→Bs (match r129_0 a c l i v with | .k0 w .. =>w)
  |[],i,v,h=>h
  |x::l,i,v,h=>by
    simp only[r129_0]
    have h1:=(h.append (Bs_big x.f0)).append (Bs_put x.f1)
    split
    · exact Bs_p0 a c l _ _ (h1.append (Bs_num _))
    · exact Bs_p0 a c l _ _ (h1.append (fun z hz=>by simp only[List.mem_cons,List.not_mem_nil,or_false] at hz; subst hz; omega))
theorem Bs_p1 (a:K_T):∀(l:List K_U) (i:Int) (v:List Int),Bs v→Bs (match r129_1 a l i v with | .k0 w .. =>w)
  |[],i,v,h=>h
  |x::l,i,v,h=>by
    simp only[r129_1]
    exact Bs_p1 a l _ _ ((h.append (Bs_big x.f0)).append (Bs_num _))
theorem Bs_pack (t:K_T) (c:Bool):Bs (m129 t c):=by
  have h:=Bs_p0 t c t.f1 0 _ ((Bs_put t.f0).append (Bs_put ((List.length (List.map b_N t.f1)):Int)))
  unfold m129
  cases g:r129_0 t c t.f1 0 ((m151 t.f0)++(m151 ((List.length (List.map b_N t.f1)):Int))) with
  |k0 w j b=>
    rw[g] at h
    exact Bs_p1 t t.f2 0 _ (h.append (Bs_put _))
theorem bad_loop (a b:List Int):∀(l:List Int) (i j:Int),0≤i→(decide ((match r1015700_0 a l i with | .k0 .. =>(-1:Int) | .k1 w=>w:Int)≥0))= !(match r123_0 b 0 9999 l j with | .k0 .. =>true | .k1=>false)
  |[],i,j,_=>rfl
  |x::l,i,j,h=>by
    simp only[r1015700_0,r123_0,in_eq]
    by_cases g:(!(m36 x 0 9999))=true
    · rw[if_pos g,if_pos g]; simpa using h
    · rw[if_neg g,if_neg g]; exact bad_loop a b l _ _ (by omega)
theorem bad_eq (l:List Int):(decide (m1015700 l≥0))= !(m123 l 0 9999):=by
  unfold m1015700 m123
  exact bad_loop l l l 0 0 (by omega)
theorem op_eq (x:Int):m137 x= !(m150 x):=by
  unfold m137 m150
  rw[in_eq,in_eq]
  cases m36 x 1 9<;>simp
theorem lock_loop (a b:List Int):∀(l:List Int) (i j:Int),0≤i→(if(decide ((match r1015701_0 a l i with | .k0 .. =>(-1:Int) | .k1 w=>w:Int)≥0))=true then(1:Int) else 0)=(match r125_0 b l j with | .k0 .. =>0 | .k1=>1)
  |[],i,j,_=>rfl
  |x::l,i,j,h=>by
    simp only[r1015701_0,r125_0,op_eq]
    by_cases g:(!(m150 x))=true
    · rw[if_pos g,if_pos g]; simp only[]; rw[if_pos (by simpa using h)]
    · rw[if_neg g,if_neg g]; exact lock_loop a b l _ _ (by omega)
theorem lock_eq (l:List Int):m104 l=m125 l:=by
  unfold m104 m125
  by_cases h:(decide (((List.length (List.map b_i l)):Int) > 12))=true
  · rw[if_pos h,if_pos h]
  · rw[if_neg h,if_neg h]
    unfold m1015701
    exact lock_loop l l l 0 0 (by omega)
theorem clo_iff (y:K_N) (a b:Int) (c:List Int):m1013600 y a b c=true↔(y.f0==a)=true∧(y.f1==b)=true:=by
  unfold m1013600
  simp only[beq_iff_eq]
  by_cases h:a=y.f0
  · rw[if_pos h]; simp only[beq_iff_eq]; exact⟨fun q=>⟨h.symm,q.symm⟩,fun q=>q.2.symm⟩
  · rw[if_neg h]; exact⟨fun q=>(by cases q),fun q=>absurd q.1.symm h⟩
theorem tk_loop (a A:List K_N) (x:K_N) (i:Nat) (hi:i < a.length) (hx:List.getD a i (K_N.mk 0 0 [])=x):∀(n k:Nat),n+k=i→(if(decide ((match r1015800_0 A x.f0 x.f1 x.f2 ((a.take i).drop k) (k:Int) with | .k0 .. =>(-1:Int) | .k1 w=>w:Int)≥0))=true then(6:Int) else 0)=(match r96_0 a (i:Int) n (k:Int) with | .k0 .. =>0 | .k1=>6)
  |0,k,h=>by
    rw[List.drop_eq_nil_of_le (by simp; omega)]
    rfl
  |n+1,k,h=>by
    have hk:k <(a.take i).length:=by simp; omega
    rw[List.drop_eq_getElem_cons hk]
    have e:List.getD a k (K_N.mk 0 0 [])=(a.take i)[k]:=by
      rw[List.getD,List.getElem?_eq_getElem (show k < a.length by omega),Option.getD_some,List.getElem_take]
    have ih:=tk_loop a A x i hi hx n (k+1) (by omega)
    rw[r1015800_0,r96_0,Int.toNat_natCast,Int.toNat_natCast,hx,e]
    generalize (a.take i)[k]=y at*
    have cl:=clo_iff y x.f0 x.f1 x.f2
    by_cases g:m1013600 y x.f0 x.f1 x.f2=true
    · obtain⟨g0,g1⟩:=cl.1 g
      rw[if_pos g,if_pos g0,if_pos g1]
      show (if decide ((k:Int)≥0)=true then(6:Int) else 0)=6
      rw[if_pos (by simp)]
    · rw[if_neg g]
      by_cases g0:(y.f0==x.f0)=true
      · rw[if_pos g0,if_neg (fun g1=>g (cl.2 ⟨g0,g1⟩))]; exact ih
      · rw[if_neg g0]; exact ih
theorem in_fault (a:List K_N) (x:K_N) (i:Nat) (hi:i < a.length) (hx:List.getD a i (K_N.mk 0 0 [])=x):m102 x (List.take i a)=m96 a (i:Int):=by
  unfold m102 m96
  simp only[Int.toNat_natCast,hx,in_eq,bad_eq]
  by_cases h0:(!(m36 x.f0 0 2147483646))=true
  · rw[if_pos h0,if_pos h0]
  rw[if_neg h0,if_neg h0]
  by_cases h1:(!(m36 x.f1 0 3))=true
  · rw[if_pos h1,if_pos h1]
  rw[if_neg h1,if_neg h1]
  by_cases h2:(decide (((List.length (List.map b_i x.f2)):Int) > 8))=true
  · rw[if_pos h2,if_pos h2]
  rw[if_neg h2,if_neg h2]
  by_cases h3:(!(m123 x.f2 0 9999))=true
  · rw[if_pos h3,if_pos h3]
  rw[if_neg h3,if_neg h3]
  unfold m1015800
  exact tk_loop a (List.take i a) x i hi hx i 0 (by omega)
theorem ins_loop (t:K_T) (A:Int):∀(l p:List K_N),p++l=t.f1→(match r76_0 t l (p.length:Int) with | .k0 .. =>A | .k1 w=>w)=(match r67_0 t l (p.length:Int) with | .k0 .. =>A | .k1 w=>w)
  |[],p,_=>rfl
  |x::l,p,h=>by
    have ih:=ins_loop t A l (p++ [x]) (by rw[List.append_assoc]; exact h)
    rw[show ((p++ [x]).length:Int)=(p.length:Int)+1 from by simp] at ih
    have hl:p.length < t.f1.length:=by rw[← h]; simp
    have hx:List.getD t.f1 p.length (K_N.mk 0 0 [])=x:=by rw[← h]; simp
    simp only[r76_0,r67_0,Int.toNat_natCast]
    rw[in_fault t.f1 x p.length hl hx]
    by_cases g:(m96 t.f1 (p.length:Int) !=0)=true
    · rw[if_pos g,if_pos g]
    · rw[if_neg g,if_neg g]; exact ih
theorem outs_loop (F:Int→Int) (t:K_T) (a b:List K_U):∀(l:List K_U) (i j k v:Int),(match r76_1 t l i with | .k0 .. =>F (match r105_0 a l j v with | .k0 w .. =>w) | .k1=>3 | .k2 w=>w)=(match r97_0 b l k v with | .k0 w .. =>F w | .k1=>3 | .k2 w=>w)
  |[],i,j,k,v=>rfl
  |x::l,i,j,k,v=>by
    simp only[r76_1,r97_0,r105_0,in_eq,lock_eq]
    by_cases h0:(!(m36 x.f0 0 1000000))=true
    · rw[if_pos h0,if_pos h0]
    rw[if_neg h0,if_neg h0]
    by_cases h1:(m125 x.f1 !=0)=true
    · rw[if_pos h1,if_pos h1]
    rw[if_neg h1,if_neg h1]
    exact outs_loop F t a b l _ _ _ _
theorem tx_eq (t:K_T):m76 t=m67 t:=by
  unfold m76 m67
  simp only[in_eq]
  by_cases h0:(!(m36 t.f0 0 65535))=true
  · rw[if_pos h0,if_pos h0]
  rw[if_neg h0,if_neg h0]
  by_cases h1:(decide (((List.length (List.map b_N t.f1)):Int) > 4))=true
  · rw[if_pos h1,if_pos h1]
  rw[if_neg h1,if_neg h1]
  by_cases h2:(!(m36 ((List.length (List.map b_U t.f2)):Int) 1 4))=true
  · rw[if_pos h2]
    by_cases h3:(decide (((List.length (List.map b_U t.f2)):Int) < 1))=true
    · rw[if_pos h3]
    rw[if_neg h3,if_pos]
    cases q:m36 ((List.length (List.map b_U t.f2)):Int) 1 4 with
    |true=>rw[q] at h2; cases h2
    |false=>
      have q2:=mt (l1In_iff _ _ _).2 (by rw[q]; decide)
      simp only[decide_eq_true_eq] at h3⊢
      omega
  · have q:m36 ((List.length (List.map b_U t.f2)):Int) 1 4=true:=by simpa using h2
    have q2:=(l1In_iff _ _ _).1 q
    have c1:¬(decide (((List.length (List.map b_U t.f2)):Int) < 1))=true:=by simp only[decide_eq_true_eq]; omega
    have c2:¬(decide (((List.length (List.map b_U t.f2)):Int) > 4))=true:=by simp only[decide_eq_true_eq]; omega
    rw[if_neg h2,if_neg c1,if_neg c2]
    unfold m97 m105
    refine(ins_loop t _ t.f1 [] rfl).trans ?_
    have o:=outs_loop (fun w=>if(!(m36 w 0 1000000))=true then 7 else 0) t t.f2 t.f2 t.f2 0 0 0 0
    show (match r67_0 t t.f1 0 with | .k0 .. =>_ | .k1 w=>w)=(match r67_0 t t.f1 0 with | .k0 .. =>_ | .k1 w=>w)
    cases r67_0 t t.f1 0 with
    |k0=>exact o
    |k1 w=>rfl

theorem sums_loop (a b:K_G):∀(l:List K_T) (i j:Int) (v:List Int),(∀x∈l,SmT x)→(match r79_0 a l i v with | .k0 w .. =>w)=(match r70_0 b l j v with | .k0 w .. =>w)
  |[],i,j,v,_=>rfl
  |x::l,i,j,v,h=>by
    simp only[r79_0,r70_0]
    rw[txsum_eq x (h x (List.mem_cons_self ..))]
    exact sums_loop a b l _ _ _ (fun u hu=>h u (List.mem_cons_of_mem _ hu))
theorem sums_eq (b:K_G) (h:∀x∈b.f4,SmT x):m79 b=m70 b:=by
  unfold m79 m70
  exact sums_loop b b b.f4 0 0 [] h
theorem sums_in (b:K_G):∀(l:List K_T) (j:Int) (v:List Int),(∀x∈v,InS x)→∀x∈(match r70_0 b l j v with | .k0 w .. =>w),InS x
  |[],j,v,h=>h
  |x::l,j,v,h=>by
    simp only[r70_0]
    refine sums_in b l _ _ fun y hy=>?_
    rcases List.mem_append.1 hy with hy | hy
    · exact h y hy
    · simp only[List.mem_cons,List.not_mem_nil,or_false] at hy
      subst hy; exact sum_ok (Bs_pack _ _)
theorem sums_ok (b:K_G):∀x∈m70 b,InS x:=by
  unfold m70
  exact sums_in b b.f4 0 [] (fun x hx=>by cases hx)
theorem txs_loop (A:Int) (a b:K_G):∀(l:List K_T) (i j:Int),(match r43_0 a l i with | .k0 .. =>A | .k1 w=>w)=(match r38_0 b l j with | .k0 .. =>A | .k1 w=>w)
  |[],i,j=>rfl
  |x::l,i,j=>by
    simp only[r43_0,r38_0,tx_eq]
    by_cases g:(m67 x !=0)=true
    · rw[if_pos g,if_pos g]
    · rw[if_neg g,if_neg g]; exact txs_loop A a b l _ _
theorem base_loop (A B:Int) (a b:K_G):∀(l:List K_T) (i:Int),(match r43_1 a l i with | .k0 .. =>A | .k1=>B)=(match r68_0 b l i with | .k0 .. =>A | .k1=>B)
  |[],i=>rfl
  |x::l,i=>by
    simp only[r43_1,r68_0]
    by_cases g:(!((((List.length (List.map b_N x.f1)):Int)==0)==(i==0)))=true
    · rw[if_pos g,if_pos g]
    · rw[if_neg g,if_neg g]; exact base_loop A B a b l _
theorem base_eq (A B:Int) (b:K_G):(match r43_1 b b.f4 0 with | .k0 .. =>A | .k1=>B)=(if(!(m68 b))=true then B else A):=by
  refine(base_loop A B b b b.f4 0).trans ?_
  unfold m68
  cases r68_0 b b.f4 0<;>rfl
theorem bits_eq (n:Int):m75 n=m66 n:=by
  unfold m75 m66
  rw[in_eq]
theorem block_eq (b:K_G):m43 b=m38 b:=by
  unfold m43 m38
  simp only[in_eq,bits_eq]
  by_cases h0:(!(m36 b.f0 0 2147483646))=true
  · rw[if_pos h0,if_pos h0]
  rw[if_neg h0,if_neg h0]
  by_cases h1:(!(m36 b.f1 1 99999))=true
  · rw[if_pos h1,if_pos h1]
  rw[if_neg h1,if_neg h1]
  by_cases h2:(!(m66 b.f2))=true
  · rw[if_pos h2,if_pos h2]
  rw[if_neg h2,if_neg h2]
  by_cases h3:(!(m36 b.f3 0 65535))=true
  · rw[if_pos h3,if_pos h3]
  rw[if_neg h3,if_neg h3]
  by_cases h4:(!(m36 ((List.length (List.map b_T b.f4)):Int) 1 4))=true
  · rw[if_pos h4]
    by_cases h5:(decide (((List.length (List.map b_T b.f4)):Int) < 1))=true
    · rw[if_pos h5]
    rw[if_neg h5,if_pos]
    cases q:m36 ((List.length (List.map b_T b.f4)):Int) 1 4 with
    |true=>rw[q] at h4; cases h4
    |false=>
      have q2:=mt (l1In_iff _ _ _).2 (by rw[q]; decide)
      simp only[decide_eq_true_eq] at h5⊢
      omega
  have q:m36 ((List.length (List.map b_T b.f4)):Int) 1 4=true:=by simpa using h4
  have q2:=(l1In_iff _ _ _).1 q
  have c1:¬(decide (((List.length (List.map b_T b.f4)):Int) < 1))=true:=by simp only[decide_eq_true_eq]; omega
  have c2:¬(decide (((List.length (List.map b_T b.f4)):Int) > 4))=true:=by simp only[decide_eq_true_eq]; omega
  rw[if_neg h4,if_neg c1,if_neg c2]
  rw[List.length_map] at q2
  have tl:=fun A=>txs_loop A b b b.f4 0 0
  refine(tl _).trans ?_
  cases g:r38_0 b b.f4 0 with
  |k1 w=>rfl
  |k0 j c=>
    simp only[]
    have hs:∀x∈b.f4,SmT x:=fun x hx=>ft67 (lb38 g x hx)
    have hn:=ln70 b
    rw[sums_eq b hs,twin_eq (by omega) (by omega) (sums_ok b)]
    exact base_eq _ 1 b

theorem jobs_loop (a b:List K_J) (hab:a=b):∀(l:List K_J) (i:Int),(match r40_0 a l i with | .k0 .. =>(0:Int) | .k1=>3 | .k2 w=>w | .k3=>1)=(match r47_0 b l i with | .k0 .. =>0 | .k1 w=>w | .k2=>1)
  |[],i=>rfl
  |x::l,i=>by
    subst hab
    have ih:=jobs_loop a a rfl l (i+1)
    simp only[r40_0,r47_0,in_eq,block_eq]
    by_cases h0:(!(m36 x.f0 0 9999))=true
    · have e:m35 x=3:=by unfold m35; rw[if_pos h0]
      rw[if_pos h0,e]; rfl
    rw[if_neg h0]
    by_cases h1:(m38 (K_G.mk x.f1 x.f2 x.f3 x.f4 x.f5) !=0)=true
    · have e:m35 x=m38 (K_G.mk x.f1 x.f2 x.f3 x.f4 x.f5):=by unfold m35; rw[if_neg h0,if_pos h1]
      rw[if_pos h1,e,if_pos h1]
    rw[if_neg h1]
    by_cases h2:(((List.length (List.map b_U ((List.getD x.f5 0 (K_T.mk 0 [] [])).f2))):Int) !=2)=true
    · have e:m35 x=1:=by unfold m35; rw[if_neg h0,if_neg h1,if_pos h2]
      rw[if_pos h2,e]; rfl
    have e:m35 x=0:=by unfold m35; rw[if_neg h0,if_neg h1,if_neg h2]
    rw[if_neg h2,e,if_neg (show¬((0:Int) !=0)=true by decide)]
    by_cases h3:(decide (i > 0))=true
    · rw[if_pos h3,if_pos h3]
      by_cases h4:(decide (x.f0≤((List.getD a (Int.toNat (IntKind.wrap .i64 (i - 1))) (K_J.mk 0 0 0 0 0 [])).f0)))=true
      · rw[if_pos h4,if_pos (by simp only[decide_eq_true_eq] at h4⊢; omega)]
      · rw[if_neg h4,if_neg (by simp only[decide_eq_true_eq] at h4⊢; omega)]; exact ih
    · rw[if_neg h3,if_neg h3]; exact ih
theorem jobs_eq (a:List K_J):m40 a=m47 a:=by
  unfold m40 m47
  by_cases h:(decide (((List.length (List.map b_J a)):Int) > 4))=true
  · rw[if_pos h,if_pos h]
  · rw[if_neg h,if_neg h]; exact jobs_loop a a rfl a 0


theorem one_eq (x:K_J):m40 [x]=m35 x:=by
  unfold m40
  rw[if_neg (show¬(decide (((List.length (List.map b_J [x])):Int) > 4))=true by simp)]
  simp only[r40_0,in_eq,block_eq]
  by_cases h0:(!(m36 x.f0 0 9999))=true
  · unfold m35; rw[if_pos h0,if_pos h0]
  rw[if_neg h0]
  by_cases h1:(m38 (K_G.mk x.f1 x.f2 x.f3 x.f4 x.f5) !=0)=true
  · unfold m35; rw[if_pos h1,if_neg h0,if_pos h1]
  rw[if_neg h1]
  by_cases h2:(((List.length (List.map b_U ((List.getD x.f5 0 (K_T.mk 0 [] [])).f2))):Int) !=2)=true
  · unfold m35; rw[if_pos h2,if_neg h0,if_neg h1,if_pos h2]
  unfold m35; rw[if_neg h2,if_neg h0,if_neg h1,if_neg h2]
  rw[if_neg (by simp)]

theorem share_eq (a:K_J) (e t n:Int):m9 a e t n=m7 a e t n:=by
  unfold m9 m7
  simp only[one_eq,in_eq,block_eq]
  rfl

theorem bc (a b:Int):(a==b)=(b==a):=by rw[Bool.eq_iff_iff]; simp only[beq_iff_eq]; exact eq_comm
theorem key_eq (x:K_KY):m58 x=m55 x:=by
  unfold m58 m55; simp only[in_eq]
theorem has_eq (c c':List K_KY) (k:K_KY):∀(l:List K_KY) (i j:Int),0≤i→
    (∃w,r115_0 c k l i=.k1 w∧0≤w∧r85_0 c' k l j=.k1)∨(∃u v p q,r115_0 c k l i=.k0 u v∧r85_0 c' k l j=.k0 p q)
  |[],i,j,_=>.inr ⟨_,_,_,_,rfl,rfl⟩
  |x::l,i,j,h=>by
    have ih:=has_eq c c' k l (i+1) (j+1) (by omega)
    simp only[r115_0,r85_0,bc k.f0,bc k.f1,bc k.f2,bc k.f3]
    by_cases e:((x.f0==k.f0) &&((x.f1==k.f1) &&((x.f2==k.f2) &&((x.f3==k.f3) && true))))=true
    · simp only[if_pos e]
      exact .inl ⟨i,rfl,h,trivial⟩
    · simp only[if_neg e]
      exact ih
theorem contains_eq (l:List K_KY) (k:K_KY):decide (m115 l k≥0)=m85 l k:=by
  unfold m115 m85
  rcases has_eq l l k l 0 0 (by omega) with⟨w,h1,h2,h3⟩ |⟨u,v,p,q,h1,h2⟩
  · rw[h1,h3]; simpa using h2
  · rw[h1,h2]; rfl
theorem seen_loop (a:List K_KY):∀(l:List K_KY) (i:Int),(match r57_0 a l i with | .k0 .. =>(0:Int) | .k1=>3 | .k2=>6)=(match r54_0 a l i with | .k0 .. =>0 | .k1=>3 | .k2=>6)
  |[],i=>rfl
  |x::l,i=>by
    have ih:=seen_loop a l (i+1)
    simp only[r57_0,r54_0,key_eq,contains_eq]
    by_cases h1:(!(m55 x))=true
    · simp only[if_pos h1]
    · simp only[if_neg h1]
      by_cases h2:m85 (List.take (Int.toNat i) a) x=true
      · simp only[if_pos h2]
      · simp only[if_neg h2]; exact ih
theorem seen_eq (a:List K_KY):m57 a=m54 a:=by
  unfold m57 m54
  by_cases h:(decide (((List.length (List.map b_KY a)):Int) > 40))=true
  · rw[if_pos h,if_pos h]
  · rw[if_neg h,if_neg h]; exact seen_loop a a 0
theorem find_loop (a b:List K_J) (k:Int):∀(l:List K_J) (i:Int),(match r1011600_0 a k l i with | .k0 .. =>(-1:Int) | .k1 w=>w)=(match r86_0 b k l i with | .k0 .. =>(-1:Int) | .k1 w=>w)
  |[],i=>rfl
  |x::l,i=>by
    simp only[r1011600_0,r86_0]
    by_cases h:(x.f0==k)=true
    · rw[if_pos h,if_pos h]
    · rw[if_neg h,if_neg h]; exact find_loop a b k l _
theorem find_eq (a:List K_J) (k:Int):m1011600 a k=m86 a k:=by
  unfold m1011600 m86
  exact find_loop a a k a 0
theorem rI1 (n:Nat) (a:Int):r119_0 n [a]=.k0 [a] false:=by cases n<;>rfl
theorem rS1 (n:Nat) (a:Int):r114_0 n [a]=.k0 [a] false:=by cases n<;>rfl
theorem rI2 (n:Nat) (l:List Int) (h:2≤l.length):r119_0 (n+1) l=r119_0 n (m107 l):=by
  rw[r119_0,if_pos (by simp only[decide_eq_true_eq,List.length_map]; omega)]
theorem rS2 (n:Nat) (l:List Int) (h:2≤l.length):r114_0 (n+1) l=r114_0 n (m98 l):=by
  rw[r114_0,if_pos (by simp only[decide_eq_true_eq,List.length_map]; omega)]
theorem root_eq {l:List Int} (h0:1≤l.length) (h1:l.length≤4):m119 l=m114 l:=by
  unfold m119 m114
  match l,h0,h1 with
  |[a],_,_=>rw[rI1,rS1]
  |[a,b],_,_=>
    rw[show [a,b].length=1+1 from rfl,rI2 _ _ (by simp),rS2 _ _ (by simp),av2,ab2,rI1,rS1]
  |[a,b,c],_,_=>
    rw[show [a,b,c].length=1+1+1 from rfl,rI2 _ _ (by simp),rS2 _ _ (by simp),av3,ab3,rI2 _ _ (by simp),rS2 _ _ (by simp),av2,ab2,rI1,rS1]
  |[a,b,c,d],_,_=>
    rw[show [a,b,c,d].length=1+1+1+1 from rfl,rI2 _ _ (by simp),rS2 _ _ (by simp),av4,ab4,rI2 _ _ (by simp),rS2 _ _ (by simp),av2,ab2,rI1,rS1]
  |[],h,_=>simp at h
  |_::_::_::_::_::_,_,h=>simp at h
theorem header_eq (b:K_G) (h1:1≤List.length b.f4) (h4:List.length b.f4≤4) (hs:∀z∈b.f4,SmT z):m91 b=m87 b:=by
  unfold m91 m87
  rw[si_eq,sums_eq b hs,root_eq (by rw[ln70]; exact h1) (by rw[ln70]; exact h4)]
theorem target_eq {n:Int} (h1:1≤n) (h2:n≤1023):m92 n=m88 n:=by
  have e:=Int.tdiv_eq_ediv_of_nonneg (a:=n) (b:=256) (by omega)
  have em:=Int.tmod_eq_emod_of_nonneg (a:=n) (b:=256) (by omega)
  have hr:0≤n % 256∧n % 256 < 256:=by omega
  have hq:n / 256=0∨n / 256=1∨n / 256=2∨n / 256=3:=by omega
  unfold m92 m88
  rw[e,em]
  generalize n % 256=r at*
  rcases hq with h | h | h | h<;>rw[h]
  · rw[show (min (Int.toNat (IntKind.wrap .i64 (7*(IntKind.wrap .i64 0)))) (IntKind.bits .i64))=0 from rfl,show (min (Int.toNat (IntKind.wrap .u64 ((IntKind.wrap .i64 (7*(IntKind.wrap .i64 0)))))) (IntKind.bits .i64))=0 from rfl,show (2:Int) ^ 0=1 from rfl]
    simp(disch:=omega) only[wrap64d]
    omega
  · rw[show (min (Int.toNat (IntKind.wrap .i64 (7*(IntKind.wrap .i64 1)))) (IntKind.bits .i64))=7 from rfl,show (min (Int.toNat (IntKind.wrap .u64 ((IntKind.wrap .i64 (7*(IntKind.wrap .i64 1)))))) (IntKind.bits .i64))=7 from rfl,show (2:Int) ^ 7=128 from rfl]
    simp(disch:=omega) only[wrap64d]
    omega
  · rw[show (min (Int.toNat (IntKind.wrap .i64 (7*(IntKind.wrap .i64 2)))) (IntKind.bits .i64))=14 from rfl,show (min (Int.toNat (IntKind.wrap .u64 ((IntKind.wrap .i64 (7*(IntKind.wrap .i64 2)))))) (IntKind.bits .i64))=14 from rfl,show (2:Int) ^ 14=16384 from rfl]
    simp(disch:=omega) only[wrap64d]
    omega
  · rw[show (min (Int.toNat (IntKind.wrap .i64 (7*(IntKind.wrap .i64 3)))) (IntKind.bits .i64))=21 from rfl,show (min (Int.toNat (IntKind.wrap .u64 ((IntKind.wrap .i64 (7*(IntKind.wrap .i64 3)))))) (IntKind.bits .i64))=21 from rfl,show (2:Int) ^ 21=2097152 from rfl]
    simp(disch:=omega) only[wrap64d]
    omega
theorem win_iff (t w W:Int):((!(m36 t w W))=true)↔(t < w∨t > W):=by
  have q:=l1In_iff t w W
  cases h:m36 t w W with
  |true=>have:=q.1 h; simp; omega
  |false=>
    have:¬(w≤t∧t≤W):=fun x=>(by rw[q.2 x] at h; cases h)
    simp; omega
theorem check_eq (a:List K_J) (s:List K_KY) (k:K_KY) (lv:Int):m60 a s k lv=m56 a s k lv:=by
  unfold m60 m56
  simp only[find_eq,contains_eq,share_eq,in_eq]
  by_cases h0:(decide ((m86 a k.f0) < 0))=true
  · rw[if_pos h0,if_pos h0]
  rw[if_neg h0,if_neg h0]
  have wi:=win_iff k.f2 ((List.getD a (Int.toNat (m86 a k.f0)) (K_J.mk 0 0 0 0 0 [])).f2) (IntKind.wrap .i64 (((List.getD a (Int.toNat (m86 a k.f0)) (K_J.mk 0 0 0 0 0 [])).f2)+60))
  by_cases h1:(decide (k.f2 <((List.getD a (Int.toNat (m86 a k.f0)) (K_J.mk 0 0 0 0 0 [])).f2)))=true
  · rw[if_pos h1,if_pos (wi.2 (.inl (by simpa using h1)))]
  rw[if_neg h1]
  by_cases h2:(decide (k.f2 >(IntKind.wrap .i64 (((List.getD a (Int.toNat (m86 a k.f0)) (K_J.mk 0 0 0 0 0 [])).f2)+60))))=true
  · rw[if_pos h2,if_pos (wi.2 (.inr (by simpa using h2)))]
  rw[if_neg h2,if_neg (fun q=>(wi.1 q).elim (fun q=>h1 (by simpa using q)) (fun q=>h2 (by simpa using q)))]
  by_cases h3:m85 s k=true
  · rw[if_pos h3,if_pos h3]
  rw[if_neg h3,if_neg h3]
  by_cases h4:(((m7 (List.getD a (Int.toNat (m86 a k.f0)) (K_J.mk 0 0 0 0 0 [])) k.f1 k.f2 k.f3).f0) !=0)=true
  · rw[if_pos h4,if_pos h4]
  rw[if_neg h4,if_neg h4]
  have z:=sb7 (nz0 h4)
  have zb:=bs38 z
  have zt:=bt38 z
  rw[header_eq _ zb.1 zb.2.1 zb.2.2,target_eq zt.1 zt.2]
theorem shares_eq (a:List K_J) (s:List K_KY) (k:K_KY) (lv:Int):m28 a s k lv=m25 a s k lv:=by
  unfold m28 m25
  simp only[jobs_eq,seen_eq,key_eq,in_eq,check_eq]

theorem sz_i {a:List Int} {v:Int} (h:List.length a*8≤140737488351232) (h0:0≤v) (h1:v≤1099511627776):m166 a v < 0∨(5*m166 a v+((a.map wt_i).sum:Nat)≤5*v∧m166 a v≤v):=by
  unfold m166
  rw[List.length_map,wrap64 (by omega),wts_i]
  split
  · left; omega
  · right; omega
theorem sz_szIn {x:K_N} {v:Int} (h:ok_N x) (h0:0≤v) (h1:v≤1099511627776):m147 x v < 0∨(5*m147 x v+(wt_N x:Nat)≤5*v+5∧m147 x v≤v):=by
  simp only[wt_N]
  simp only[ok_N] at h
  unfold m147
  rcases sz_i (a:=x.f2) (v:=v) h (by omega) (by omega) with q0 |⟨q0,p0⟩
  · rw[if_pos (by simpa using q0)]; exact .inl (by decide)
  by_cases c0:(decide (m166 x.f2 v < 0))=true
  · rw[if_pos c0]; exact .inl (by decide)
  rw[if_neg c0]; simp only[decide_eq_true_eq] at c0
  right; omega
theorem szl_szInS (a:List K_N):∀(l:List K_N) (i v:Int),(∀z∈l,ok_N z)→0≤v→v≤1099511627776→(match r120_0 a l i v with | .k0 w .. =>w | .k1=>(-1:Int)) < 0∨(5*(match r120_0 a l i v with | .k0 w .. =>w | .k1=>(-1:Int))+((l.map wt_N).sum:Nat)≤5*v+5*l.length∧(match r120_0 a l i v with | .k0 w .. =>w | .k1=>(-1:Int))≤v)
  |[],i,v,_,h0,h1=>.inr (by simp only[r120_0,List.map_nil,List.sum_nil,List.length_nil]; omega)
  |x::l,i,v,h,h0,h1=>by
    have hx:=sz_szIn (x:=x) (v:=v) (h x (List.mem_cons_self ..)) h0 h1
    simp only[r120_0,List.map_cons,List.sum_cons,List.length_cons]
    by_cases hc:(decide (m147 x v < 0))=true
    · rw[if_pos hc]; exact .inl (by decide)
    · rw[if_neg hc]
      simp only[decide_eq_true_eq] at hc
      rcases hx with hx |⟨hx1,hx2⟩
      · omega
      rcases szl_szInS a l (i+1) (m147 x v) (fun z hz=>h z (List.mem_cons_of_mem _ hz)) (by omega) (by omega) with h2 |⟨h2,h3⟩
      · exact .inl h2
      · right
        generalize (match r120_0 a l (i+1) (m147 x v) with | .k0 w .. =>w | .k1=>(-1:Int))=y at*
        omega
theorem sz_szInS {a:List K_N} {v:Int} (h:List.length a*40≤140737488351232) (hz:∀z∈a,ok_N z) (h0:0≤v) (h1:v≤1099511627776):m120 a v < 0∨(5*m120 a v+((a.map wt_N).sum:Nat)≤5*v∧m120 a v≤v):=by
  unfold m120
  rw[List.length_map,wrap64 (by omega)]
  by_cases hc:(decide (v - (a.length:Int) < 0))=true
  · rw[if_pos hc]; exact .inl (by decide)
  · rw[if_neg hc]
    simp only[decide_eq_true_eq] at hc
    have q:=szl_szInS a a 0 (v - (a.length:Int)) hz (by omega) (by omega)
    cases hr:r120_0 a a 0 (v - (a.length:Int)) with
    |k1=>exact .inl (by decide)
    |k0 w j b=>rw[hr] at q; simp only[] at q⊢; omega
theorem sz_szOut {x:K_U} {v:Int} (h:ok_U x) (h0:0≤v) (h1:v≤1099511627776):m148 x v < 0∨(5*m148 x v+(wt_U x:Nat)≤5*v+5∧m148 x v≤v):=by
  simp only[wt_U]
  simp only[ok_U] at h
  unfold m148
  rcases sz_i (a:=x.f1) (v:=v) h (by omega) (by omega) with q0 |⟨q0,p0⟩
  · rw[if_pos (by simpa using q0)]; exact .inl (by decide)
  by_cases c0:(decide (m166 x.f1 v < 0))=true
  · rw[if_pos c0]; exact .inl (by decide)
  rw[if_neg c0]; simp only[decide_eq_true_eq] at c0
  right; omega
theorem szl_szOutS (a:List K_U):∀(l:List K_U) (i v:Int),(∀z∈l,ok_U z)→0≤v→v≤1099511627776→(match r121_0 a l i v with | .k0 w .. =>w | .k1=>(-1:Int)) < 0∨(5*(match r121_0 a l i v with | .k0 w .. =>w | .k1=>(-1:Int))+((l.map wt_U).sum:Nat)≤5*v+5*l.length∧(match r121_0 a l i v with | .k0 w .. =>w | .k1=>(-1:Int))≤v)
  |[],i,v,_,h0,h1=>.inr (by simp only[r121_0,List.map_nil,List.sum_nil,List.length_nil]; omega)
  |x::l,i,v,h,h0,h1=>by
    have hx:=sz_szOut (x:=x) (v:=v) (h x (List.mem_cons_self ..)) h0 h1
    simp only[r121_0,List.map_cons,List.sum_cons,List.length_cons]
    by_cases hc:(decide (m148 x v < 0))=true
    · rw[if_pos hc]; exact .inl (by decide)
    · rw[if_neg hc]
      simp only[decide_eq_true_eq] at hc
      rcases hx with hx |⟨hx1,hx2⟩
      · omega
      rcases szl_szOutS a l (i+1) (m148 x v) (fun z hz=>h z (List.mem_cons_of_mem _ hz)) (by omega) (by omega) with h2 |⟨h2,h3⟩
      · exact .inl h2
      · right
        generalize (match r121_0 a l (i+1) (m148 x v) with | .k0 w .. =>w | .k1=>(-1:Int))=y at*
        omega
theorem sz_szOutS {a:List K_U} {v:Int} (h:List.length a*32≤140737488351232) (hz:∀z∈a,ok_U z) (h0:0≤v) (h1:v≤1099511627776):m121 a v < 0∨(5*m121 a v+((a.map wt_U).sum:Nat)≤5*v∧m121 a v≤v):=by
  unfold m121
  rw[List.length_map,wrap64 (by omega)]
  by_cases hc:(decide (v - (a.length:Int) < 0))=true
  · rw[if_pos hc]; exact .inl (by decide)
  · rw[if_neg hc]
    simp only[decide_eq_true_eq] at hc
    have q:=szl_szOutS a a 0 (v - (a.length:Int)) hz (by omega) (by omega)
    cases hr:r121_0 a a 0 (v - (a.length:Int)) with
    |k1=>exact .inl (by decide)
    |k0 w j b=>rw[hr] at q; simp only[] at q⊢; omega
theorem sz_szTx {x:K_T} {v:Int} (h:ok_T x) (h0:0≤v) (h1:v≤1099511627776):m94 x v < 0∨(5*m94 x v+(wt_T x:Nat)≤5*v+5∧m94 x v≤v):=by
  simp only[wt_T]
  simp only[ok_T] at h
  unfold m94
  rcases sz_szInS (a:=x.f1) (v:=v) h.1 h.2.1 (by omega) (by omega) with q0 |⟨q0,p0⟩
  · rw[if_pos (by simpa using q0)]; exact .inl (by decide)
  by_cases c0:(decide (m120 x.f1 v < 0))=true
  · rw[if_pos c0]; exact .inl (by decide)
  rw[if_neg c0]; simp only[decide_eq_true_eq] at c0
  rcases sz_szOutS (a:=x.f2) (v:=(m120 x.f1 v)) h.2.2.1 h.2.2.2 (by omega) (by omega) with q1 |⟨q1,p1⟩
  · rw[if_pos (by simpa using q1)]; exact .inl (by decide)
  by_cases c1:(decide (m121 x.f2 ((m120 x.f1 v)) < 0))=true
  · rw[if_pos c1]; exact .inl (by decide)
  rw[if_neg c1]; simp only[decide_eq_true_eq] at c1
  right; omega
theorem szl_szTxS (a:List K_T):∀(l:List K_T) (i v:Int),(∀z∈l,ok_T z)→0≤v→v≤1099511627776→(match r63_0 a l i v with | .k0 w .. =>w | .k1=>(-1:Int)) < 0∨(5*(match r63_0 a l i v with | .k0 w .. =>w | .k1=>(-1:Int))+((l.map wt_T).sum:Nat)≤5*v+5*l.length∧(match r63_0 a l i v with | .k0 w .. =>w | .k1=>(-1:Int))≤v)
  |[],i,v,_,h0,h1=>.inr (by simp only[r63_0,List.map_nil,List.sum_nil,List.length_nil]; omega)
  |x::l,i,v,h,h0,h1=>by
    have hx:=sz_szTx (x:=x) (v:=v) (h x (List.mem_cons_self ..)) h0 h1
    simp only[r63_0,List.map_cons,List.sum_cons,List.length_cons]
    by_cases hc:(decide (m94 x v < 0))=true
    · rw[if_pos hc]; exact .inl (by decide)
    · rw[if_neg hc]
      simp only[decide_eq_true_eq] at hc
      rcases hx with hx |⟨hx1,hx2⟩
      · omega
      rcases szl_szTxS a l (i+1) (m94 x v) (fun z hz=>h z (List.mem_cons_of_mem _ hz)) (by omega) (by omega) with h2 |⟨h2,h3⟩
      · exact .inl h2
      · right
        generalize (match r63_0 a l (i+1) (m94 x v) with | .k0 w .. =>w | .k1=>(-1:Int))=y at*
        omega
theorem sz_szTxS {a:List K_T} {v:Int} (h:List.length a*56≤140737488351232) (hz:∀z∈a,ok_T z) (h0:0≤v) (h1:v≤1099511627776):m63 a v < 0∨(5*m63 a v+((a.map wt_T).sum:Nat)≤5*v∧m63 a v≤v):=by
  unfold m63
  rw[List.length_map,wrap64 (by omega)]
  by_cases hc:(decide (v - (a.length:Int) < 0))=true
  · rw[if_pos hc]; exact .inl (by decide)
  · rw[if_neg hc]
    simp only[decide_eq_true_eq] at hc
    have q:=szl_szTxS a a 0 (v - (a.length:Int)) hz (by omega) (by omega)
    cases hr:r63_0 a a 0 (v - (a.length:Int)) with
    |k1=>exact .inl (by decide)
    |k0 w j b=>rw[hr] at q; simp only[] at q⊢; omega
theorem sz_szJob {x:K_J} {v:Int} (h:ok_J x) (h0:0≤v) (h1:v≤1099511627776):m6 x v < 0∨(5*m6 x v+(wt_J x:Nat)≤5*v+5∧m6 x v≤v):=by
  simp only[ok_J] at h
  simp only[wt_J]
  unfold m6 m34
  rcases sz_szTxS (a:=x.f5) (v:=v) h.1 h.2 (by omega) (by omega) with q0 |⟨q0,p0⟩
  · left;(repeat' split)<;>omega
  · by_cases c0:(decide (m63 x.f5 v < 0))=true
    · left;(repeat' split)<;>simp only[decide_eq_true_eq] at*<;>omega
    · right
      simp only[if_neg c0]
      simp only[decide_eq_true_eq] at c0
      omega

theorem szl_szJobS (a:List K_J):∀(l:List K_J) (i v:Int),(∀z∈l,ok_J z)→0≤v→v≤1099511627776→(match r15_0 a l i v with | .k0 w .. =>w | .k1=>(-1:Int)) < 0∨(5*(match r15_0 a l i v with | .k0 w .. =>w | .k1=>(-1:Int))+((l.map wt_J).sum:Nat)≤5*v+5*l.length∧(match r15_0 a l i v with | .k0 w .. =>w | .k1=>(-1:Int))≤v)
  |[],i,v,_,h0,h1=>.inr (by simp only[r15_0,List.map_nil,List.sum_nil,List.length_nil]; omega)
  |x::l,i,v,h,h0,h1=>by
    have hx:=sz_szJob (x:=x) (v:=v) (h x (List.mem_cons_self ..)) h0 h1
    simp only[r15_0,List.map_cons,List.sum_cons,List.length_cons]
    by_cases hc:(decide (m6 x v < 0))=true
    · rw[if_pos hc]; exact .inl (by decide)
    · rw[if_neg hc]
      simp only[decide_eq_true_eq] at hc
      rcases hx with hx |⟨hx1,hx2⟩
      · omega
      rcases szl_szJobS a l (i+1) (m6 x v) (fun z hz=>h z (List.mem_cons_of_mem _ hz)) (by omega) (by omega) with h2 |⟨h2,h3⟩
      · exact .inl h2
      · right
        generalize (match r15_0 a l (i+1) (m6 x v) with | .k0 w .. =>w | .k1=>(-1:Int))=y at*
        omega
theorem sz_szJobS {a:List K_J} {v:Int} (h:List.length a*64≤140737488351232) (hz:∀z∈a,ok_J z) (h0:0≤v) (h1:v≤1099511627776):m15 a v < 0∨(5*m15 a v+((a.map wt_J).sum:Nat)≤5*v∧m15 a v≤v):=by
  unfold m15
  rw[List.length_map,wrap64 (by omega)]
  by_cases hc:(decide (v - (a.length:Int) < 0))=true
  · rw[if_pos hc]; exact .inl (by decide)
  · rw[if_neg hc]
    simp only[decide_eq_true_eq] at hc
    have q:=szl_szJobS a a 0 (v - (a.length:Int)) hz (by omega) (by omega)
    cases hr:r15_0 a a 0 (v - (a.length:Int)) with
    |k1=>exact .inl (by decide)
    |k0 w j b=>rw[hr] at q; simp only[] at q⊢; omega

theorem wt_SmT {z:K_T} (h:SmT z):wt_T z≤100:=by
  obtain⟨h1,h2,h3,h4⟩:=h
  have s:∀l:List K_N,(∀x∈l,List.length x.f2≤8)→(l.map wt_N).sum≤10*l.length:=by
    intro l
    induction l with
    |nil=>intro _; simp
    |cons x l ih=>
      intro h
      have hx:=h x (List.mem_cons_self ..)
      have:=ih fun u hu=>h u (List.mem_cons_of_mem _ hu)
      simp only[List.map_cons,List.sum_cons,List.length_cons,wt_N,wts_i] at this⊢
      omega
  have s2:∀l:List K_U,(∀x∈l,List.length x.f1≤12)→(l.map wt_U).sum≤13*l.length:=by
    intro l
    induction l with
    |nil=>intro _; simp
    |cons x l ih=>
      intro h
      have hx:=h x (List.mem_cons_self ..)
      have:=ih fun u hu=>h u (List.mem_cons_of_mem _ hu)
      simp only[List.map_cons,List.sum_cons,List.length_cons,wt_U,wts_i] at this⊢
      omega
  have q1:=s _ h2
  have q2:=s2 _ h4
  simp only[wt_T]
  omega
theorem wt_txs:∀l:List K_T,(∀z∈l,SmT z)→(l.map wt_T).sum≤100*l.length
  |[],_=>by simp
  |x::l,h=>by
    have hx:=wt_SmT (h x (List.mem_cons_self ..))
    have:=wt_txs l fun u hu=>h u (List.mem_cons_of_mem _ hu)
    simp only[List.map_cons,List.sum_cons,List.length_cons]
    omega

theorem wt_share (a:K_J) (e t n:Int):wt_J (m9 a e t n)≤500:=by
  by_cases h0:((m40 [a]) !=0)=true
  · unfold m9; rw[if_pos h0]; simp[wt_J]
  · have hj:SmJ a:=(js40 (by simpa using h0)).2 a (List.mem_singleton.2 rfl)
    have q1:=ob42 (a1:=e) (a2:=t) (a3:=n) hj
    have q2:=wt_txs _ q1.2
    unfold m9; rw[if_neg h0]
    (repeat' split)<;>simp only[wt_J,List.map_nil,List.sum_nil]<;>omega

theorem mj_loop (a:List K_J):∀(l:List K_J) (i:Int) (v:List K_J) (k:Int),0≤k→k+((l.map wt_J).sum:Nat)≤4611686018427387904→
    k≤(match r21_0 a l i v k with | .k0 _ q .. =>q)∧(match r21_0 a l i v k with | .k0 _ q .. =>q)≤k+((l.map wt_J).sum:Nat)
  |[],i,v,k,h0,h1=>⟨Int.le_refl _,by simp[r21_0]⟩
  |x::l,i,v,k,h0,h1=>by
    simp only[List.map_cons,List.sum_cons,wt_J] at h1⊢
    have q:=mh51 x.f5 (k+1+1+1+1+1) (by omega) (by omega)
    simp(disch:=omega) only[r21_0,wrap64d]
    have ih:=mj_loop a l (i+1) (List.set v (Int.toNat i) (K_J.mk k (k+1) (k+1+1) (k+1+1+1) (k+1+1+1+1) (o51_0 x.f5 (k+1+1+1+1+1)))) (m51 x.f5 (k+1+1+1+1+1)) (by omega) (by omega)
    exact⟨Int.le_trans (by omega) ih.1,Int.le_trans ih.2 (by omega)⟩
theorem mj_le (a:List K_J) (k:Int) (h0:0≤k) (h1:k+((a.map wt_J).sum:Nat)≤4611686018427387904):k≤m21 a k∧m21 a k≤k+((a.map wt_J).sum:Nat):=
  mj_loop a a 0 a k h0 h1
theorem wt_check (a:List K_J) (s:List K_KY) (k:K_KY) (lv:Int):wt_SR (m25 a s k lv)≤1000+4*s.length:=by
  unfold m25
  split
  · simp only[wt_SR,List.map_nil,List.sum_nil]; omega
  split
  · simp only[wt_SR,List.map_nil,List.sum_nil]; omega
  split
  · simp only[wt_SR,List.map_nil,List.sum_nil]; omega
  split
  · simp only[wt_SR,List.map_nil,List.sum_nil]; omega
  have q:=wt_share (List.getD a (Int.toNat (m86 a k.f0)) (K_J.mk 0 0 0 0 0 [])) k.f1 k.f2 k.f3
  rw[share_eq] at q
  simp only[wt_J] at q
  unfold m56
  (repeat' split)<;>simp only[wt_SR,List.map_nil,List.sum_nil,wts_KY,List.length_append,List.length_cons,List.length_nil]<;>omega
theorem pure (a0:(List K_J)) (a1:(List K_KY)) (a2:K_KY) (a3:Int) (w0:wf_JL a0) (w1:wf_LiiiiE a1) (w2:wf_KY a2) (w3:wf_i a3):m5 a0 a1 a2 a3=true:=by
  have hw:=sz_szJobS (a:=a0) (v:=1048576) w0.1 (fun z hz=>ok_wf_J z (w0.2 z hz)) (by omega) (by omega)
  have hm:=mh32 (m25 a0 a1 a2 a3) 1 (by omega) (by have:=wt_check a0 a1 a2 a3; have:=w1.1; omega)
  unfold m5
  by_cases h0:(decide ((m15 a0 1048576) < 0))=true
  · rw[if_pos h0]
  rw[if_neg h0]
  by_cases h1:(decide ((m24 a1 (m15 a0 1048576)) < 0))=true
  · rw[if_pos h1]
  rw[if_neg h1]
  simp only[decide_eq_true_eq] at h0 h1
  have hj:=mj_le a0 1 (by omega) (by omega)
  have hm0:=mh31 a1 (m21 a0 1) (by omega) (by rw[wts_KY]; have:=w1.1; omega)
  simp only[eqd30,eqd20,eqd29,shares_eq,hm.1] at hm⊢
  (repeat' split)<;>(first | rfl |(simp_all; done) |(simp only[decide_eq_true_eq] at*; omega))

end Go.Proofs.YtmdocdnidilaiaaGreat.CheckShare
