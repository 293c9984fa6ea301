/- Tables of the program. The table of types is right. The table of functions is right. The calls whose values are known ahead are right: words that are added and subtracted, and a float's bits. Sums by which damage is seen: plain law, no program in sight. The package crc at this program: half a byte,  -/
import Derived.Test.YtlnonecibpjcoaaGreatDoorEd
import Derived.Test.YtlnonecibpjcoaaGreatDoorProg
import Derived.Test.YtlnonecibpjcoaaGreatDoorEe
import Derived.WalkKit
import Derived.Handy
import Derived.KernelRfl
import Derived.Laws.Bits64b
import Derived.Test.YtlnonecibpjcoaaGreatDoorAb
import Derived.Laws.BitsAllLaws
import Derived.Test.YtlnonecibpjcoaaGreatDoorRa
import Derived.Test.YtlnonecibpjcoaaGreatDoorRe
set_option linter.unusedSimpArgs false
set_option linter.unusedVariables false
set_option linter.unusedSectionVars false
namespace Go.Proofs.Tryz
open Go.Proofs.Ex

/-- a type's entry, out of the program's own rows -/
noncomputable def tO (i d : TypeInfo) : TI := ⟨i.size, d.desc.isRow, i.zero.getD .nilIface, d.desc, i.bytes⟩
noncomputable def xfs : Tr Func := (.node (.node (.node (.node (.node (.node (.node (.node (.node (.node .nil (some f511) .nil) (some f255) .nil) (some f127) (.node (.node .nil (some f639) .nil) (some f383) .nil)) (some f63) (.node (.node (.node .nil (some f575) .nil) (some f319) .nil) (some f191) (.node (.node .nil (some f703) .nil) (some f447) .nil))) (some f31) (.node (.node (.node (.node .nil (some f543) .nil) (some f287) .nil) (some f159) (.node (.node .nil (some f671) .nil) (some f415) .nil)) (some f95) (.node (.node (.node .nil (some f607) .nil) (some f351) .nil) (some f223) (.node (.node .nil (some f735) .nil) (some f479) .nil)))) (some f15) (.node (.node (.node (.node (.node .nil (some f527) .nil) (some f271) .nil) (some f143) (.node (.node .nil (some f655) .nil) (some f399) .nil)) (some f79) (.node (.node (.node .nil (some f591) .nil) (some f335) .nil) (some f207) (.node (.node .nil (some f719) .nil) (some f463) .nil))) (some f47) (.node (.node (.node (.node .nil (some f559) .nil) (some f303) .nil) (some f175) (.node (.node .nil (some f687) .nil) (some f431) .nil)) (some f111) (.node (.node (.node .nil (some f623) .nil) (some f367) .nil) (some f239) (.node .nil (some f495) .nil))))) (some f7) (.node (.node (.node (.node (.node (.node .nil (some f519) .nil) (some f263) .nil) (some f135) (.node (.node .nil (some f647) .nil) (some f391) .nil)) (some f71) (.node (.node (.node .nil (some f583) .nil) (some f327) .nil) (some f199) (.node (.node .nil (some f711) .nil) (some f455) .nil))) (some f39) (.node (.node (.node (.node .nil (some f551) .nil) (some f295) .nil) (some f167) (.node (.node .nil (some f679) .nil) (some f423) .nil)) (some f103) (.node (.node (.node .nil (some f615) .nil) (some f359) .nil) (some f231) (.node (.node .nil (some f743) .nil) (some f487) .nil)))) (some f23) (.node (.node (.node (.node (.node .nil (some f535) .nil) (some f279) .nil) (some f151) (.node (.node .nil (some f663) .nil) (some f407) .nil)) (some f87) (.node (.node (.node .nil (some f599) .nil) (some f343) .nil) (some f215) (.node (.node .nil (some f727) .nil) (some f471) .nil))) (some f55) (.node (.node (.node (.node .nil (some f567) .nil) (some f311) .nil) (some f183) (.node (.node .nil (some f695) .nil) (some f439) .nil)) (some f119) (.node (.node (.node .nil (some f631) .nil) (some f375) .nil) (some f247) (.node .nil (some f503) .nil)))))) (some f3) (.node (.node (.node (.node (.node (.node (.node .nil (some f515) .nil) (some f259) .nil) (some f131) (.node (.node .nil (some f643) .nil) (some f387) .nil)) (some f67) (.node (.node (.node .nil (some f579) .nil) (some f323) .nil) (some f195) (.node (.node .nil (some f707) .nil) (some f451) .nil))) (some f35) (.node (.node (.node (.node .nil (some f547) .nil) (some f291) .nil) (some f163) (.node (.node .nil (some f675) .nil) (some f419) .nil)) (some f99) (.node (.node (.node .nil (some f611) .nil) (some f355) .nil) (some f227) (.node (.node .nil (some f739) .nil) (some f483) .nil)))) (some f19) (.node (.node (.node (.node (.node .nil (some f531) .nil) (some f275) .nil) (some f147) (.node (.node .nil (some f659) .nil) (some f403) .nil)) (some f83) (.node (.node (.node .nil (some f595) .nil) (some f339) .nil) (some f211) (.node (.node .nil (some f723) .nil) (some f467) .nil))) (some f51) (.node (.node (.node (.node .nil (some f563) .nil) (some f307) .nil) (some f179) (.node (.node .nil (some f691) .nil) (some f435) .nil)) (some f115) (.node (.node (.node .nil (some f627) .nil) (some f371) .nil) (some f243) (.node .nil (some f499) .nil))))) (some f11) (.node (.node (.node (.node (.node (.node .nil (some f523) .nil) (some f267) .nil) (some f139) (.node (.node .nil (some f651) .nil) (some f395) .nil)) (some f75) (.node (.node (.node .nil (some f587) .nil) (some f331) .nil) (some f203) (.node (.node .nil (some f715) .nil) (some f459) .nil))) (some f43) (.node (.node (.node (.node .nil (some f555) .nil) (some f299) .nil) (some f171) (.node (.node .nil (some f683) .nil) (some f427) .nil)) (some f107) (.node (.node (.node .nil (some f619) .nil) (some f363) .nil) (some f235) (.node .nil (some f491) .nil)))) (some f27) (.node (.node (.node (.node (.node .nil (some f539) .nil) (some f283) .nil) (some f155) (.node (.node .nil (some f667) .nil) (some f411) .nil)) (some f91) (.node (.node (.node .nil (some f603) .nil) (some f347) .nil) (some f219) (.node (.node .nil (some f731) .nil) (some f475) .nil))) (some f59) (.node (.node (.node (.node .nil (some f571) .nil) (some f315) .nil) (some f187) (.node (.node .nil (some f699) .nil) (some f443) .nil)) (some f123) (.node (.node (.node .nil (some f635) .nil) (some f379) .nil) (some f251) (.node .nil (some f507) .nil))))))) (some f1) (.node (.node (.node (.node (.node (.node (.node (.node .nil (some f513) .nil) (some f257) .nil) (some f129) (.node (.node .nil (some f641) .nil) (some f385) .nil)) (some f65) (.node (.node (.node .nil (some f577) .nil) (some f321) .nil) (some f193) (.node (.node .nil (some f705) .nil) (some f449) .nil))) (some f33) (.node (.node (.node (.node .nil (some f545) .nil) (some f289) .nil) (some f161) (.node (.node .nil (some f673) .nil) (some f417) .nil)) (some f97) (.node (.node (.node .nil (some f609) .nil) (some f353) .nil) (some f225) (.node (.node .nil (some f737) .nil) (some f481) .nil)))) (some f17) (.node (.node (.node (.node (.node .nil (some f529) .nil) (some f273) .nil) (some f145) (.node (.node .nil (some f657) .nil) (some f401) .nil)) (some f81) (.node (.node (.node .nil (some f593) .nil) (some f337) .nil) (some f209) (.node (.node .nil (some f721) .nil) (some f465) .nil))) (some f49) (.node (.node (.node (.node .nil (some f561) .nil) (some f305) .nil) (some f177) (.node (.node .nil (some f689) .nil) (some f433) .nil)) (some f113) (.node (.node (.node .nil (some f625) .nil) (some f369) .nil) (some f241) (.node .nil (some f497) .nil))))) (some f9) (.node (.node (.node (.node (.node (.node .nil (some f521) .nil) (some f265) .nil) (some f137) (.node (.node .nil (some f649) .nil) (some f393) .nil)) (some f73) (.node (.node (.node .nil (some f585) .nil) (some f329) .nil) (some f201) (.node (.node .nil (some f713) .nil) (some f457) .nil))) (some f41) (.node (.node (.node (.node .nil (some f553) .nil) (some f297) .nil) (some f169) (.node (.node .nil (some f681) .nil) (some f425) .nil)) (some f105) (.node (.node (.node .nil (some f617) .nil) (some f361) .nil) (some f233) (.node .nil (some f489) .nil)))) (some f25) (.node (.node (.node (.node (.node .nil (some f537) .nil) (some f281) .nil) (some f153) (.node (.node .nil (some f665) .nil) (some f409) .nil)) (some f89) (.node (.node (.node .nil (some f601) .nil) (some f345) .nil) (some f217) (.node (.node .nil (some f729) .nil) (some f473) .nil))) (some f57) (.node (.node (.node (.node .nil (some f569) .nil) (some f313) .nil) (some f185) (.node (.node .nil (some f697) .nil) (some f441) .nil)) (some f121) (.node (.node (.node .nil (some f633) .nil) (some f377) .nil) (some f249) (.node .nil (some f505) .nil)))))) (some f5) (.node (.node (.node (.node (.node (.node (.node .nil (some f517) .nil) (some f261) .nil) (some f133) (.node (.node .nil (some f645) .nil) (some f389) .nil)) (some f69) (.node (.node (.node .nil (some f581) .nil) (some f325) .nil) (some f197) (.node (.node .nil (some f709) .nil) (some f453) .nil))) (some f37) (.node (.node (.node (.node .nil (some f549) .nil) (some f293) .nil) (some f165) (.node (.node .nil (some f677) .nil) (some f421) .nil)) (some f101) (.node (.node (.node .nil (some f613) .nil) (some f357) .nil) (some f229) (.node (.node .nil (some f741) .nil) (some f485) .nil)))) (some f21) (.node (.node (.node (.node (.node .nil (some f533) .nil) (some f277) .nil) (some f149) (.node (.node .nil (some f661) .nil) (some f405) .nil)) (some f85) (.node (.node (.node .nil (some f597) .nil) (some f341) .nil) (some f213) (.node (.node .nil (some f725) .nil) (some f469) .nil))) (some f53) (.node (.node (.node (.node .nil (some f565) .nil) (some f309) .nil) (some f181) (.node (.node .nil (some f693) .nil) (some f437) .nil)) (some f117) (.node (.node (.node .nil (some f629) .nil) (some f373) .nil) (some f245) (.node .nil (some f501) .nil))))) (some f13) (.node (.node (.node (.node (.node (.node .nil (some f525) .nil) (some f269) .nil) (some f141) (.node (.node .nil (some f653) .nil) (some f397) .nil)) (some f77) (.node (.node (.node .nil (some f589) .nil) (some f333) .nil) (some f205) (.node (.node .nil (some f717) .nil) (some f461) .nil))) (some f45) (.node (.node (.node (.node .nil (some f557) .nil) (some f301) .nil) (some f173) (.node (.node .nil (some f685) .nil) (some f429) .nil)) (some f109) (.node (.node (.node .nil (some f621) .nil) (some f365) .nil) (some f237) (.node .nil (some f493) .nil)))) (some f29) (.node (.node (.node (.node (.node .nil (some f541) .nil) (some f285) .nil) (some f157) (.node (.node .nil (some f669) .nil) (some f413) .nil)) (some f93) (.node (.node (.node .nil (some f605) .nil) (some f349) .nil) (some f221) (.node (.node .nil (some f733) .nil) (some f477) .nil))) (some f61) (.node (.node (.node (.node .nil (some f573) .nil) (some f317) .nil) (some f189) (.node (.node .nil (some f701) .nil) (some f445) .nil)) (some f125) (.node (.node (.node .nil (some f637) .nil) (some f381) .nil) (some f253) (.node .nil (some f509) .nil)))))))) (some f0) (.node (.node (.node (.node (.node (.node (.node (.node (.node .nil (some f512) .nil) (some f256) .nil) (some f128) (.node (.node .nil (some f640) .nil) (some f384) .nil)) (some f64) (.node (.node (.node .nil (some f576) .nil) (some f320) .nil) (some f192) (.node (.node .nil (some f704) .nil) (some f448) .nil))) (some f32) (.node (.node (.node (.node .nil (some f544) .nil) (some f288) .nil) (some f160) (.node (.node .nil (some f672) .nil) (some f416) .nil)) (some f96) (.node (.node (.node .nil (some f608) .nil) (some f352) .nil) (some f224) (.node (.node .nil (some f736) .nil) (some f480) .nil)))) (some f16) (.node (.node (.node (.node (.node .nil (some f528) .nil) (some f272) .nil) (some f144) (.node (.node .nil (some f656) .nil) (some f400) .nil)) (some f80) (.node (.node (.node .nil (some f592) .nil) (some f336) .nil) (some f208) (.node (.node .nil (some f720) .nil) (some f464) .nil))) (some f48) (.node (.node (.node (.node .nil (some f560) .nil) (some f304) .nil) (some f176) (.node (.node .nil (some f688) .nil) (some f432) .nil)) (some f112) (.node (.node (.node .nil (some f624) .nil) (some f368) .nil) (some f240) (.node .nil (some f496) .nil))))) (some f8) (.node (.node (.node (.node (.node (.node .nil (some f520) .nil) (some f264) .nil) (some f136) (.node (.node .nil (some f648) .nil) (some f392) .nil)) (some f72) (.node (.node (.node .nil (some f584) .nil) (some f328) .nil) (some f200) (.node (.node .nil (some f712) .nil) (some f456) .nil))) (some f40) (.node (.node (.node (.node .nil (some f552) .nil) (some f296) .nil) (some f168) (.node (.node .nil (some f680) .nil) (some f424) .nil)) (some f104) (.node (.node (.node .nil (some f616) .nil) (some f360) .nil) (some f232) (.node (.node .nil (some f744) .nil) (some f488) .nil)))) (some f24) (.node (.node (.node (.node (.node .nil (some f536) .nil) (some f280) .nil) (some f152) (.node (.node .nil (some f664) .nil) (some f408) .nil)) (some f88) (.node (.node (.node .nil (some f600) .nil) (some f344) .nil) (some f216) (.node (.node .nil (some f728) .nil) (some f472) .nil))) (some f56) (.node (.node (.node (.node .nil (some f568) .nil) (some f312) .nil) (some f184) (.node (.node .nil (some f696) .nil) (some f440) .nil)) (some f120) (.node (.node (.node .nil (some f632) .nil) (some f376) .nil) (some f248) (.node .nil (some f504) .nil)))))) (some f4) (.node (.node (.node (.node (.node (.node (.node .nil (some f516) .nil) (some f260) .nil) (some f132) (.node (.node .nil (some f644) .nil) (some f388) .nil)) (some f68) (.node (.node (.node .nil (some f580) .nil) (some f324) .nil) (some f196) (.node (.node .nil (some f708) .nil) (some f452) .nil))) (some f36) (.node (.node (.node (.node .nil (some f548) .nil) (some f292) .nil) (some f164) (.node (.node .nil (some f676) .nil) (some f420) .nil)) (some f100) (.node (.node (.node .nil (some f612) .nil) (some f356) .nil) (some f228) (.node (.node .nil (some f740) .nil) (some f484) .nil)))) (some f20) (.node (.node (.node (.node (.node .nil (some f532) .nil) (some f276) .nil) (some f148) (.node (.node .nil (some f660) .nil) (some f404) .nil)) (some f84) (.node (.node (.node .nil (some f596) .nil) (some f340) .nil) (some f212) (.node (.node .nil (some f724) .nil) (some f468) .nil))) (some f52) (.node (.node (.node (.node .nil (some f564) .nil) (some f308) .nil) (some f180) (.node (.node .nil (some f692) .nil) (some f436) .nil)) (some f116) (.node (.node (.node .nil (some f628) .nil) (some f372) .nil) (some f244) (.node .nil (some f500) .nil))))) (some f12) (.node (.node (.node (.node (.node (.node .nil (some f524) .nil) (some f268) .nil) (some f140) (.node (.node .nil (some f652) .nil) (some f396) .nil)) (some f76) (.node (.node (.node .nil (some f588) .nil) (some f332) .nil) (some f204) (.node (.node .nil (some f716) .nil) (some f460) .nil))) (some f44) (.node (.node (.node (.node .nil (some f556) .nil) (some f300) .nil) (some f172) (.node (.node .nil (some f684) .nil) (some f428) .nil)) (some f108) (.node (.node (.node .nil (some f620) .nil) (some f364) .nil) (some f236) (.node .nil (some f492) .nil)))) (some f28) (.node (.node (.node (.node (.node .nil (some f540) .nil) (some f284) .nil) (some f156) (.node (.node .nil (some f668) .nil) (some f412) .nil)) (some f92) (.node (.node (.node .nil (some f604) .nil) (some f348) .nil) (some f220) (.node (.node .nil (some f732) .nil) (some f476) .nil))) (some f60) (.node (.node (.node (.node .nil (some f572) .nil) (some f316) .nil) (some f188) (.node (.node .nil (some f700) .nil) (some f444) .nil)) (some f124) (.node (.node (.node .nil (some f636) .nil) (some f380) .nil) (some f252) (.node .nil (some f508) .nil))))))) (some f2) (.node (.node (.node (.node (.node (.node (.node (.node .nil (some f514) .nil) (some f258) .nil) (some f130) (.node (.node .nil (some f642) .nil) (some f386) .nil)) (some f66) (.node (.node (.node .nil (some f578) .nil) (some f322) .nil) (some f194) (.node (.node .nil (some f706) .nil) (some f450) .nil))) (some f34) (.node (.node (.node (.node .nil (some f546) .nil) (some f290) .nil) (some f162) (.node (.node .nil (some f674) .nil) (some f418) .nil)) (some f98) (.node (.node (.node .nil (some f610) .nil) (some f354) .nil) (some f226) (.node (.node .nil (some f738) .nil) (some f482) .nil)))) (some f18) (.node (.node (.node (.node (.node .nil (some f530) .nil) (some f274) .nil) (some f146) (.node (.node .nil (some f658) .nil) (some f402) .nil)) (some f82) (.node (.node (.node .nil (some f594) .nil) (some f338) .nil) (some f210) (.node (.node .nil (some f722) .nil) (some f466) .nil))) (some f50) (.node (.node (.node (.node .nil (some f562) .nil) (some f306) .nil) (some f178) (.node (.node .nil (some f690) .nil) (some f434) .nil)) (some f114) (.node (.node (.node .nil (some f626) .nil) (some f370) .nil) (some f242) (.node .nil (some f498) .nil))))) (some f10) (.node (.node (.node (.node (.node (.node .nil (some f522) .nil) (some f266) .nil) (some f138) (.node (.node .nil (some f650) .nil) (some f394) .nil)) (some f74) (.node (.node (.node .nil (some f586) .nil) (some f330) .nil) (some f202) (.node (.node .nil (some f714) .nil) (some f458) .nil))) (some f42) (.node (.node (.node (.node .nil (some f554) .nil) (some f298) .nil) (some f170) (.node (.node .nil (some f682) .nil) (some f426) .nil)) (some f106) (.node (.node (.node .nil (some f618) .nil) (some f362) .nil) (some f234) (.node .nil (some f490) .nil)))) (some f26) (.node (.node (.node (.node (.node .nil (some f538) .nil) (some f282) .nil) (some f154) (.node (.node .nil (some f666) .nil) (some f410) .nil)) (some f90) (.node (.node (.node .nil (some f602) .nil) (some f346) .nil) (some f218) (.node (.node .nil (some f730) .nil) (some f474) .nil))) (some f58) (.node (.node (.node (.node .nil (some f570) .nil) (some f314) .nil) (some f186) (.node (.node .nil (some f698) .nil) (some f442) .nil)) (some f122) (.node (.node (.node .nil (some f634) .nil) (some f378) .nil) (some f250) (.node .nil (some f506) .nil)))))) (some f6) (.node (.node (.node (.node (.node (.node (.node .nil (some f518) .nil) (some f262) .nil) (some f134) (.node (.node .nil (some f646) .nil) (some f390) .nil)) (some f70) (.node (.node (.node .nil (some f582) .nil) (some f326) .nil) (some f198) (.node (.node .nil (some f710) .nil) (some f454) .nil))) (some f38) (.node (.node (.node (.node .nil (some f550) .nil) (some f294) .nil) (some f166) (.node (.node .nil (some f678) .nil) (some f422) .nil)) (some f102) (.node (.node (.node .nil (some f614) .nil) (some f358) .nil) (some f230) (.node (.node .nil (some f742) .nil) (some f486) .nil)))) (some f22) (.node (.node (.node (.node (.node .nil (some f534) .nil) (some f278) .nil) (some f150) (.node (.node .nil (some f662) .nil) (some f406) .nil)) (some f86) (.node (.node (.node .nil (some f598) .nil) (some f342) .nil) (some f214) (.node (.node .nil (some f726) .nil) (some f470) .nil))) (some f54) (.node (.node (.node (.node .nil (some f566) .nil) (some f310) .nil) (some f182) (.node (.node .nil (some f694) .nil) (some f438) .nil)) (some f118) (.node (.node (.node .nil (some f630) .nil) (some f374) .nil) (some f246) (.node .nil (some f502) .nil))))) (some f14) (.node (.node (.node (.node (.node (.node .nil (some f526) .nil) (some f270) .nil) (some f142) (.node (.node .nil (some f654) .nil) (some f398) .nil)) (some f78) (.node (.node (.node .nil (some f590) .nil) (some f334) .nil) (some f206) (.node (.node .nil (some f718) .nil) (some f462) .nil))) (some f46) (.node (.node (.node (.node .nil (some f558) .nil) (some f302) .nil) (some f174) (.node (.node .nil (some f686) .nil) (some f430) .nil)) (some f110) (.node (.node (.node .nil (some f622) .nil) (some f366) .nil) (some f238) (.node .nil (some f494) .nil)))) (some f30) (.node (.node (.node (.node (.node .nil (some f542) .nil) (some f286) .nil) (some f158) (.node (.node .nil (some f670) .nil) (some f414) .nil)) (some f94) (.node (.node (.node .nil (some f606) .nil) (some f350) .nil) (some f222) (.node (.node .nil (some f734) .nil) (some f478) .nil))) (some f62) (.node (.node (.node (.node .nil (some f574) .nil) (some f318) .nil) (some f190) (.node (.node .nil (some f702) .nil) (some f446) .nil)) (some f126) (.node (.node (.node .nil (some f638) .nil) (some f382) .nil) (some f254) (.node .nil (some f510) .nil)))))))))
noncomputable def xti : Tr TI := (.node (.node (.node (.node (.node (.node (.node (.node (.node (.node .nil (some (tO t511 t511)) .nil) (some (tO t255 t255)) (.node .nil (some (tO t767 t767)) .nil)) (some (tO t127 t127)) (.node (.node .nil (some (tO t639 t639)) .nil) (some (tO t383 t383)) (.node .nil (some (tO t895 t895)) .nil))) (some (tO t63 t63)) (.node (.node (.node .nil (some (tO t575 t574)) .nil) (some (tO t319 t319)) (.node .nil (some (tO t831 t831)) .nil)) (some (tO t191 t191)) (.node (.node .nil (some (tO t703 t703)) .nil) (some (tO t447 t447)) .nil))) (some (tO t31 t31)) (.node (.node (.node (.node .nil (some (tO t543 t543)) .nil) (some (tO t287 t287)) (.node .nil (some (tO t799 t799)) .nil)) (some (tO t159 t159)) (.node (.node .nil (some (tO t671 t671)) .nil) (some (tO t415 t415)) .nil)) (some (tO t95 t95)) (.node (.node (.node .nil (some (tO t607 t607)) .nil) (some (tO t351 t350)) (.node .nil (some (tO t863 t863)) .nil)) (some (tO t223 t223)) (.node (.node .nil (some (tO t735 t735)) .nil) (some (tO t479 t479)) .nil)))) (some (tO t15 t15)) (.node (.node (.node (.node (.node .nil (some (tO t527 t527)) .nil) (some (tO t271 t271)) (.node .nil (some (tO t783 t782)) .nil)) (some (tO t143 t143)) (.node (.node .nil (some (tO t655 t655)) .nil) (some (tO t399 t399)) (.node .nil (some (tO t911 t5)) .nil))) (some (tO t79 t79)) (.node (.node (.node .nil (some (tO t591 t591)) .nil) (some (tO t335 t334)) (.node .nil (some (tO t847 t847)) .nil)) (some (tO t207 t207)) (.node (.node .nil (some (tO t719 t719)) .nil) (some (tO t463 t463)) .nil))) (some (tO t47 t47)) (.node (.node (.node (.node .nil (some (tO t559 t559)) .nil) (some (tO t303 t303)) (.node .nil (some (tO t815 t814)) .nil)) (some (tO t175 t175)) (.node (.node .nil (some (tO t687 t687)) .nil) (some (tO t431 t431)) .nil)) (some (tO t111 t111)) (.node (.node (.node .nil (some (tO t623 t623)) .nil) (some (tO t367 t367)) (.node .nil (some (tO t879 t879)) .nil)) (some (tO t239 t239)) (.node (.node .nil (some (tO t751 t751)) .nil) (some (tO t495 t495)) .nil))))) (some (tO t7 t7)) (.node (.node (.node (.node (.node (.node .nil (some (tO t519 t519)) .nil) (some (tO t263 t263)) (.node .nil (some (tO t775 t774)) .nil)) (some (tO t135 t135)) (.node (.node .nil (some (tO t647 t294)) .nil) (some (tO t391 t391)) (.node .nil (some (tO t903 t903)) .nil))) (some (tO t71 t71)) (.node (.node (.node .nil (some (tO t583 t583)) .nil) (some (tO t327 t327)) (.node .nil (some (tO t839 t839)) .nil)) (some (tO t199 t199)) (.node (.node .nil (some (tO t711 t711)) .nil) (some (tO t455 t455)) .nil))) (some (tO t39 t39)) (.node (.node (.node (.node .nil (some (tO t551 t551)) .nil) (some (tO t295 t295)) (.node .nil (some (tO t807 t807)) .nil)) (some (tO t167 t167)) (.node (.node .nil (some (tO t679 t679)) .nil) (some (tO t423 t423)) .nil)) (some (tO t103 t103)) (.node (.node (.node .nil (some (tO t615 t615)) .nil) (some (tO t359 t359)) (.node .nil (some (tO t871 t871)) .nil)) (some (tO t231 t230)) (.node (.node .nil (some (tO t743 t743)) .nil) (some (tO t487 t487)) .nil)))) (some (tO t23 t23)) (.node (.node (.node (.node (.node .nil (some (tO t535 t535)) .nil) (some (tO t279 t279)) (.node .nil (some (tO t791 t791)) .nil)) (some (tO t151 t151)) (.node (.node .nil (some (tO t663 t663)) .nil) (some (tO t407 t407)) .nil)) (some (tO t87 t87)) (.node (.node (.node .nil (some (tO t599 t599)) .nil) (some (tO t343 t343)) (.node .nil (some (tO t855 t855)) .nil)) (some (tO t215 t214)) (.node (.node .nil (some (tO t727 t727)) .nil) (some (tO t471 t471)) .nil))) (some (tO t55 t55)) (.node (.node (.node (.node .nil (some (tO t567 t566)) .nil) (some (tO t311 t311)) (.node .nil (some (tO t823 t823)) .nil)) (some (tO t183 t183)) (.node (.node .nil (some (tO t695 t695)) .nil) (some (tO t439 t439)) .nil)) (some (tO t119 t119)) (.node (.node (.node .nil (some (tO t631 t631)) .nil) (some (tO t375 t375)) (.node .nil (some (tO t887 t887)) .nil)) (some (tO t247 t247)) (.node (.node .nil (some (tO t759 t759)) .nil) (some (tO t503 t3)) .nil)))))) (some (tO t3 t3)) (.node (.node (.node (.node (.node (.node (.node .nil (some (tO t515 t515)) .nil) (some (tO t259 t259)) (.node .nil (some (tO t771 t771)) .nil)) (some (tO t131 t131)) (.node (.node .nil (some (tO t643 t643)) .nil) (some (tO t387 t387)) (.node .nil (some (tO t899 t899)) .nil))) (some (tO t67 t67)) (.node (.node (.node .nil (some (tO t579 t579)) .nil) (some (tO t323 t322)) (.node .nil (some (tO t835 t835)) .nil)) (some (tO t195 t195)) (.node (.node .nil (some (tO t707 t707)) .nil) (some (tO t451 t451)) .nil))) (some (tO t35 t35)) (.node (.node (.node (.node .nil (some (tO t547 t547)) .nil) (some (tO t291 t291)) (.node .nil (some (tO t803 t803)) .nil)) (some (tO t163 t163)) (.node (.node .nil (some (tO t675 t675)) .nil) (some (tO t419 t419)) .nil)) (some (tO t99 t98)) (.node (.node (.node .nil (some (tO t611 t610)) .nil) (some (tO t355 t355)) (.node .nil (some (tO t867 t867)) .nil)) (some (tO t227 t227)) (.node (.node .nil (some (tO t739 t739)) .nil) (some (tO t483 t483)) .nil)))) (some (tO t19 t18)) (.node (.node (.node (.node (.node .nil (some (tO t531 t531)) .nil) (some (tO t275 t275)) (.node .nil (some (tO t787 t786)) .nil)) (some (tO t147 t147)) (.node (.node .nil (some (tO t659 t659)) .nil) (some (tO t403 t403)) (.node .nil (some (tO t915 t915)) .nil))) (some (tO t83 t82)) (.node (.node (.node .nil (some (tO t595 t595)) .nil) (some (tO t339 t339)) (.node .nil (some (tO t851 t851)) .nil)) (some (tO t211 t211)) (.node (.node .nil (some (tO t723 t723)) .nil) (some (tO t467 t466)) .nil))) (some (tO t51 t51)) (.node (.node (.node (.node .nil (some (tO t563 t563)) .nil) (some (tO t307 t307)) (.node .nil (some (tO t819 t819)) .nil)) (some (tO t179 t179)) (.node (.node .nil (some (tO t691 t691)) .nil) (some (tO t435 t435)) .nil)) (some (tO t115 t115)) (.node (.node (.node .nil (some (tO t627 t626)) .nil) (some (tO t371 t371)) (.node .nil (some (tO t883 t883)) .nil)) (some (tO t243 t243)) (.node (.node .nil (some (tO t755 t755)) .nil) (some (tO t499 t499)) .nil))))) (some (tO t11 t9)) (.node (.node (.node (.node (.node (.node .nil (some (tO t523 t523)) .nil) (some (tO t267 t267)) (.node .nil (some (tO t779 t779)) .nil)) (some (tO t139 t139)) (.node (.node .nil (some (tO t651 t651)) .nil) (some (tO t395 t395)) (.node .nil (some (tO t907 t907)) .nil))) (some (tO t75 t75)) (.node (.node (.node .nil (some (tO t587 t587)) .nil) (some (tO t331 t331)) (.node .nil (some (tO t843 t843)) .nil)) (some (tO t203 t203)) (.node (.node .nil (some (tO t715 t715)) .nil) (some (tO t459 t459)) .nil))) (some (tO t43 t43)) (.node (.node (.node (.node .nil (some (tO t555 t555)) .nil) (some (tO t299 t299)) (.node .nil (some (tO t811 t811)) .nil)) (some (tO t171 t171)) (.node (.node .nil (some (tO t683 t683)) .nil) (some (tO t427 t427)) .nil)) (some (tO t107 t106)) (.node (.node (.node .nil (some (tO t619 t619)) .nil) (some (tO t363 t363)) (.node .nil (some (tO t875 t875)) .nil)) (some (tO t235 t235)) (.node (.node .nil (some (tO t747 t746)) .nil) (some (tO t491 t490)) .nil)))) (some (tO t27 t27)) (.node (.node (.node (.node (.node .nil (some (tO t539 t539)) .nil) (some (tO t283 t283)) (.node .nil (some (tO t795 t794)) .nil)) (some (tO t155 t155)) (.node (.node .nil (some (tO t667 t667)) .nil) (some (tO t411 t411)) .nil)) (some (tO t91 t91)) (.node (.node (.node .nil (some (tO t603 t603)) .nil) (some (tO t347 t347)) (.node .nil (some (tO t859 t859)) .nil)) (some (tO t219 t218)) (.node (.node .nil (some (tO t731 t731)) .nil) (some (tO t475 t475)) .nil))) (some (tO t59 t59)) (.node (.node (.node (.node .nil (some (tO t571 t571)) .nil) (some (tO t315 t315)) (.node .nil (some (tO t827 t827)) .nil)) (some (tO t187 t187)) (.node (.node .nil (some (tO t699 t699)) .nil) (some (tO t443 t443)) .nil)) (some (tO t123 t122)) (.node (.node (.node .nil (some (tO t635 t635)) .nil) (some (tO t379 t379)) (.node .nil (some (tO t891 t891)) .nil)) (some (tO t251 t251)) (.node (.node .nil (some (tO t763 t763)) .nil) (some (tO t507 t507)) .nil))))))) (some (tO t1 t1)) (.node (.node (.node (.node (.node (.node (.node (.node .nil (some (tO t513 t513)) .nil) (some (tO t257 t257)) (.node .nil (some (tO t769 t769)) .nil)) (some (tO t129 t129)) (.node (.node .nil (some (tO t641 t641)) .nil) (some (tO t385 t385)) (.node .nil (some (tO t897 t896)) .nil))) (some (tO t65 t65)) (.node (.node (.node .nil (some (tO t577 t576)) .nil) (some (tO t321 t320)) (.node .nil (some (tO t833 t833)) .nil)) (some (tO t193 t193)) (.node (.node .nil (some (tO t705 t705)) .nil) (some (tO t449 t449)) .nil))) (some (tO t33 t33)) (.node (.node (.node (.node .nil (some (tO t545 t545)) .nil) (some (tO t289 t289)) (.node .nil (some (tO t801 t801)) .nil)) (some (tO t161 t160)) (.node (.node .nil (some (tO t673 t673)) .nil) (some (tO t417 t417)) .nil)) (some (tO t97 t97)) (.node (.node (.node .nil (some (tO t609 t609)) .nil) (some (tO t353 t353)) (.node .nil (some (tO t865 t865)) .nil)) (some (tO t225 t225)) (.node (.node .nil (some (tO t737 t737)) .nil) (some (tO t481 t481)) .nil)))) (some (tO t17 t17)) (.node (.node (.node (.node (.node .nil (some (tO t529 t529)) .nil) (some (tO t273 t273)) (.node .nil (some (tO t785 t785)) .nil)) (some (tO t145 t145)) (.node (.node .nil (some (tO t657 t657)) .nil) (some (tO t401 t400)) (.node .nil (some (tO t913 t21)) .nil))) (some (tO t81 t80)) (.node (.node (.node .nil (some (tO t593 t593)) .nil) (some (tO t337 t336)) (.node .nil (some (tO t849 t849)) .nil)) (some (tO t209 t209)) (.node (.node .nil (some (tO t721 t721)) .nil) (some (tO t465 t465)) .nil))) (some (tO t49 t49)) (.node (.node (.node (.node .nil (some (tO t561 t561)) .nil) (some (tO t305 t305)) (.node .nil (some (tO t817 t817)) .nil)) (some (tO t177 t177)) (.node (.node .nil (some (tO t689 t689)) .nil) (some (tO t433 t433)) .nil)) (some (tO t113 t112)) (.node (.node (.node .nil (some (tO t625 t625)) .nil) (some (tO t369 t369)) (.node .nil (some (tO t881 t881)) .nil)) (some (tO t241 t241)) (.node (.node .nil (some (tO t753 t753)) .nil) (some (tO t497 t497)) .nil))))) (some (tO t9 t9)) (.node (.node (.node (.node (.node (.node .nil (some (tO t521 t521)) .nil) (some (tO t265 t265)) (.node .nil (some (tO t777 t777)) .nil)) (some (tO t137 t137)) (.node (.node .nil (some (tO t649 t648)) .nil) (some (tO t393 t393)) (.node .nil (some (tO t905 t905)) .nil))) (some (tO t73 t73)) (.node (.node (.node .nil (some (tO t585 t585)) .nil) (some (tO t329 t329)) (.node .nil (some (tO t841 t841)) .nil)) (some (tO t201 t201)) (.node (.node .nil (some (tO t713 t713)) .nil) (some (tO t457 t457)) .nil))) (some (tO t41 t41)) (.node (.node (.node (.node .nil (some (tO t553 t553)) .nil) (some (tO t297 t297)) (.node .nil (some (tO t809 t809)) .nil)) (some (tO t169 t169)) (.node (.node .nil (some (tO t681 t681)) .nil) (some (tO t425 t425)) .nil)) (some (tO t105 t105)) (.node (.node (.node .nil (some (tO t617 t617)) .nil) (some (tO t361 t361)) (.node .nil (some (tO t873 t873)) .nil)) (some (tO t233 t232)) (.node (.node .nil (some (tO t745 t745)) .nil) (some (tO t489 t489)) .nil)))) (some (tO t25 t25)) (.node (.node (.node (.node (.node .nil (some (tO t537 t536)) .nil) (some (tO t281 t281)) (.node .nil (some (tO t793 t793)) .nil)) (some (tO t153 t153)) (.node (.node .nil (some (tO t665 t665)) .nil) (some (tO t409 t409)) .nil)) (some (tO t89 t89)) (.node (.node (.node .nil (some (tO t601 t601)) .nil) (some (tO t345 t345)) (.node .nil (some (tO t857 t857)) .nil)) (some (tO t217 t217)) (.node (.node .nil (some (tO t729 t729)) .nil) (some (tO t473 t472)) .nil))) (some (tO t57 t57)) (.node (.node (.node (.node .nil (some (tO t569 t568)) .nil) (some (tO t313 t313)) (.node .nil (some (tO t825 t825)) .nil)) (some (tO t185 t185)) (.node (.node .nil (some (tO t697 t697)) .nil) (some (tO t441 t441)) .nil)) (some (tO t121 t121)) (.node (.node (.node .nil (some (tO t633 t633)) .nil) (some (tO t377 t377)) (.node .nil (some (tO t889 t889)) .nil)) (some (tO t249 t249)) (.node (.node .nil (some (tO t761 t761)) .nil) (some (tO t505 t505)) .nil)))))) (some (tO t5 t5)) (.node (.node (.node (.node (.node (.node (.node .nil (some (tO t517 t517)) .nil) (some (tO t261 t261)) (.node .nil (some (tO t773 t772)) .nil)) (some (tO t133 t133)) (.node (.node .nil (some (tO t645 t645)) .nil) (some (tO t389 t389)) (.node .nil (some (tO t901 t901)) .nil))) (some (tO t69 t68)) (.node (.node (.node .nil (some (tO t581 t580)) .nil) (some (tO t325 t325)) (.node .nil (some (tO t837 t836)) .nil)) (some (tO t197 t197)) (.node (.node .nil (some (tO t709 t709)) .nil) (some (tO t453 t453)) .nil))) (some (tO t37 t37)) (.node (.node (.node (.node .nil (some (tO t549 t549)) .nil) (some (tO t293 t293)) (.node .nil (some (tO t805 t805)) .nil)) (some (tO t165 t165)) (.node (.node .nil (some (tO t677 t677)) .nil) (some (tO t421 t421)) .nil)) (some (tO t101 t101)) (.node (.node (.node .nil (some (tO t613 t613)) .nil) (some (tO t357 t357)) (.node .nil (some (tO t869 t869)) .nil)) (some (tO t229 t228)) (.node (.node .nil (some (tO t741 t741)) .nil) (some (tO t485 t485)) .nil)))) (some (tO t21 t21)) (.node (.node (.node (.node (.node .nil (some (tO t533 t533)) .nil) (some (tO t277 t277)) (.node .nil (some (tO t789 t788)) .nil)) (some (tO t149 t149)) (.node (.node .nil (some (tO t661 t661)) .nil) (some (tO t405 t405)) .nil)) (some (tO t85 t85)) (.node (.node (.node .nil (some (tO t597 t597)) .nil) (some (tO t341 t341)) (.node .nil (some (tO t853 t853)) .nil)) (some (tO t213 t213)) (.node (.node .nil (some (tO t725 t725)) .nil) (some (tO t469 t469)) .nil))) (some (tO t53 t53)) (.node (.node (.node (.node .nil (some (tO t565 t565)) .nil) (some (tO t309 t308)) (.node .nil (some (tO t821 t821)) .nil)) (some (tO t181 t181)) (.node (.node .nil (some (tO t693 t693)) .nil) (some (tO t437 t437)) .nil)) (some (tO t117 t116)) (.node (.node (.node .nil (some (tO t629 t628)) .nil) (some (tO t373 t373)) (.node .nil (some (tO t885 t885)) .nil)) (some (tO t245 t245)) (.node (.node .nil (some (tO t757 t757)) .nil) (some (tO t501 t501)) .nil))))) (some (tO t13 t13)) (.node (.node (.node (.node (.node (.node .nil (some (tO t525 t525)) .nil) (some (tO t269 t269)) (.node .nil (some (tO t781 t781)) .nil)) (some (tO t141 t141)) (.node (.node .nil (some (tO t653 t653)) .nil) (some (tO t397 t397)) (.node .nil (some (tO t909 t908)) .nil))) (some (tO t77 t77)) (.node (.node (.node .nil (some (tO t589 t589)) .nil) (some (tO t333 t333)) (.node .nil (some (tO t845 t845)) .nil)) (some (tO t205 t205)) (.node (.node .nil (some (tO t717 t717)) .nil) (some (tO t461 t461)) .nil))) (some (tO t45 t45)) (.node (.node (.node (.node .nil (some (tO t557 t556)) .nil) (some (tO t301 t300)) (.node .nil (some (tO t813 t813)) .nil)) (some (tO t173 t173)) (.node (.node .nil (some (tO t685 t685)) .nil) (some (tO t429 t428)) .nil)) (some (tO t109 t109)) (.node (.node (.node .nil (some (tO t621 t620)) .nil) (some (tO t365 t27)) (.node .nil (some (tO t877 t876)) .nil)) (some (tO t237 t237)) (.node (.node .nil (some (tO t749 t748)) .nil) (some (tO t493 t492)) .nil)))) (some (tO t29 t28)) (.node (.node (.node (.node (.node .nil (some (tO t541 t541)) .nil) (some (tO t285 t285)) (.node .nil (some (tO t797 t797)) .nil)) (some (tO t157 t157)) (.node (.node .nil (some (tO t669 t669)) .nil) (some (tO t413 t413)) .nil)) (some (tO t93 t93)) (.node (.node (.node .nil (some (tO t605 t605)) .nil) (some (tO t349 t349)) (.node .nil (some (tO t861 t861)) .nil)) (some (tO t221 t221)) (.node (.node .nil (some (tO t733 t733)) .nil) (some (tO t477 t477)) .nil))) (some (tO t61 t61)) (.node (.node (.node (.node .nil (some (tO t573 t573)) .nil) (some (tO t317 t317)) (.node .nil (some (tO t829 t829)) .nil)) (some (tO t189 t188)) (.node (.node .nil (some (tO t701 t701)) .nil) (some (tO t445 t445)) .nil)) (some (tO t125 t125)) (.node (.node (.node .nil (some (tO t637 t637)) .nil) (some (tO t381 t381)) (.node .nil (some (tO t893 t893)) .nil)) (some (tO t253 t252)) (.node (.node .nil (some (tO t765 t765)) .nil) (some (tO t509 t509)) .nil)))))))) (some (tO t0 t0)) (.node (.node (.node (.node (.node (.node (.node (.node (.node .nil (some (tO t512 t512)) .nil) (some (tO t256 t255)) (.node .nil (some (tO t768 t768)) .nil)) (some (tO t128 t127)) (.node (.node .nil (some (tO t640 t640)) .nil) (some (tO t384 t3)) (.node .nil (some (tO t896 t896)) .nil))) (some (tO t64 t64)) (.node (.node (.node .nil (some (tO t576 t576)) .nil) (some (tO t320 t320)) (.node .nil (some (tO t832 t832)) .nil)) (some (tO t192 t191)) (.node (.node .nil (some (tO t704 t704)) .nil) (some (tO t448 t448)) .nil))) (some (tO t32 t31)) (.node (.node (.node (.node .nil (some (tO t544 t543)) .nil) (some (tO t288 t288)) (.node .nil (some (tO t800 t799)) .nil)) (some (tO t160 t160)) (.node (.node .nil (some (tO t672 t672)) .nil) (some (tO t416 t416)) .nil)) (some (tO t96 t96)) (.node (.node (.node .nil (some (tO t608 t608)) .nil) (some (tO t352 t352)) (.node .nil (some (tO t864 t864)) .nil)) (some (tO t224 t224)) (.node (.node .nil (some (tO t736 t736)) .nil) (some (tO t480 t480)) .nil)))) (some (tO t16 t16)) (.node (.node (.node (.node (.node .nil (some (tO t528 t528)) .nil) (some (tO t272 t271)) (.node .nil (some (tO t784 t784)) .nil)) (some (tO t144 t144)) (.node (.node .nil (some (tO t656 t655)) .nil) (some (tO t400 t400)) (.node .nil (some (tO t912 t912)) .nil))) (some (tO t80 t80)) (.node (.node (.node .nil (some (tO t592 t592)) .nil) (some (tO t336 t336)) (.node .nil (some (tO t848 t838)) .nil)) (some (tO t208 t208)) (.node (.node .nil (some (tO t720 t719)) .nil) (some (tO t464 t464)) .nil))) (some (tO t48 t47)) (.node (.node (.node (.node .nil (some (tO t560 t560)) .nil) (some (tO t304 t304)) (.node .nil (some (tO t816 t816)) .nil)) (some (tO t176 t176)) (.node (.node .nil (some (tO t688 t688)) .nil) (some (tO t432 t432)) .nil)) (some (tO t112 t112)) (.node (.node (.node .nil (some (tO t624 t623)) .nil) (some (tO t368 t368)) (.node .nil (some (tO t880 t880)) .nil)) (some (tO t240 t240)) (.node (.node .nil (some (tO t752 t752)) .nil) (some (tO t496 t496)) .nil))))) (some (tO t8 t7)) (.node (.node (.node (.node (.node (.node .nil (some (tO t520 t520)) .nil) (some (tO t264 t264)) (.node .nil (some (tO t776 t776)) .nil)) (some (tO t136 t136)) (.node (.node .nil (some (tO t648 t648)) .nil) (some (tO t392 t392)) (.node .nil (some (tO t904 t904)) .nil))) (some (tO t72 t72)) (.node (.node (.node .nil (some (tO t584 t584)) .nil) (some (tO t328 t328)) (.node .nil (some (tO t840 t839)) .nil)) (some (tO t200 t200)) (.node (.node .nil (some (tO t712 t711)) .nil) (some (tO t456 t456)) .nil))) (some (tO t40 t40)) (.node (.node (.node (.node .nil (some (tO t552 t552)) .nil) (some (tO t296 t296)) (.node .nil (some (tO t808 t808)) .nil)) (some (tO t168 t168)) (.node (.node .nil (some (tO t680 t680)) .nil) (some (tO t424 t424)) .nil)) (some (tO t104 t104)) (.node (.node (.node .nil (some (tO t616 t616)) .nil) (some (tO t360 t359)) (.node .nil (some (tO t872 t872)) .nil)) (some (tO t232 t232)) (.node (.node .nil (some (tO t744 t744)) .nil) (some (tO t488 t488)) .nil)))) (some (tO t24 t23)) (.node (.node (.node (.node (.node .nil (some (tO t536 t536)) .nil) (some (tO t280 t279)) (.node .nil (some (tO t792 t792)) .nil)) (some (tO t152 t152)) (.node (.node .nil (some (tO t664 t664)) .nil) (some (tO t408 t408)) .nil)) (some (tO t88 t88)) (.node (.node (.node .nil (some (tO t600 t600)) .nil) (some (tO t344 t344)) (.node .nil (some (tO t856 t856)) .nil)) (some (tO t216 t216)) (.node (.node .nil (some (tO t728 t728)) .nil) (some (tO t472 t472)) .nil))) (some (tO t56 t56)) (.node (.node (.node (.node .nil (some (tO t568 t568)) .nil) (some (tO t312 t312)) (.node .nil (some (tO t824 t824)) .nil)) (some (tO t184 t184)) (.node (.node .nil (some (tO t696 t696)) .nil) (some (tO t440 t440)) .nil)) (some (tO t120 t119)) (.node (.node (.node .nil (some (tO t632 t632)) .nil) (some (tO t376 t376)) (.node .nil (some (tO t888 t888)) .nil)) (some (tO t248 t248)) (.node (.node .nil (some (tO t760 t760)) .nil) (some (tO t504 t504)) .nil)))))) (some (tO t4 t4)) (.node (.node (.node (.node (.node (.node (.node .nil (some (tO t516 t516)) .nil) (some (tO t260 t260)) (.node .nil (some (tO t772 t772)) .nil)) (some (tO t132 t132)) (.node (.node .nil (some (tO t644 t644)) .nil) (some (tO t388 t388)) (.node .nil (some (tO t900 t900)) .nil))) (some (tO t68 t68)) (.node (.node (.node .nil (some (tO t580 t580)) .nil) (some (tO t324 t324)) (.node .nil (some (tO t836 t836)) .nil)) (some (tO t196 t196)) (.node (.node .nil (some (tO t708 t708)) .nil) (some (tO t452 t452)) .nil))) (some (tO t36 t35)) (.node (.node (.node (.node .nil (some (tO t548 t548)) .nil) (some (tO t292 t292)) (.node .nil (some (tO t804 t804)) .nil)) (some (tO t164 t164)) (.node (.node .nil (some (tO t676 t676)) .nil) (some (tO t420 t420)) .nil)) (some (tO t100 t100)) (.node (.node (.node .nil (some (tO t612 t612)) .nil) (some (tO t356 t355)) (.node .nil (some (tO t868 t868)) .nil)) (some (tO t228 t228)) (.node (.node .nil (some (tO t740 t740)) .nil) (some (tO t484 t484)) .nil)))) (some (tO t20 t20)) (.node (.node (.node (.node (.node .nil (some (tO t532 t531)) .nil) (some (tO t276 t276)) (.node .nil (some (tO t788 t788)) .nil)) (some (tO t148 t148)) (.node (.node .nil (some (tO t660 t660)) .nil) (some (tO t404 t311)) (.node .nil (some (tO t916 t915)) .nil))) (some (tO t84 t84)) (.node (.node (.node .nil (some (tO t596 t596)) .nil) (some (tO t340 t340)) (.node .nil (some (tO t852 t852)) .nil)) (some (tO t212 t212)) (.node (.node .nil (some (tO t724 t724)) .nil) (some (tO t468 t468)) .nil))) (some (tO t52 t52)) (.node (.node (.node (.node .nil (some (tO t564 t564)) .nil) (some (tO t308 t308)) (.node .nil (some (tO t820 t820)) .nil)) (some (tO t180 t180)) (.node (.node .nil (some (tO t692 t692)) .nil) (some (tO t436 t436)) .nil)) (some (tO t116 t116)) (.node (.node (.node .nil (some (tO t628 t628)) .nil) (some (tO t372 t372)) (.node .nil (some (tO t884 t884)) .nil)) (some (tO t244 t244)) (.node (.node .nil (some (tO t756 t756)) .nil) (some (tO t500 t500)) .nil))))) (some (tO t12 t12)) (.node (.node (.node (.node (.node (.node .nil (some (tO t524 t524)) .nil) (some (tO t268 t268)) (.node .nil (some (tO t780 t780)) .nil)) (some (tO t140 t140)) (.node (.node .nil (some (tO t652 t652)) .nil) (some (tO t396 t396)) (.node .nil (some (tO t908 t908)) .nil))) (some (tO t76 t76)) (.node (.node (.node .nil (some (tO t588 t27)) .nil) (some (tO t332 t332)) (.node .nil (some (tO t844 t844)) .nil)) (some (tO t204 t204)) (.node (.node .nil (some (tO t716 t716)) .nil) (some (tO t460 t460)) .nil))) (some (tO t44 t44)) (.node (.node (.node (.node .nil (some (tO t556 t556)) .nil) (some (tO t300 t300)) (.node .nil (some (tO t812 t812)) .nil)) (some (tO t172 t172)) (.node (.node .nil (some (tO t684 t684)) .nil) (some (tO t428 t428)) .nil)) (some (tO t108 t108)) (.node (.node (.node .nil (some (tO t620 t620)) .nil) (some (tO t364 t364)) (.node .nil (some (tO t876 t876)) .nil)) (some (tO t236 t236)) (.node (.node .nil (some (tO t748 t748)) .nil) (some (tO t492 t492)) .nil)))) (some (tO t28 t28)) (.node (.node (.node (.node (.node .nil (some (tO t540 t539)) .nil) (some (tO t284 t284)) (.node .nil (some (tO t796 t796)) .nil)) (some (tO t156 t156)) (.node (.node .nil (some (tO t668 t668)) .nil) (some (tO t412 t411)) .nil)) (some (tO t92 t92)) (.node (.node (.node .nil (some (tO t604 t603)) .nil) (some (tO t348 t347)) (.node .nil (some (tO t860 t860)) .nil)) (some (tO t220 t220)) (.node (.node .nil (some (tO t732 t732)) .nil) (some (tO t476 t476)) .nil))) (some (tO t60 t60)) (.node (.node (.node (.node .nil (some (tO t572 t572)) .nil) (some (tO t316 t315)) (.node .nil (some (tO t828 t828)) .nil)) (some (tO t188 t188)) (.node (.node .nil (some (tO t700 t700)) .nil) (some (tO t444 t444)) .nil)) (some (tO t124 t124)) (.node (.node (.node .nil (some (tO t636 t636)) .nil) (some (tO t380 t380)) (.node .nil (some (tO t892 t892)) .nil)) (some (tO t252 t252)) (.node (.node .nil (some (tO t764 t763)) .nil) (some (tO t508 t508)) .nil))))))) (some (tO t2 t2)) (.node (.node (.node (.node (.node (.node (.node (.node .nil (some (tO t514 t514)) .nil) (some (tO t258 t258)) (.node .nil (some (tO t770 t770)) .nil)) (some (tO t130 t130)) (.node (.node .nil (some (tO t642 t642)) .nil) (some (tO t386 t386)) (.node .nil (some (tO t898 t898)) .nil))) (some (tO t66 t66)) (.node (.node (.node .nil (some (tO t578 t578)) .nil) (some (tO t322 t322)) (.node .nil (some (tO t834 t834)) .nil)) (some (tO t194 t194)) (.node (.node .nil (some (tO t706 t706)) .nil) (some (tO t450 t450)) .nil))) (some (tO t34 t33)) (.node (.node (.node (.node .nil (some (tO t546 t545)) .nil) (some (tO t290 t290)) (.node .nil (some (tO t802 t802)) .nil)) (some (tO t162 t162)) (.node (.node .nil (some (tO t674 t674)) .nil) (some (tO t418 t418)) .nil)) (some (tO t98 t98)) (.node (.node (.node .nil (some (tO t610 t610)) .nil) (some (tO t354 t354)) (.node .nil (some (tO t866 t866)) .nil)) (some (tO t226 t225)) (.node (.node .nil (some (tO t738 t738)) .nil) (some (tO t482 t482)) .nil)))) (some (tO t18 t18)) (.node (.node (.node (.node (.node .nil (some (tO t530 t530)) .nil) (some (tO t274 t274)) (.node .nil (some (tO t786 t786)) .nil)) (some (tO t146 t146)) (.node (.node .nil (some (tO t658 t658)) .nil) (some (tO t402 t402)) (.node .nil (some (tO t914 t21)) .nil))) (some (tO t82 t82)) (.node (.node (.node .nil (some (tO t594 t594)) .nil) (some (tO t338 t338)) (.node .nil (some (tO t850 t849)) .nil)) (some (tO t210 t210)) (.node (.node .nil (some (tO t722 t722)) .nil) (some (tO t466 t466)) .nil))) (some (tO t50 t50)) (.node (.node (.node (.node .nil (some (tO t562 t562)) .nil) (some (tO t306 t306)) (.node .nil (some (tO t818 t818)) .nil)) (some (tO t178 t178)) (.node (.node .nil (some (tO t690 t690)) .nil) (some (tO t434 t434)) .nil)) (some (tO t114 t114)) (.node (.node (.node .nil (some (tO t626 t626)) .nil) (some (tO t370 t369)) (.node .nil (some (tO t882 t882)) .nil)) (some (tO t242 t242)) (.node (.node .nil (some (tO t754 t754)) .nil) (some (tO t498 t497)) .nil))))) (some (tO t10 t9)) (.node (.node (.node (.node (.node (.node .nil (some (tO t522 t522)) .nil) (some (tO t266 t266)) (.node .nil (some (tO t778 t778)) .nil)) (some (tO t138 t138)) (.node (.node .nil (some (tO t650 t650)) .nil) (some (tO t394 t394)) (.node .nil (some (tO t906 t905)) .nil))) (some (tO t74 t74)) (.node (.node (.node .nil (some (tO t586 t586)) .nil) (some (tO t330 t330)) (.node .nil (some (tO t842 t842)) .nil)) (some (tO t202 t202)) (.node (.node .nil (some (tO t714 t714)) .nil) (some (tO t458 t458)) .nil))) (some (tO t42 t41)) (.node (.node (.node (.node .nil (some (tO t554 t554)) .nil) (some (tO t298 t298)) (.node .nil (some (tO t810 t810)) .nil)) (some (tO t170 t170)) (.node (.node .nil (some (tO t682 t682)) .nil) (some (tO t426 t426)) .nil)) (some (tO t106 t106)) (.node (.node (.node .nil (some (tO t618 t618)) .nil) (some (tO t362 t362)) (.node .nil (some (tO t874 t874)) .nil)) (some (tO t234 t234)) (.node (.node .nil (some (tO t746 t746)) .nil) (some (tO t490 t490)) .nil)))) (some (tO t26 t25)) (.node (.node (.node (.node (.node .nil (some (tO t538 t538)) .nil) (some (tO t282 t282)) (.node .nil (some (tO t794 t794)) .nil)) (some (tO t154 t154)) (.node (.node .nil (some (tO t666 t666)) .nil) (some (tO t410 t410)) .nil)) (some (tO t90 t90)) (.node (.node (.node .nil (some (tO t602 t602)) .nil) (some (tO t346 t346)) (.node .nil (some (tO t858 t858)) .nil)) (some (tO t218 t218)) (.node (.node .nil (some (tO t730 t730)) .nil) (some (tO t474 t474)) .nil))) (some (tO t58 t58)) (.node (.node (.node (.node .nil (some (tO t570 t570)) .nil) (some (tO t314 t314)) (.node .nil (some (tO t826 t825)) .nil)) (some (tO t186 t186)) (.node (.node .nil (some (tO t698 t698)) .nil) (some (tO t442 t442)) .nil)) (some (tO t122 t122)) (.node (.node (.node .nil (some (tO t634 t633)) .nil) (some (tO t378 t378)) (.node .nil (some (tO t890 t890)) .nil)) (some (tO t250 t250)) (.node (.node .nil (some (tO t762 t762)) .nil) (some (tO t506 t506)) .nil)))))) (some (tO t6 t5)) (.node (.node (.node (.node (.node (.node (.node .nil (some (tO t518 t518)) .nil) (some (tO t262 t261)) (.node .nil (some (tO t774 t774)) .nil)) (some (tO t134 t134)) (.node (.node .nil (some (tO t646 t646)) .nil) (some (tO t390 t390)) (.node .nil (some (tO t902 t902)) .nil))) (some (tO t70 t70)) (.node (.node (.node .nil (some (tO t582 t582)) .nil) (some (tO t326 t326)) (.node .nil (some (tO t838 t838)) .nil)) (some (tO t198 t198)) (.node (.node .nil (some (tO t710 t709)) .nil) (some (tO t454 t454)) .nil))) (some (tO t38 t37)) (.node (.node (.node (.node .nil (some (tO t550 t550)) .nil) (some (tO t294 t294)) (.node .nil (some (tO t806 t806)) .nil)) (some (tO t166 t166)) (.node (.node .nil (some (tO t678 t678)) .nil) (some (tO t422 t422)) .nil)) (some (tO t102 t102)) (.node (.node (.node .nil (some (tO t614 t614)) .nil) (some (tO t358 t358)) (.node .nil (some (tO t870 t870)) .nil)) (some (tO t230 t230)) (.node (.node .nil (some (tO t742 t742)) .nil) (some (tO t486 t486)) .nil)))) (some (tO t22 t22)) (.node (.node (.node (.node (.node .nil (some (tO t534 t534)) .nil) (some (tO t278 t278)) (.node .nil (some (tO t790 t790)) .nil)) (some (tO t150 t150)) (.node (.node .nil (some (tO t662 t662)) .nil) (some (tO t406 t406)) .nil)) (some (tO t86 t86)) (.node (.node (.node .nil (some (tO t598 t598)) .nil) (some (tO t342 t342)) (.node .nil (some (tO t854 t854)) .nil)) (some (tO t214 t214)) (.node (.node .nil (some (tO t726 t726)) .nil) (some (tO t470 t470)) .nil))) (some (tO t54 t54)) (.node (.node (.node (.node .nil (some (tO t566 t566)) .nil) (some (tO t310 t310)) (.node .nil (some (tO t822 t822)) .nil)) (some (tO t182 t182)) (.node (.node .nil (some (tO t694 t694)) .nil) (some (tO t438 t438)) .nil)) (some (tO t118 t118)) (.node (.node (.node .nil (some (tO t630 t630)) .nil) (some (tO t374 t374)) (.node .nil (some (tO t886 t885)) .nil)) (some (tO t246 t246)) (.node (.node .nil (some (tO t758 t758)) .nil) (some (tO t502 t502)) .nil))))) (some (tO t14 t13)) (.node (.node (.node (.node (.node (.node .nil (some (tO t526 t526)) .nil) (some (tO t270 t270)) (.node .nil (some (tO t782 t782)) .nil)) (some (tO t142 t142)) (.node (.node .nil (some (tO t654 t654)) .nil) (some (tO t398 t398)) (.node .nil (some (tO t910 t5)) .nil))) (some (tO t78 t78)) (.node (.node (.node .nil (some (tO t590 t590)) .nil) (some (tO t334 t334)) (.node .nil (some (tO t846 t846)) .nil)) (some (tO t206 t206)) (.node (.node .nil (some (tO t718 t718)) .nil) (some (tO t462 t461)) .nil))) (some (tO t46 t46)) (.node (.node (.node (.node .nil (some (tO t558 t558)) .nil) (some (tO t302 t302)) (.node .nil (some (tO t814 t814)) .nil)) (some (tO t174 t174)) (.node (.node .nil (some (tO t686 t686)) .nil) (some (tO t430 t430)) .nil)) (some (tO t110 t110)) (.node (.node (.node .nil (some (tO t622 t622)) .nil) (some (tO t366 t366)) (.node .nil (some (tO t878 t878)) .nil)) (some (tO t238 t238)) (.node (.node .nil (some (tO t750 t750)) .nil) (some (tO t494 t494)) .nil)))) (some (tO t30 t3)) (.node (.node (.node (.node (.node .nil (some (tO t542 t542)) .nil) (some (tO t286 t286)) (.node .nil (some (tO t798 t797)) .nil)) (some (tO t158 t158)) (.node (.node .nil (some (tO t670 t669)) .nil) (some (tO t414 t414)) .nil)) (some (tO t94 t94)) (.node (.node (.node .nil (some (tO t606 t606)) .nil) (some (tO t350 t350)) (.node .nil (some (tO t862 t861)) .nil)) (some (tO t222 t222)) (.node (.node .nil (some (tO t734 t734)) .nil) (some (tO t478 t478)) .nil))) (some (tO t62 t62)) (.node (.node (.node (.node .nil (some (tO t574 t574)) .nil) (some (tO t318 t318)) (.node .nil (some (tO t830 t830)) .nil)) (some (tO t190 t190)) (.node (.node .nil (some (tO t702 t702)) .nil) (some (tO t446 t446)) .nil)) (some (tO t126 t125)) (.node (.node (.node .nil (some (tO t638 t638)) .nil) (some (tO t382 t382)) (.node .nil (some (tO t894 t894)) .nil)) (some (tO t254 t254)) (.node (.node .nil (some (tO t766 t766)) .nil) (some (tO t510 t510)) .nil)))))))))
/-- half a byte; a byte -/
noncomputable def crT : Tr Nat := (.node (.node (.node (.node (.node Tr.nil (some 944750013) Tr.nil) (some 507990021) Tr.nil) (some 222504665) (.node Tr.nil (some 726387553) Tr.nil)) (some 79764919) (.node (.node Tr.nil (some 583659535) Tr.nil) (some 398814059) (.node Tr.nil (some 835552979) Tr.nil))) (some 0) (.node (.node (.node Tr.nil (some 638119352) Tr.nil) (some 319059676) (.node Tr.nil (some 890018660) Tr.nil)) (some 159529838) (.node (.node Tr.nil (some 797628118) Tr.nil) (some 445009330) (.node Tr.nil (some 1015980042) Tr.nil))))
noncomputable def crH (s n : Nat) : Nat := Nat.xor (s * 16 % 4294967296) (match crT.get (Nat.xor (s / 268435456) n) with | some x => x | none => 0)
noncomputable def crB (s c : Nat) : Nat := crH (crH s (c / 16)) (c % 16)
noncomputable def crS : List Value → Nat → Option Nat
  | [], s => some s
  | .int .u8 (.ofNat c) :: l, s => bif Nat.blt c 256 then crS l (crB s c) else none
  | _, _ => none
noncomputable def crM (args : List Value) (h : Tr AO) : Option Value :=
  match args with
  | [.int .u32 (.ofNat s), .slice a n c] => bif Nat.blt s 4294967296 && Nat.ble n 9223372036854775807 then (match firstA h 1 n (.slice a n c) with
    | some l => bif Nat.beq l.length n then (match crS l s with | some r => some (.int .u32 r) | none => none) else none
    | none => none) else none
  | _ => none
noncomputable def xE (f : Nat) (args : List Value) : Option Value :=
  match args with
  | [.int .u64 (.ofNat x), .int .u64 (.ofNat y), .int .u64 (.ofNat c)] => bif Nat.ble c 1 && Nat.blt x 18446744073709551616 && Nat.blt y 18446744073709551616 then
      (bif Nat.beq f 602 then some (.tuple #[.int .u64 ((x + y + c) % 18446744073709551616), .int .u64 ((x + y + c) / 18446744073709551616)])
       else bif Nat.beq f 601 then some (.tuple #[.int .u64 ((x + 18446744073709551616 - y - c) % 18446744073709551616), .int .u64 (bif Nat.blt x (y + c) then 1 else 0)]) else none) else none
  | _ => none
noncomputable def xO (f : Nat) (args : List Value) (h : Tr AO) : Option Value := cond (Nat.beq f 429) (crM args h) none

noncomputable def xL : Lk := ⟨xti, xfs, xO, xE, fun _ _ _ _ => none, fun _ _ _ _ => none, fun _ _ => none, fun _ _ _ => none, fun _ _ _ => none, fun _ => false⟩
end Go.Proofs.Tryz

namespace Go.Proofs.Ex
theorem Tr.AllAt.o {α : Type} {p : Nat → α → Prop} {a b : Nat} {l r : Tr α} {x : α} (hx : p b x) (hl : l.AllAt p (2 * a) (a + b)) (hr : r.AllAt p (2 * a) (2 * a + b)) : Tr.AllAt p a b (.node l (some x) r) :=
  ⟨fun y h => by cases h; exact hx, hl, hr⟩
theorem Tr.AllAt.n {α : Type} {p : Nat → α → Prop} {a b : Nat} {l r : Tr α} (hl : l.AllAt p (2 * a) (a + b)) (hr : r.AllAt p (2 * a) (2 * a + b)) : Tr.AllAt p a b (.node l none r) :=
  ⟨fun y h => (by cases h), hl, hr⟩
end Go.Proofs.Ex

namespace Go.Proofs.Tryz
open Go.Proofs.Ex
variable [Sg]
noncomputable def okU (i d : TypeInfo) : Bool := i.zero.isSome && okT i (tO i d)
theorem tOk {P : Program} {t : TypeId} {i d : TypeInfo} {c : TypeDesc} (h : P.types[t]? = some i) (hd : P.underlying t = some c) (hc : c = d.desc) (hk : okU i d = true) : TIok P t (tO i d) := by
  subst hc
  unfold okU at hk
  rw [Bool.and_eq_true] at hk
  refine .of h hd ?_ hk.2
  cases hz : i.zero with
  | none => rw [hz] at hk; cases hk.1
  | some z => show some z = some ((i.zero).getD .nilIface); rw [hz]; rfl
set_option maxRecDepth 100000 in
theorem xti_all : Tr.AllAt (TIok prog) 1 0 xti := (.o (tOk type0 underlying0 rfl (by kernel_rfl)) (.o (tOk type1 underlying1 rfl (by kernel_rfl)) (.o (tOk type3 underlying3 rfl (by kernel_rfl)) (.o (tOk type7 underlying7 rfl (by kernel_rfl)) (.o (tOk type15 underlying15 rfl (by kernel_rfl)) (.o (tOk type31 underlying31 rfl (by kernel_rfl)) (.o (tOk type63 underlying63 rfl (by kernel_rfl)) (.o (tOk type127 underlying127 rfl (by kernel_rfl)) (.o (tOk type255 underlying255 rfl (by kernel_rfl)) (.o (tOk type511 underlying511 rfl (by kernel_rfl)) .nil .nil) (.o (tOk type767 underlying767 rfl (by kernel_rfl)) .nil .nil)) (.o (tOk type383 underlying383 rfl (by kernel_rfl)) (.o (tOk type639 underlying639 rfl (by kernel_rfl)) .nil .nil) (.o (tOk type895 underlying895 rfl (by kernel_rfl)) .nil .nil))) (.o (tOk type191 underlying191 rfl (by kernel_rfl)) (.o (tOk type319 underlying319 rfl (by kernel_rfl)) (.o (tOk type575 underlying575 rfl (by kernel_rfl)) .nil .nil) (.o (tOk type831 underlying831 rfl (by kernel_rfl)) .nil .nil)) (.o (tOk type447 underlying447 rfl (by kernel_rfl)) (.o (tOk type703 underlying703 rfl (by kernel_rfl)) .nil .nil) .nil))) (.o (tOk type95 underlying95 rfl (by kernel_rfl)) (.o (tOk type159 underlying159 rfl (by kernel_rfl)) (.o (tOk type287 underlying287 rfl (by kernel_rfl)) (.o (tOk type543 underlying543 rfl (by kernel_rfl)) .nil .nil) (.o (tOk type799 underlying799 rfl (by kernel_rfl)) .nil .nil)) (.o (tOk type415 underlying415 rfl (by kernel_rfl)) (.o (tOk type671 underlying671 rfl (by kernel_rfl)) .nil .nil) .nil)) (.o (tOk type223 underlying223 rfl (by kernel_rfl)) (.o (tOk type351 underlying351 rfl (by kernel_rfl)) (.o (tOk type607 underlying607 rfl (by kernel_rfl)) .nil .nil) (.o (tOk type863 underlying863 rfl (by kernel_rfl)) .nil .nil)) (.o (tOk type479 underlying479 rfl (by kernel_rfl)) (.o (tOk type735 underlying735 rfl (by kernel_rfl)) .nil .nil) .nil)))) (.o (tOk type47 underlying47 rfl (by kernel_rfl)) (.o (tOk type79 underlying79 rfl (by kernel_rfl)) (.o (tOk type143 underlying143 rfl (by kernel_rfl)) (.o (tOk type271 underlying271 rfl (by kernel_rfl)) (.o (tOk type527 underlying527 rfl (by kernel_rfl)) .nil .nil) (.o (tOk type783 underlying783 rfl (by kernel_rfl)) .nil .nil)) (.o (tOk type399 underlying399 rfl (by kernel_rfl)) (.o (tOk type655 underlying655 rfl (by kernel_rfl)) .nil .nil) (.o (tOk type911 underlying911 rfl (by kernel_rfl)) .nil .nil))) (.o (tOk type207 underlying207 rfl (by kernel_rfl)) (.o (tOk type335 underlying335 rfl (by kernel_rfl)) (.o (tOk type591 underlying591 rfl (by kernel_rfl)) .nil .nil) (.o (tOk type847 underlying847 rfl (by kernel_rfl)) .nil .nil)) (.o (tOk type463 underlying463 rfl (by kernel_rfl)) (.o (tOk type719 underlying719 rfl (by kernel_rfl)) .nil .nil) .nil))) (.o (tOk type111 underlying111 rfl (by kernel_rfl)) (.o (tOk type175 underlying175 rfl (by kernel_rfl)) (.o (tOk type303 underlying303 rfl (by kernel_rfl)) (.o (tOk type559 underlying559 rfl (by kernel_rfl)) .nil .nil) (.o (tOk type815 underlying815 rfl (by kernel_rfl)) .nil .nil)) (.o (tOk type431 underlying431 rfl (by kernel_rfl)) (.o (tOk type687 underlying687 rfl (by kernel_rfl)) .nil .nil) .nil)) (.o (tOk type239 underlying239 rfl (by kernel_rfl)) (.o (tOk type367 underlying367 rfl (by kernel_rfl)) (.o (tOk type623 underlying623 rfl (by kernel_rfl)) .nil .nil) (.o (tOk type879 underlying879 rfl (by kernel_rfl)) .nil .nil)) (.o (tOk type495 underlying495 rfl (by kernel_rfl)) (.o (tOk type751 underlying751 rfl (by kernel_rfl)) .nil .nil) .nil))))) (.o (tOk type23 underlying23 rfl (by kernel_rfl)) (.o (tOk type39 underlying39 rfl (by kernel_rfl)) (.o (tOk type71 underlying71 rfl (by kernel_rfl)) (.o (tOk type135 underlying135 rfl (by kernel_rfl)) (.o (tOk type263 underlying263 rfl (by kernel_rfl)) (.o (tOk type519 underlying519 rfl (by kernel_rfl)) .nil .nil) (.o (tOk type775 underlying775 rfl (by kernel_rfl)) .nil .nil)) (.o (tOk type391 underlying391 rfl (by kernel_rfl)) (.o (tOk type647 underlying647 rfl (by kernel_rfl)) .nil .nil) (.o (tOk type903 underlying903 rfl (by kernel_rfl)) .nil .nil))) (.o (tOk type199 underlying199 rfl (by kernel_rfl)) (.o (tOk type327 underlying327 rfl (by kernel_rfl)) (.o (tOk type583 underlying583 rfl (by kernel_rfl)) .nil .nil) (.o (tOk type839 underlying839 rfl (by kernel_rfl)) .nil .nil)) (.o (tOk type455 underlying455 rfl (by kernel_rfl)) (.o (tOk type711 underlying711 rfl (by kernel_rfl)) .nil .nil) .nil))) (.o (tOk type103 underlying103 rfl (by kernel_rfl)) (.o (tOk type167 underlying167 rfl (by kernel_rfl)) (.o (tOk type295 underlying295 rfl (by kernel_rfl)) (.o (tOk type551 underlying551 rfl (by kernel_rfl)) .nil .nil) (.o (tOk type807 underlying807 rfl (by kernel_rfl)) .nil .nil)) (.o (tOk type423 underlying423 rfl (by kernel_rfl)) (.o (tOk type679 underlying679 rfl (by kernel_rfl)) .nil .nil) .nil)) (.o (tOk type231 underlying231 rfl (by kernel_rfl)) (.o (tOk type359 underlying359 rfl (by kernel_rfl)) (.o (tOk type615 underlying615 rfl (by kernel_rfl)) .nil .nil) (.o (tOk type871 underlying871 rfl (by kernel_rfl)) .nil .nil)) (.o (tOk type487 underlying487 rfl (by kernel_rfl)) (.o (tOk type743 underlying743 rfl (by kernel_rfl)) .nil .nil) .nil)))) (.o (tOk type55 underlying55 rfl (by kernel_rfl)) (.o (tOk type87 underlying87 rfl (by kernel_rfl)) (.o (tOk type151 underlying151 rfl (by kernel_rfl)) (.o (tOk type279 underlying279 rfl (by kernel_rfl)) (.o (tOk type535 underlying535 rfl (by kernel_rfl)) .nil .nil) (.o (tOk type791 underlying791 rfl (by kernel_rfl)) .nil .nil)) (.o (tOk type407 underlying407 rfl (by kernel_rfl)) (.o (tOk type663 underlying663 rfl (by kernel_rfl)) .nil .nil) .nil)) (.o (tOk type215 underlying215 rfl (by kernel_rfl)) (.o (tOk type343 underlying343 rfl (by kernel_rfl)) (.o (tOk type599 underlying599 rfl (by kernel_rfl)) .nil .nil) (.o (tOk type855 underlying855 rfl (by kernel_rfl)) .nil .nil)) (.o (tOk type471 underlying471 rfl (by kernel_rfl)) (.o (tOk type727 underlying727 rfl (by kernel_rfl)) .nil .nil) .nil))) (.o (tOk type119 underlying119 rfl (by kernel_rfl)) (.o (tOk type183 underlying183 rfl (by kernel_rfl)) (.o (tOk type311 underlying311 rfl (by kernel_rfl)) (.o (tOk type567 underlying567 rfl (by kernel_rfl)) .nil .nil) (.o (tOk type823 underlying823 rfl (by kernel_rfl)) .nil .nil)) (.o (tOk type439 underlying439 rfl (by kernel_rfl)) (.o (tOk type695 underlying695 rfl (by kernel_rfl)) .nil .nil) .nil)) (.o (tOk type247 underlying247 rfl (by kernel_rfl)) (.o (tOk type375 underlying375 rfl (by kernel_rfl)) (.o (tOk type631 underlying631 rfl (by kernel_rfl)) .nil .nil) (.o (tOk type887 underlying887 rfl (by kernel_rfl)) .nil .nil)) (.o (tOk type503 underlying503 rfl (by kernel_rfl)) (.o (tOk type759 underlying759 rfl (by kernel_rfl)) .nil .nil) .nil)))))) (.o (tOk type11 underlying11 rfl (by kernel_rfl)) (.o (tOk type19 underlying19 rfl (by kernel_rfl)) (.o (tOk type35 underlying35 rfl (by kernel_rfl)) (.o (tOk type67 underlying67 rfl (by kernel_rfl)) (.o (tOk type131 underlying131 rfl (by kernel_rfl)) (.o (tOk type259 underlying259 rfl (by kernel_rfl)) (.o (tOk type515 underlying515 rfl (by kernel_rfl)) .nil .nil) (.o (tOk type771 underlying771 rfl (by kernel_rfl)) .nil .nil)) (.o (tOk type387 underlying387 rfl (by kernel_rfl)) (.o (tOk type643 underlying643 rfl (by kernel_rfl)) .nil .nil) (.o (tOk type899 underlying899 rfl (by kernel_rfl)) .nil .nil))) (.o (tOk type195 underlying195 rfl (by kernel_rfl)) (.o (tOk type323 underlying323 rfl (by kernel_rfl)) (.o (tOk type579 underlying579 rfl (by kernel_rfl)) .nil .nil) (.o (tOk type835 underlying835 rfl (by kernel_rfl)) .nil .nil)) (.o (tOk type451 underlying451 rfl (by kernel_rfl)) (.o (tOk type707 underlying707 rfl (by kernel_rfl)) .nil .nil) .nil))) (.o (tOk type99 underlying99 rfl (by kernel_rfl)) (.o (tOk type163 underlying163 rfl (by kernel_rfl)) (.o (tOk type291 underlying291 rfl (by kernel_rfl)) (.o (tOk type547 underlying547 rfl (by kernel_rfl)) .nil .nil) (.o (tOk type803 underlying803 rfl (by kernel_rfl)) .nil .nil)) (.o (tOk type419 underlying419 rfl (by kernel_rfl)) (.o (tOk type675 underlying675 rfl (by kernel_rfl)) .nil .nil) .nil)) (.o (tOk type227 underlying227 rfl (by kernel_rfl)) (.o (tOk type355 underlying355 rfl (by kernel_rfl)) (.o (tOk type611 underlying611 rfl (by kernel_rfl)) .nil .nil) (.o (tOk type867 underlying867 rfl (by kernel_rfl)) .nil .nil)) (.o (tOk type483 underlying483 rfl (by kernel_rfl)) (.o (tOk type739 underlying739 rfl (by kernel_rfl)) .nil .nil) .nil)))) (.o (tOk type51 underlying51 rfl (by kernel_rfl)) (.o (tOk type83 underlying83 rfl (by kernel_rfl)) (.o (tOk type147 underlying147 rfl (by kernel_rfl)) (.o (tOk type275 underlying275 rfl (by kernel_rfl)) (.o (tOk type531 underlying531 rfl (by kernel_rfl)) .nil .nil) (.o (tOk type787 underlying787 rfl (by kernel_rfl)) .nil .nil)) (.o (tOk type403 underlying403 rfl (by kernel_rfl)) (.o (tOk type659 underlying659 rfl (by kernel_rfl)) .nil .nil) (.o (tOk type915 underlying915 rfl (by kernel_rfl)) .nil .nil))) (.o (tOk type211 underlying211 rfl (by kernel_rfl)) (.o (tOk type339 underlying339 rfl (by kernel_rfl)) (.o (tOk type595 underlying595 rfl (by kernel_rfl)) .nil .nil) (.o (tOk type851 underlying851 rfl (by kernel_rfl)) .nil .nil)) (.o (tOk type467 underlying467 rfl (by kernel_rfl)) (.o (tOk type723 underlying723 rfl (by kernel_rfl)) .nil .nil) .nil))) (.o (tOk type115 underlying115 rfl (by kernel_rfl)) (.o (tOk type179 underlying179 rfl (by kernel_rfl)) (.o (tOk type307 underlying307 rfl (by kernel_rfl)) (.o (tOk type563 underlying563 rfl (by kernel_rfl)) .nil .nil) (.o (tOk type819 underlying819 rfl (by kernel_rfl)) .nil .nil)) (.o (tOk type435 underlying435 rfl (by kernel_rfl)) (.o (tOk type691 underlying691 rfl (by kernel_rfl)) .nil .nil) .nil)) (.o (tOk type243 underlying243 rfl (by kernel_rfl)) (.o (tOk type371 underlying371 rfl (by kernel_rfl)) (.o (tOk type627 underlying627 rfl (by kernel_rfl)) .nil .nil) (.o (tOk type883 underlying883 rfl (by kernel_rfl)) .nil .nil)) (.o (tOk type499 underlying499 rfl (by kernel_rfl)) (.o (tOk type755 underlying755 rfl (by kernel_rfl)) .nil .nil) .nil))))) (.o (tOk type27 underlying27 rfl (by kernel_rfl)) (.o (tOk type43 underlying43 rfl (by kernel_rfl)) (.o (tOk type75 underlying75 rfl (by kernel_rfl)) (.o (tOk type139 underlying139 rfl (by kernel_rfl)) (.o (tOk type267 underlying267 rfl (by kernel_rfl)) (.o (tOk type523 underlying523 rfl (by kernel_rfl)) .nil .nil) (.o (tOk type779 underlying779 rfl (by kernel_rfl)) .nil .nil)) (.o (tOk type395 underlying395 rfl (by kernel_rfl)) (.o (tOk type651 underlying651 rfl (by kernel_rfl)) .nil .nil) (.o (tOk type907 underlying907 rfl (by kernel_rfl)) .nil .nil))) (.o (tOk type203 underlying203 rfl (by kernel_rfl)) (.o (tOk type331 underlying331 rfl (by kernel_rfl)) (.o (tOk type587 underlying587 rfl (by kernel_rfl)) .nil .nil) (.o (tOk type843 underlying843 rfl (by kernel_rfl)) .nil .nil)) (.o (tOk type459 underlying459 rfl (by kernel_rfl)) (.o (tOk type715 underlying715 rfl (by kernel_rfl)) .nil .nil) .nil))) (.o (tOk type107 underlying107 rfl (by kernel_rfl)) (.o (tOk type171 underlying171 rfl (by kernel_rfl)) (.o (tOk type299 underlying299 rfl (by kernel_rfl)) (.o (tOk type555 underlying555 rfl (by kernel_rfl)) .nil .nil) (.o (tOk type811 underlying811 rfl (by kernel_rfl)) .nil .nil)) (.o (tOk type427 underlying427 rfl (by kernel_rfl)) (.o (tOk type683 underlying683 rfl (by kernel_rfl)) .nil .nil) .nil)) (.o (tOk type235 underlying235 rfl (by kernel_rfl)) (.o (tOk type363 underlying363 rfl (by kernel_rfl)) (.o (tOk type619 underlying619 rfl (by kernel_rfl)) .nil .nil) (.o (tOk type875 underlying875 rfl (by kernel_rfl)) .nil .nil)) (.o (tOk type491 underlying491 rfl (by kernel_rfl)) (.o (tOk type747 underlying747 rfl (by kernel_rfl)) .nil .nil) .nil)))) (.o (tOk type59 underlying59 rfl (by kernel_rfl)) (.o (tOk type91 underlying91 rfl (by kernel_rfl)) (.o (tOk type155 underlying155 rfl (by kernel_rfl)) (.o (tOk type283 underlying283 rfl (by kernel_rfl)) (.o (tOk type539 underlying539 rfl (by kernel_rfl)) .nil .nil) (.o (tOk type795 underlying795 rfl (by kernel_rfl)) .nil .nil)) (.o (tOk type411 underlying411 rfl (by kernel_rfl)) (.o (tOk type667 underlying667 rfl (by kernel_rfl)) .nil .nil) .nil)) (.o (tOk type219 underlying219 rfl (by kernel_rfl)) (.o (tOk type347 underlying347 rfl (by kernel_rfl)) (.o (tOk type603 underlying603 rfl (by kernel_rfl)) .nil .nil) (.o (tOk type859 underlying859 rfl (by kernel_rfl)) .nil .nil)) (.o (tOk type475 underlying475 rfl (by kernel_rfl)) (.o (tOk type731 underlying731 rfl (by kernel_rfl)) .nil .nil) .nil))) (.o (tOk type123 underlying123 rfl (by kernel_rfl)) (.o (tOk type187 underlying187 rfl (by kernel_rfl)) (.o (tOk type315 underlying315 rfl (by kernel_rfl)) (.o (tOk type571 underlying571 rfl (by kernel_rfl)) .nil .nil) (.o (tOk type827 underlying827 rfl (by kernel_rfl)) .nil .nil)) (.o (tOk type443 underlying443 rfl (by kernel_rfl)) (.o (tOk type699 underlying699 rfl (by kernel_rfl)) .nil .nil) .nil)) (.o (tOk type251 underlying251 rfl (by kernel_rfl)) (.o (tOk type379 underlying379 rfl (by kernel_rfl)) (.o (tOk type635 underlying635 rfl (by kernel_rfl)) .nil .nil) (.o (tOk type891 underlying891 rfl (by kernel_rfl)) .nil .nil)) (.o (tOk type507 underlying507 rfl (by kernel_rfl)) (.o (tOk type763 underlying763 rfl (by kernel_rfl)) .nil .nil) .nil))))))) (.o (tOk type5 underlying5 rfl (by kernel_rfl)) (.o (tOk type9 underlying9 rfl (by kernel_rfl)) (.o (tOk type17 underlying17 rfl (by kernel_rfl)) (.o (tOk type33 underlying33 rfl (by kernel_rfl)) (.o (tOk type65 underlying65 rfl (by kernel_rfl)) (.o (tOk type129 underlying129 rfl (by kernel_rfl)) (.o (tOk type257 underlying257 rfl (by kernel_rfl)) (.o (tOk type513 underlying513 rfl (by kernel_rfl)) .nil .nil) (.o (tOk type769 underlying769 rfl (by kernel_rfl)) .nil .nil)) (.o (tOk type385 underlying385 rfl (by kernel_rfl)) (.o (tOk type641 underlying641 rfl (by kernel_rfl)) .nil .nil) (.o (tOk type897 underlying897 rfl (by kernel_rfl)) .nil .nil))) (.o (tOk type193 underlying193 rfl (by kernel_rfl)) (.o (tOk type321 underlying321 rfl (by kernel_rfl)) (.o (tOk type577 underlying577 rfl (by kernel_rfl)) .nil .nil) (.o (tOk type833 underlying833 rfl (by kernel_rfl)) .nil .nil)) (.o (tOk type449 underlying449 rfl (by kernel_rfl)) (.o (tOk type705 underlying705 rfl (by kernel_rfl)) .nil .nil) .nil))) (.o (tOk type97 underlying97 rfl (by kernel_rfl)) (.o (tOk type161 underlying161 rfl (by kernel_rfl)) (.o (tOk type289 underlying289 rfl (by kernel_rfl)) (.o (tOk type545 underlying545 rfl (by kernel_rfl)) .nil .nil) (.o (tOk type801 underlying801 rfl (by kernel_rfl)) .nil .nil)) (.o (tOk type417 underlying417 rfl (by kernel_rfl)) (.o (tOk type673 underlying673 rfl (by kernel_rfl)) .nil .nil) .nil)) (.o (tOk type225 underlying225 rfl (by kernel_rfl)) (.o (tOk type353 underlying353 rfl (by kernel_rfl)) (.o (tOk type609 underlying609 rfl (by kernel_rfl)) .nil .nil) (.o (tOk type865 underlying865 rfl (by kernel_rfl)) .nil .nil)) (.o (tOk type481 underlying481 rfl (by kernel_rfl)) (.o (tOk type737 underlying737 rfl (by kernel_rfl)) .nil .nil) .nil)))) (.o (tOk type49 underlying49 rfl (by kernel_rfl)) (.o (tOk type81 underlying81 rfl (by kernel_rfl)) (.o (tOk type145 underlying145 rfl (by kernel_rfl)) (.o (tOk type273 underlying273 rfl (by kernel_rfl)) (.o (tOk type529 underlying529 rfl (by kernel_rfl)) .nil .nil) (.o (tOk type785 underlying785 rfl (by kernel_rfl)) .nil .nil)) (.o (tOk type401 underlying401 rfl (by kernel_rfl)) (.o (tOk type657 underlying657 rfl (by kernel_rfl)) .nil .nil) (.o (tOk type913 underlying913 rfl (by kernel_rfl)) .nil .nil))) (.o (tOk type209 underlying209 rfl (by kernel_rfl)) (.o (tOk type337 underlying337 rfl (by kernel_rfl)) (.o (tOk type593 underlying593 rfl (by kernel_rfl)) .nil .nil) (.o (tOk type849 underlying849 rfl (by kernel_rfl)) .nil .nil)) (.o (tOk type465 underlying465 rfl (by kernel_rfl)) (.o (tOk type721 underlying721 rfl (by kernel_rfl)) .nil .nil) .nil))) (.o (tOk type113 underlying113 rfl (by kernel_rfl)) (.o (tOk type177 underlying177 rfl (by kernel_rfl)) (.o (tOk type305 underlying305 rfl (by kernel_rfl)) (.o (tOk type561 underlying561 rfl (by kernel_rfl)) .nil .nil) (.o (tOk type817 underlying817 rfl (by kernel_rfl)) .nil .nil)) (.o (tOk type433 underlying433 rfl (by kernel_rfl)) (.o (tOk type689 underlying689 rfl (by kernel_rfl)) .nil .nil) .nil)) (.o (tOk type241 underlying241 rfl (by kernel_rfl)) (.o (tOk type369 underlying369 rfl (by kernel_rfl)) (.o (tOk type625 underlying625 rfl (by kernel_rfl)) .nil .nil) (.o (tOk type881 underlying881 rfl (by kernel_rfl)) .nil .nil)) (.o (tOk type497 underlying497 rfl (by kernel_rfl)) (.o (tOk type753 underlying753 rfl (by kernel_rfl)) .nil .nil) .nil))))) (.o (tOk type25 underlying25 rfl (by kernel_rfl)) (.o (tOk type41 underlying41 rfl (by kernel_rfl)) (.o (tOk type73 underlying73 rfl (by kernel_rfl)) (.o (tOk type137 underlying137 rfl (by kernel_rfl)) (.o (tOk type265 underlying265 rfl (by kernel_rfl)) (.o (tOk type521 underlying521 rfl (by kernel_rfl)) .nil .nil) (.o (tOk type777 underlying777 rfl (by kernel_rfl)) .nil .nil)) (.o (tOk type393 underlying393 rfl (by kernel_rfl)) (.o (tOk type649 underlying649 rfl (by kernel_rfl)) .nil .nil) (.o (tOk type905 underlying905 rfl (by kernel_rfl)) .nil .nil))) (.o (tOk type201 underlying201 rfl (by kernel_rfl)) (.o (tOk type329 underlying329 rfl (by kernel_rfl)) (.o (tOk type585 underlying585 rfl (by kernel_rfl)) .nil .nil) (.o (tOk type841 underlying841 rfl (by kernel_rfl)) .nil .nil)) (.o (tOk type457 underlying457 rfl (by kernel_rfl)) (.o (tOk type713 underlying713 rfl (by kernel_rfl)) .nil .nil) .nil))) (.o (tOk type105 underlying105 rfl (by kernel_rfl)) (.o (tOk type169 underlying169 rfl (by kernel_rfl)) (.o (tOk type297 underlying297 rfl (by kernel_rfl)) (.o (tOk type553 underlying553 rfl (by kernel_rfl)) .nil .nil) (.o (tOk type809 underlying809 rfl (by kernel_rfl)) .nil .nil)) (.o (tOk type425 underlying425 rfl (by kernel_rfl)) (.o (tOk type681 underlying681 rfl (by kernel_rfl)) .nil .nil) .nil)) (.o (tOk type233 underlying233 rfl (by kernel_rfl)) (.o (tOk type361 underlying361 rfl (by kernel_rfl)) (.o (tOk type617 underlying617 rfl (by kernel_rfl)) .nil .nil) (.o (tOk type873 underlying873 rfl (by kernel_rfl)) .nil .nil)) (.o (tOk type489 underlying489 rfl (by kernel_rfl)) (.o (tOk type745 underlying745 rfl (by kernel_rfl)) .nil .nil) .nil)))) (.o (tOk type57 underlying57 rfl (by kernel_rfl)) (.o (tOk type89 underlying89 rfl (by kernel_rfl)) (.o (tOk type153 underlying153 rfl (by kernel_rfl)) (.o (tOk type281 underlying281 rfl (by kernel_rfl)) (.o (tOk type537 underlying537 rfl (by kernel_rfl)) .nil .nil) (.o (tOk type793 underlying793 rfl (by kernel_rfl)) .nil .nil)) (.o (tOk type409 underlying409 rfl (by kernel_rfl)) (.o (tOk type665 underlying665 rfl (by kernel_rfl)) .nil .nil) .nil)) (.o (tOk type217 underlying217 rfl (by kernel_rfl)) (.o (tOk type345 underlying345 rfl (by kernel_rfl)) (.o (tOk type601 underlying601 rfl (by kernel_rfl)) .nil .nil) (.o (tOk type857 underlying857 rfl (by kernel_rfl)) .nil .nil)) (.o (tOk type473 underlying473 rfl (by kernel_rfl)) (.o (tOk type729 underlying729 rfl (by kernel_rfl)) .nil .nil) .nil))) (.o (tOk type121 underlying121 rfl (by kernel_rfl)) (.o (tOk type185 underlying185 rfl (by kernel_rfl)) (.o (tOk type313 underlying313 rfl (by kernel_rfl)) (.o (tOk type569 underlying569 rfl (by kernel_rfl)) .nil .nil) (.o (tOk type825 underlying825 rfl (by kernel_rfl)) .nil .nil)) (.o (tOk type441 underlying441 rfl (by kernel_rfl)) (.o (tOk type697 underlying697 rfl (by kernel_rfl)) .nil .nil) .nil)) (.o (tOk type249 underlying249 rfl (by kernel_rfl)) (.o (tOk type377 underlying377 rfl (by kernel_rfl)) (.o (tOk type633 underlying633 rfl (by kernel_rfl)) .nil .nil) (.o (tOk type889 underlying889 rfl (by kernel_rfl)) .nil .nil)) (.o (tOk type505 underlying505 rfl (by kernel_rfl)) (.o (tOk type761 underlying761 rfl (by kernel_rfl)) .nil .nil) .nil)))))) (.o (tOk type13 underlying13 rfl (by kernel_rfl)) (.o (tOk type21 underlying21 rfl (by kernel_rfl)) (.o (tOk type37 underlying37 rfl (by kernel_rfl)) (.o (tOk type69 underlying69 rfl (by kernel_rfl)) (.o (tOk type133 underlying133 rfl (by kernel_rfl)) (.o (tOk type261 underlying261 rfl (by kernel_rfl)) (.o (tOk type517 underlying517 rfl (by kernel_rfl)) .nil .nil) (.o (tOk type773 underlying773 rfl (by kernel_rfl)) .nil .nil)) (.o (tOk type389 underlying389 rfl (by kernel_rfl)) (.o (tOk type645 underlying645 rfl (by kernel_rfl)) .nil .nil) (.o (tOk type901 underlying901 rfl (by kernel_rfl)) .nil .nil))) (.o (tOk type197 underlying197 rfl (by kernel_rfl)) (.o (tOk type325 underlying325 rfl (by kernel_rfl)) (.o (tOk type581 underlying581 rfl (by kernel_rfl)) .nil .nil) (.o (tOk type837 underlying837 rfl (by kernel_rfl)) .nil .nil)) (.o (tOk type453 underlying453 rfl (by kernel_rfl)) (.o (tOk type709 underlying709 rfl (by kernel_rfl)) .nil .nil) .nil))) (.o (tOk type101 underlying101 rfl (by kernel_rfl)) (.o (tOk type165 underlying165 rfl (by kernel_rfl)) (.o (tOk type293 underlying293 rfl (by kernel_rfl)) (.o (tOk type549 underlying549 rfl (by kernel_rfl)) .nil .nil) (.o (tOk type805 underlying805 rfl (by kernel_rfl)) .nil .nil)) (.o (tOk type421 underlying421 rfl (by kernel_rfl)) (.o (tOk type677 underlying677 rfl (by kernel_rfl)) .nil .nil) .nil)) (.o (tOk type229 underlying229 rfl (by kernel_rfl)) (.o (tOk type357 underlying357 rfl (by kernel_rfl)) (.o (tOk type613 underlying613 rfl (by kernel_rfl)) .nil .nil) (.o (tOk type869 underlying869 rfl (by kernel_rfl)) .nil .nil)) (.o (tOk type485 underlying485 rfl (by kernel_rfl)) (.o (tOk type741 underlying741 rfl (by kernel_rfl)) .nil .nil) .nil)))) (.o (tOk type53 underlying53 rfl (by kernel_rfl)) (.o (tOk type85 underlying85 rfl (by kernel_rfl)) (.o (tOk type149 underlying149 rfl (by kernel_rfl)) (.o (tOk type277 underlying277 rfl (by kernel_rfl)) (.o (tOk type533 underlying533 rfl (by kernel_rfl)) .nil .nil) (.o (tOk type789 underlying789 rfl (by kernel_rfl)) .nil .nil)) (.o (tOk type405 underlying405 rfl (by kernel_rfl)) (.o (tOk type661 underlying661 rfl (by kernel_rfl)) .nil .nil) .nil)) (.o (tOk type213 underlying213 rfl (by kernel_rfl)) (.o (tOk type341 underlying341 rfl (by kernel_rfl)) (.o (tOk type597 underlying597 rfl (by kernel_rfl)) .nil .nil) (.o (tOk type853 underlying853 rfl (by kernel_rfl)) .nil .nil)) (.o (tOk type469 underlying469 rfl (by kernel_rfl)) (.o (tOk type725 underlying725 rfl (by kernel_rfl)) .nil .nil) .nil))) (.o (tOk type117 underlying117 rfl (by kernel_rfl)) (.o (tOk type181 underlying181 rfl (by kernel_rfl)) (.o (tOk type309 underlying309 rfl (by kernel_rfl)) (.o (tOk type565 underlying565 rfl (by kernel_rfl)) .nil .nil) (.o (tOk type821 underlying821 rfl (by kernel_rfl)) .nil .nil)) (.o (tOk type437 underlying437 rfl (by kernel_rfl)) (.o (tOk type693 underlying693 rfl (by kernel_rfl)) .nil .nil) .nil)) (.o (tOk type245 underlying245 rfl (by kernel_rfl)) (.o (tOk type373 underlying373 rfl (by kernel_rfl)) (.o (tOk type629 underlying629 rfl (by kernel_rfl)) .nil .nil) (.o (tOk type885 underlying885 rfl (by kernel_rfl)) .nil .nil)) (.o (tOk type501 underlying501 rfl (by kernel_rfl)) (.o (tOk type757 underlying757 rfl (by kernel_rfl)) .nil .nil) .nil))))) (.o (tOk type29 underlying29 rfl (by kernel_rfl)) (.o (tOk type45 underlying45 rfl (by kernel_rfl)) (.o (tOk type77 underlying77 rfl (by kernel_rfl)) (.o (tOk type141 underlying141 rfl (by kernel_rfl)) (.o (tOk type269 underlying269 rfl (by kernel_rfl)) (.o (tOk type525 underlying525 rfl (by kernel_rfl)) .nil .nil) (.o (tOk type781 underlying781 rfl (by kernel_rfl)) .nil .nil)) (.o (tOk type397 underlying397 rfl (by kernel_rfl)) (.o (tOk type653 underlying653 rfl (by kernel_rfl)) .nil .nil) (.o (tOk type909 underlying909 rfl (by kernel_rfl)) .nil .nil))) (.o (tOk type205 underlying205 rfl (by kernel_rfl)) (.o (tOk type333 underlying333 rfl (by kernel_rfl)) (.o (tOk type589 underlying589 rfl (by kernel_rfl)) .nil .nil) (.o (tOk type845 underlying845 rfl (by kernel_rfl)) .nil .nil)) (.o (tOk type461 underlying461 rfl (by kernel_rfl)) (.o (tOk type717 underlying717 rfl (by kernel_rfl)) .nil .nil) .nil))) (.o (tOk type109 underlying109 rfl (by kernel_rfl)) (.o (tOk type173 underlying173 rfl (by kernel_rfl)) (.o (tOk type301 underlying301 rfl (by kernel_rfl)) (.o (tOk type557 underlying557 rfl (by kernel_rfl)) .nil .nil) (.o (tOk type813 underlying813 rfl (by kernel_rfl)) .nil .nil)) (.o (tOk type429 underlying429 rfl (by kernel_rfl)) (.o (tOk type685 underlying685 rfl (by kernel_rfl)) .nil .nil) .nil)) (.o (tOk type237 underlying237 rfl (by kernel_rfl)) (.o (tOk type365 underlying365 rfl (by kernel_rfl)) (.o (tOk type621 underlying621 rfl (by kernel_rfl)) .nil .nil) (.o (tOk type877 underlying877 rfl (by kernel_rfl)) .nil .nil)) (.o (tOk type493 underlying493 rfl (by kernel_rfl)) (.o (tOk type749 underlying749 rfl (by kernel_rfl)) .nil .nil) .nil)))) (.o (tOk type61 underlying61 rfl (by kernel_rfl)) (.o (tOk type93 underlying93 rfl (by kernel_rfl)) (.o (tOk type157 underlying157 rfl (by kernel_rfl)) (.o (tOk type285 underlying285 rfl (by kernel_rfl)) (.o (tOk type541 underlying541 rfl (by kernel_rfl)) .nil .nil) (.o (tOk type797 underlying797 rfl (by kernel_rfl)) .nil .nil)) (.o (tOk type413 underlying413 rfl (by kernel_rfl)) (.o (tOk type669 underlying669 rfl (by kernel_rfl)) .nil .nil) .nil)) (.o (tOk type221 underlying221 rfl (by kernel_rfl)) (.o (tOk type349 underlying349 rfl (by kernel_rfl)) (.o (tOk type605 underlying605 rfl (by kernel_rfl)) .nil .nil) (.o (tOk type861 underlying861 rfl (by kernel_rfl)) .nil .nil)) (.o (tOk type477 underlying477 rfl (by kernel_rfl)) (.o (tOk type733 underlying733 rfl (by kernel_rfl)) .nil .nil) .nil))) (.o (tOk type125 underlying125 rfl (by kernel_rfl)) (.o (tOk type189 underlying189 rfl (by kernel_rfl)) (.o (tOk type317 underlying317 rfl (by kernel_rfl)) (.o (tOk type573 underlying573 rfl (by kernel_rfl)) .nil .nil) (.o (tOk type829 underlying829 rfl (by kernel_rfl)) .nil .nil)) (.o (tOk type445 underlying445 rfl (by kernel_rfl)) (.o (tOk type701 underlying701 rfl (by kernel_rfl)) .nil .nil) .nil)) (.o (tOk type253 underlying253 rfl (by kernel_rfl)) (.o (tOk type381 underlying381 rfl (by kernel_rfl)) (.o (tOk type637 underlying637 rfl (by kernel_rfl)) .nil .nil) (.o (tOk type893 underlying893 rfl (by kernel_rfl)) .nil .nil)) (.o (tOk type509 underlying509 rfl (by kernel_rfl)) (.o (tOk type765 underlying765 rfl (by kernel_rfl)) .nil .nil) .nil)))))))) (.o (tOk type2 underlying2 rfl (by kernel_rfl)) (.o (tOk type4 underlying4 rfl (by kernel_rfl)) (.o (tOk type8 underlying8 rfl (by kernel_rfl)) (.o (tOk type16 underlying16 rfl (by kernel_rfl)) (.o (tOk type32 underlying32 rfl (by kernel_rfl)) (.o (tOk type64 underlying64 rfl (by kernel_rfl)) (.o (tOk type128 underlying128 rfl (by kernel_rfl)) (.o (tOk type256 underlying256 rfl (by kernel_rfl)) (.o (tOk type512 underlying512 rfl (by kernel_rfl)) .nil .nil) (.o (tOk type768 underlying768 rfl (by kernel_rfl)) .nil .nil)) (.o (tOk type384 underlying384 rfl (by kernel_rfl)) (.o (tOk type640 underlying640 rfl (by kernel_rfl)) .nil .nil) (.o (tOk type896 underlying896 rfl (by kernel_rfl)) .nil .nil))) (.o (tOk type192 underlying192 rfl (by kernel_rfl)) (.o (tOk type320 underlying320 rfl (by kernel_rfl)) (.o (tOk type576 underlying576 rfl (by kernel_rfl)) .nil .nil) (.o (tOk type832 underlying832 rfl (by kernel_rfl)) .nil .nil)) (.o (tOk type448 underlying448 rfl (by kernel_rfl)) (.o (tOk type704 underlying704 rfl (by kernel_rfl)) .nil .nil) .nil))) (.o (tOk type96 underlying96 rfl (by kernel_rfl)) (.o (tOk type160 underlying160 rfl (by kernel_rfl)) (.o (tOk type288 underlying288 rfl (by kernel_rfl)) (.o (tOk type544 underlying544 rfl (by kernel_rfl)) .nil .nil) (.o (tOk type800 underlying800 rfl (by kernel_rfl)) .nil .nil)) (.o (tOk type416 underlying416 rfl (by kernel_rfl)) (.o (tOk type672 underlying672 rfl (by kernel_rfl)) .nil .nil) .nil)) (.o (tOk type224 underlying224 rfl (by kernel_rfl)) (.o (tOk type352 underlying352 rfl (by kernel_rfl)) (.o (tOk type608 underlying608 rfl (by kernel_rfl)) .nil .nil) (.o (tOk type864 underlying864 rfl (by kernel_rfl)) .nil .nil)) (.o (tOk type480 underlying480 rfl (by kernel_rfl)) (.o (tOk type736 underlying736 rfl (by kernel_rfl)) .nil .nil) .nil)))) (.o (tOk type48 underlying48 rfl (by kernel_rfl)) (.o (tOk type80 underlying80 rfl (by kernel_rfl)) (.o (tOk type144 underlying144 rfl (by kernel_rfl)) (.o (tOk type272 underlying272 rfl (by kernel_rfl)) (.o (tOk type528 underlying528 rfl (by kernel_rfl)) .nil .nil) (.o (tOk type784 underlying784 rfl (by kernel_rfl)) .nil .nil)) (.o (tOk type400 underlying400 rfl (by kernel_rfl)) (.o (tOk type656 underlying656 rfl (by kernel_rfl)) .nil .nil) (.o (tOk type912 underlying912 rfl (by kernel_rfl)) .nil .nil))) (.o (tOk type208 underlying208 rfl (by kernel_rfl)) (.o (tOk type336 underlying336 rfl (by kernel_rfl)) (.o (tOk type592 underlying592 rfl (by kernel_rfl)) .nil .nil) (.o (tOk type848 underlying848 rfl (by kernel_rfl)) .nil .nil)) (.o (tOk type464 underlying464 rfl (by kernel_rfl)) (.o (tOk type720 underlying720 rfl (by kernel_rfl)) .nil .nil) .nil))) (.o (tOk type112 underlying112 rfl (by kernel_rfl)) (.o (tOk type176 underlying176 rfl (by kernel_rfl)) (.o (tOk type304 underlying304 rfl (by kernel_rfl)) (.o (tOk type560 underlying560 rfl (by kernel_rfl)) .nil .nil) (.o (tOk type816 underlying816 rfl (by kernel_rfl)) .nil .nil)) (.o (tOk type432 underlying432 rfl (by kernel_rfl)) (.o (tOk type688 underlying688 rfl (by kernel_rfl)) .nil .nil) .nil)) (.o (tOk type240 underlying240 rfl (by kernel_rfl)) (.o (tOk type368 underlying368 rfl (by kernel_rfl)) (.o (tOk type624 underlying624 rfl (by kernel_rfl)) .nil .nil) (.o (tOk type880 underlying880 rfl (by kernel_rfl)) .nil .nil)) (.o (tOk type496 underlying496 rfl (by kernel_rfl)) (.o (tOk type752 underlying752 rfl (by kernel_rfl)) .nil .nil) .nil))))) (.o (tOk type24 underlying24 rfl (by kernel_rfl)) (.o (tOk type40 underlying40 rfl (by kernel_rfl)) (.o (tOk type72 underlying72 rfl (by kernel_rfl)) (.o (tOk type136 underlying136 rfl (by kernel_rfl)) (.o (tOk type264 underlying264 rfl (by kernel_rfl)) (.o (tOk type520 underlying520 rfl (by kernel_rfl)) .nil .nil) (.o (tOk type776 underlying776 rfl (by kernel_rfl)) .nil .nil)) (.o (tOk type392 underlying392 rfl (by kernel_rfl)) (.o (tOk type648 underlying648 rfl (by kernel_rfl)) .nil .nil) (.o (tOk type904 underlying904 rfl (by kernel_rfl)) .nil .nil))) (.o (tOk type200 underlying200 rfl (by kernel_rfl)) (.o (tOk type328 underlying328 rfl (by kernel_rfl)) (.o (tOk type584 underlying584 rfl (by kernel_rfl)) .nil .nil) (.o (tOk type840 underlying840 rfl (by kernel_rfl)) .nil .nil)) (.o (tOk type456 underlying456 rfl (by kernel_rfl)) (.o (tOk type712 underlying712 rfl (by kernel_rfl)) .nil .nil) .nil))) (.o (tOk type104 underlying104 rfl (by kernel_rfl)) (.o (tOk type168 underlying168 rfl (by kernel_rfl)) (.o (tOk type296 underlying296 rfl (by kernel_rfl)) (.o (tOk type552 underlying552 rfl (by kernel_rfl)) .nil .nil) (.o (tOk type808 underlying808 rfl (by kernel_rfl)) .nil .nil)) (.o (tOk type424 underlying424 rfl (by kernel_rfl)) (.o (tOk type680 underlying680 rfl (by kernel_rfl)) .nil .nil) .nil)) (.o (tOk type232 underlying232 rfl (by kernel_rfl)) (.o (tOk type360 underlying360 rfl (by kernel_rfl)) (.o (tOk type616 underlying616 rfl (by kernel_rfl)) .nil .nil) (.o (tOk type872 underlying872 rfl (by kernel_rfl)) .nil .nil)) (.o (tOk type488 underlying488 rfl (by kernel_rfl)) (.o (tOk type744 underlying744 rfl (by kernel_rfl)) .nil .nil) .nil)))) (.o (tOk type56 underlying56 rfl (by kernel_rfl)) (.o (tOk type88 underlying88 rfl (by kernel_rfl)) (.o (tOk type152 underlying152 rfl (by kernel_rfl)) (.o (tOk type280 underlying280 rfl (by kernel_rfl)) (.o (tOk type536 underlying536 rfl (by kernel_rfl)) .nil .nil) (.o (tOk type792 underlying792 rfl (by kernel_rfl)) .nil .nil)) (.o (tOk type408 underlying408 rfl (by kernel_rfl)) (.o (tOk type664 underlying664 rfl (by kernel_rfl)) .nil .nil) .nil)) (.o (tOk type216 underlying216 rfl (by kernel_rfl)) (.o (tOk type344 underlying344 rfl (by kernel_rfl)) (.o (tOk type600 underlying600 rfl (by kernel_rfl)) .nil .nil) (.o (tOk type856 underlying856 rfl (by kernel_rfl)) .nil .nil)) (.o (tOk type472 underlying472 rfl (by kernel_rfl)) (.o (tOk type728 underlying728 rfl (by kernel_rfl)) .nil .nil) .nil))) (.o (tOk type120 underlying120 rfl (by kernel_rfl)) (.o (tOk type184 underlying184 rfl (by kernel_rfl)) (.o (tOk type312 underlying312 rfl (by kernel_rfl)) (.o (tOk type568 underlying568 rfl (by kernel_rfl)) .nil .nil) (.o (tOk type824 underlying824 rfl (by kernel_rfl)) .nil .nil)) (.o (tOk type440 underlying440 rfl (by kernel_rfl)) (.o (tOk type696 underlying696 rfl (by kernel_rfl)) .nil .nil) .nil)) (.o (tOk type248 underlying248 rfl (by kernel_rfl)) (.o (tOk type376 underlying376 rfl (by kernel_rfl)) (.o (tOk type632 underlying632 rfl (by kernel_rfl)) .nil .nil) (.o (tOk type888 underlying888 rfl (by kernel_rfl)) .nil .nil)) (.o (tOk type504 underlying504 rfl (by kernel_rfl)) (.o (tOk type760 underlying760 rfl (by kernel_rfl)) .nil .nil) .nil)))))) (.o (tOk type12 underlying12 rfl (by kernel_rfl)) (.o (tOk type20 underlying20 rfl (by kernel_rfl)) (.o (tOk type36 underlying36 rfl (by kernel_rfl)) (.o (tOk type68 underlying68 rfl (by kernel_rfl)) (.o (tOk type132 underlying132 rfl (by kernel_rfl)) (.o (tOk type260 underlying260 rfl (by kernel_rfl)) (.o (tOk type516 underlying516 rfl (by kernel_rfl)) .nil .nil) (.o (tOk type772 underlying772 rfl (by kernel_rfl)) .nil .nil)) (.o (tOk type388 underlying388 rfl (by kernel_rfl)) (.o (tOk type644 underlying644 rfl (by kernel_rfl)) .nil .nil) (.o (tOk type900 underlying900 rfl (by kernel_rfl)) .nil .nil))) (.o (tOk type196 underlying196 rfl (by kernel_rfl)) (.o (tOk type324 underlying324 rfl (by kernel_rfl)) (.o (tOk type580 underlying580 rfl (by kernel_rfl)) .nil .nil) (.o (tOk type836 underlying836 rfl (by kernel_rfl)) .nil .nil)) (.o (tOk type452 underlying452 rfl (by kernel_rfl)) (.o (tOk type708 underlying708 rfl (by kernel_rfl)) .nil .nil) .nil))) (.o (tOk type100 underlying100 rfl (by kernel_rfl)) (.o (tOk type164 underlying164 rfl (by kernel_rfl)) (.o (tOk type292 underlying292 rfl (by kernel_rfl)) (.o (tOk type548 underlying548 rfl (by kernel_rfl)) .nil .nil) (.o (tOk type804 underlying804 rfl (by kernel_rfl)) .nil .nil)) (.o (tOk type420 underlying420 rfl (by kernel_rfl)) (.o (tOk type676 underlying676 rfl (by kernel_rfl)) .nil .nil) .nil)) (.o (tOk type228 underlying228 rfl (by kernel_rfl)) (.o (tOk type356 underlying356 rfl (by kernel_rfl)) (.o (tOk type612 underlying612 rfl (by kernel_rfl)) .nil .nil) (.o (tOk type868 underlying868 rfl (by kernel_rfl)) .nil .nil)) (.o (tOk type484 underlying484 rfl (by kernel_rfl)) (.o (tOk type740 underlying740 rfl (by kernel_rfl)) .nil .nil) .nil)))) (.o (tOk type52 underlying52 rfl (by kernel_rfl)) (.o (tOk type84 underlying84 rfl (by kernel_rfl)) (.o (tOk type148 underlying148 rfl (by kernel_rfl)) (.o (tOk type276 underlying276 rfl (by kernel_rfl)) (.o (tOk type532 underlying532 rfl (by kernel_rfl)) .nil .nil) (.o (tOk type788 underlying788 rfl (by kernel_rfl)) .nil .nil)) (.o (tOk type404 underlying404 rfl (by kernel_rfl)) (.o (tOk type660 underlying660 rfl (by kernel_rfl)) .nil .nil) (.o (tOk type916 underlying916 rfl (by kernel_rfl)) .nil .nil))) (.o (tOk type212 underlying212 rfl (by kernel_rfl)) (.o (tOk type340 underlying340 rfl (by kernel_rfl)) (.o (tOk type596 underlying596 rfl (by kernel_rfl)) .nil .nil) (.o (tOk type852 underlying852 rfl (by kernel_rfl)) .nil .nil)) (.o (tOk type468 underlying468 rfl (by kernel_rfl)) (.o (tOk type724 underlying724 rfl (by kernel_rfl)) .nil .nil) .nil))) (.o (tOk type116 underlying116 rfl (by kernel_rfl)) (.o (tOk type180 underlying180 rfl (by kernel_rfl)) (.o (tOk type308 underlying308 rfl (by kernel_rfl)) (.o (tOk type564 underlying564 rfl (by kernel_rfl)) .nil .nil) (.o (tOk type820 underlying820 rfl (by kernel_rfl)) .nil .nil)) (.o (tOk type436 underlying436 rfl (by kernel_rfl)) (.o (tOk type692 underlying692 rfl (by kernel_rfl)) .nil .nil) .nil)) (.o (tOk type244 underlying244 rfl (by kernel_rfl)) (.o (tOk type372 underlying372 rfl (by kernel_rfl)) (.o (tOk type628 underlying628 rfl (by kernel_rfl)) .nil .nil) (.o (tOk type884 underlying884 rfl (by kernel_rfl)) .nil .nil)) (.o (tOk type500 underlying500 rfl (by kernel_rfl)) (.o (tOk type756 underlying756 rfl (by kernel_rfl)) .nil .nil) .nil))))) (.o (tOk type28 underlying28 rfl (by kernel_rfl)) (.o (tOk type44 underlying44 rfl (by kernel_rfl)) (.o (tOk type76 underlying76 rfl (by kernel_rfl)) (.o (tOk type140 underlying140 rfl (by kernel_rfl)) (.o (tOk type268 underlying268 rfl (by kernel_rfl)) (.o (tOk type524 underlying524 rfl (by kernel_rfl)) .nil .nil) (.o (tOk type780 underlying780 rfl (by kernel_rfl)) .nil .nil)) (.o (tOk type396 underlying396 rfl (by kernel_rfl)) (.o (tOk type652 underlying652 rfl (by kernel_rfl)) .nil .nil) (.o (tOk type908 underlying908 rfl (by kernel_rfl)) .nil .nil))) (.o (tOk type204 underlying204 rfl (by kernel_rfl)) (.o (tOk type332 underlying332 rfl (by kernel_rfl)) (.o (tOk type588 underlying588 rfl (by kernel_rfl)) .nil .nil) (.o (tOk type844 underlying844 rfl (by kernel_rfl)) .nil .nil)) (.o (tOk type460 underlying460 rfl (by kernel_rfl)) (.o (tOk type716 underlying716 rfl (by kernel_rfl)) .nil .nil) .nil))) (.o (tOk type108 underlying108 rfl (by kernel_rfl)) (.o (tOk type172 underlying172 rfl (by kernel_rfl)) (.o (tOk type300 underlying300 rfl (by kernel_rfl)) (.o (tOk type556 underlying556 rfl (by kernel_rfl)) .nil .nil) (.o (tOk type812 underlying812 rfl (by kernel_rfl)) .nil .nil)) (.o (tOk type428 underlying428 rfl (by kernel_rfl)) (.o (tOk type684 underlying684 rfl (by kernel_rfl)) .nil .nil) .nil)) (.o (tOk type236 underlying236 rfl (by kernel_rfl)) (.o (tOk type364 underlying364 rfl (by kernel_rfl)) (.o (tOk type620 underlying620 rfl (by kernel_rfl)) .nil .nil) (.o (tOk type876 underlying876 rfl (by kernel_rfl)) .nil .nil)) (.o (tOk type492 underlying492 rfl (by kernel_rfl)) (.o (tOk type748 underlying748 rfl (by kernel_rfl)) .nil .nil) .nil)))) (.o (tOk type60 underlying60 rfl (by kernel_rfl)) (.o (tOk type92 underlying92 rfl (by kernel_rfl)) (.o (tOk type156 underlying156 rfl (by kernel_rfl)) (.o (tOk type284 underlying284 rfl (by kernel_rfl)) (.o (tOk type540 underlying540 rfl (by kernel_rfl)) .nil .nil) (.o (tOk type796 underlying796 rfl (by kernel_rfl)) .nil .nil)) (.o (tOk type412 underlying412 rfl (by kernel_rfl)) (.o (tOk type668 underlying668 rfl (by kernel_rfl)) .nil .nil) .nil)) (.o (tOk type220 underlying220 rfl (by kernel_rfl)) (.o (tOk type348 underlying348 rfl (by kernel_rfl)) (.o (tOk type604 underlying604 rfl (by kernel_rfl)) .nil .nil) (.o (tOk type860 underlying860 rfl (by kernel_rfl)) .nil .nil)) (.o (tOk type476 underlying476 rfl (by kernel_rfl)) (.o (tOk type732 underlying732 rfl (by kernel_rfl)) .nil .nil) .nil))) (.o (tOk type124 underlying124 rfl (by kernel_rfl)) (.o (tOk type188 underlying188 rfl (by kernel_rfl)) (.o (tOk type316 underlying316 rfl (by kernel_rfl)) (.o (tOk type572 underlying572 rfl (by kernel_rfl)) .nil .nil) (.o (tOk type828 underlying828 rfl (by kernel_rfl)) .nil .nil)) (.o (tOk type444 underlying444 rfl (by kernel_rfl)) (.o (tOk type700 underlying700 rfl (by kernel_rfl)) .nil .nil) .nil)) (.o (tOk type252 underlying252 rfl (by kernel_rfl)) (.o (tOk type380 underlying380 rfl (by kernel_rfl)) (.o (tOk type636 underlying636 rfl (by kernel_rfl)) .nil .nil) (.o (tOk type892 underlying892 rfl (by kernel_rfl)) .nil .nil)) (.o (tOk type508 underlying508 rfl (by kernel_rfl)) (.o (tOk type764 underlying764 rfl (by kernel_rfl)) .nil .nil) .nil))))))) (.o (tOk type6 underlying6 rfl (by kernel_rfl)) (.o (tOk type10 underlying10 rfl (by kernel_rfl)) (.o (tOk type18 underlying18 rfl (by kernel_rfl)) (.o (tOk type34 underlying34 rfl (by kernel_rfl)) (.o (tOk type66 underlying66 rfl (by kernel_rfl)) (.o (tOk type130 underlying130 rfl (by kernel_rfl)) (.o (tOk type258 underlying258 rfl (by kernel_rfl)) (.o (tOk type514 underlying514 rfl (by kernel_rfl)) .nil .nil) (.o (tOk type770 underlying770 rfl (by kernel_rfl)) .nil .nil)) (.o (tOk type386 underlying386 rfl (by kernel_rfl)) (.o (tOk type642 underlying642 rfl (by kernel_rfl)) .nil .nil) (.o (tOk type898 underlying898 rfl (by kernel_rfl)) .nil .nil))) (.o (tOk type194 underlying194 rfl (by kernel_rfl)) (.o (tOk type322 underlying322 rfl (by kernel_rfl)) (.o (tOk type578 underlying578 rfl (by kernel_rfl)) .nil .nil) (.o (tOk type834 underlying834 rfl (by kernel_rfl)) .nil .nil)) (.o (tOk type450 underlying450 rfl (by kernel_rfl)) (.o (tOk type706 underlying706 rfl (by kernel_rfl)) .nil .nil) .nil))) (.o (tOk type98 underlying98 rfl (by kernel_rfl)) (.o (tOk type162 underlying162 rfl (by kernel_rfl)) (.o (tOk type290 underlying290 rfl (by kernel_rfl)) (.o (tOk type546 underlying546 rfl (by kernel_rfl)) .nil .nil) (.o (tOk type802 underlying802 rfl (by kernel_rfl)) .nil .nil)) (.o (tOk type418 underlying418 rfl (by kernel_rfl)) (.o (tOk type674 underlying674 rfl (by kernel_rfl)) .nil .nil) .nil)) (.o (tOk type226 underlying226 rfl (by kernel_rfl)) (.o (tOk type354 underlying354 rfl (by kernel_rfl)) (.o (tOk type610 underlying610 rfl (by kernel_rfl)) .nil .nil) (.o (tOk type866 underlying866 rfl (by kernel_rfl)) .nil .nil)) (.o (tOk type482 underlying482 rfl (by kernel_rfl)) (.o (tOk type738 underlying738 rfl (by kernel_rfl)) .nil .nil) .nil)))) (.o (tOk type50 underlying50 rfl (by kernel_rfl)) (.o (tOk type82 underlying82 rfl (by kernel_rfl)) (.o (tOk type146 underlying146 rfl (by kernel_rfl)) (.o (tOk type274 underlying274 rfl (by kernel_rfl)) (.o (tOk type530 underlying530 rfl (by kernel_rfl)) .nil .nil) (.o (tOk type786 underlying786 rfl (by kernel_rfl)) .nil .nil)) (.o (tOk type402 underlying402 rfl (by kernel_rfl)) (.o (tOk type658 underlying658 rfl (by kernel_rfl)) .nil .nil) (.o (tOk type914 underlying914 rfl (by kernel_rfl)) .nil .nil))) (.o (tOk type210 underlying210 rfl (by kernel_rfl)) (.o (tOk type338 underlying338 rfl (by kernel_rfl)) (.o (tOk type594 underlying594 rfl (by kernel_rfl)) .nil .nil) (.o (tOk type850 underlying850 rfl (by kernel_rfl)) .nil .nil)) (.o (tOk type466 underlying466 rfl (by kernel_rfl)) (.o (tOk type722 underlying722 rfl (by kernel_rfl)) .nil .nil) .nil))) (.o (tOk type114 underlying114 rfl (by kernel_rfl)) (.o (tOk type178 underlying178 rfl (by kernel_rfl)) (.o (tOk type306 underlying306 rfl (by kernel_rfl)) (.o (tOk type562 underlying562 rfl (by kernel_rfl)) .nil .nil) (.o (tOk type818 underlying818 rfl (by kernel_rfl)) .nil .nil)) (.o (tOk type434 underlying434 rfl (by kernel_rfl)) (.o (tOk type690 underlying690 rfl (by kernel_rfl)) .nil .nil) .nil)) (.o (tOk type242 underlying242 rfl (by kernel_rfl)) (.o (tOk type370 underlying370 rfl (by kernel_rfl)) (.o (tOk type626 underlying626 rfl (by kernel_rfl)) .nil .nil) (.o (tOk type882 underlying882 rfl (by kernel_rfl)) .nil .nil)) (.o (tOk type498 underlying498 rfl (by kernel_rfl)) (.o (tOk type754 underlying754 rfl (by kernel_rfl)) .nil .nil) .nil))))) (.o (tOk type26 underlying26 rfl (by kernel_rfl)) (.o (tOk type42 underlying42 rfl (by kernel_rfl)) (.o (tOk type74 underlying74 rfl (by kernel_rfl)) (.o (tOk type138 underlying138 rfl (by kernel_rfl)) (.o (tOk type266 underlying266 rfl (by kernel_rfl)) (.o (tOk type522 underlying522 rfl (by kernel_rfl)) .nil .nil) (.o (tOk type778 underlying778 rfl (by kernel_rfl)) .nil .nil)) (.o (tOk type394 underlying394 rfl (by kernel_rfl)) (.o (tOk type650 underlying650 rfl (by kernel_rfl)) .nil .nil) (.o (tOk type906 underlying906 rfl (by kernel_rfl)) .nil .nil))) (.o (tOk type202 underlying202 rfl (by kernel_rfl)) (.o (tOk type330 underlying330 rfl (by kernel_rfl)) (.o (tOk type586 underlying586 rfl (by kernel_rfl)) .nil .nil) (.o (tOk type842 underlying842 rfl (by kernel_rfl)) .nil .nil)) (.o (tOk type458 underlying458 rfl (by kernel_rfl)) (.o (tOk type714 underlying714 rfl (by kernel_rfl)) .nil .nil) .nil))) (.o (tOk type106 underlying106 rfl (by kernel_rfl)) (.o (tOk type170 underlying170 rfl (by kernel_rfl)) (.o (tOk type298 underlying298 rfl (by kernel_rfl)) (.o (tOk type554 underlying554 rfl (by kernel_rfl)) .nil .nil) (.o (tOk type810 underlying810 rfl (by kernel_rfl)) .nil .nil)) (.o (tOk type426 underlying426 rfl (by kernel_rfl)) (.o (tOk type682 underlying682 rfl (by kernel_rfl)) .nil .nil) .nil)) (.o (tOk type234 underlying234 rfl (by kernel_rfl)) (.o (tOk type362 underlying362 rfl (by kernel_rfl)) (.o (tOk type618 underlying618 rfl (by kernel_rfl)) .nil .nil) (.o (tOk type874 underlying874 rfl (by kernel_rfl)) .nil .nil)) (.o (tOk type490 underlying490 rfl (by kernel_rfl)) (.o (tOk type746 underlying746 rfl (by kernel_rfl)) .nil .nil) .nil)))) (.o (tOk type58 underlying58 rfl (by kernel_rfl)) (.o (tOk type90 underlying90 rfl (by kernel_rfl)) (.o (tOk type154 underlying154 rfl (by kernel_rfl)) (.o (tOk type282 underlying282 rfl (by kernel_rfl)) (.o (tOk type538 underlying538 rfl (by kernel_rfl)) .nil .nil) (.o (tOk type794 underlying794 rfl (by kernel_rfl)) .nil .nil)) (.o (tOk type410 underlying410 rfl (by kernel_rfl)) (.o (tOk type666 underlying666 rfl (by kernel_rfl)) .nil .nil) .nil)) (.o (tOk type218 underlying218 rfl (by kernel_rfl)) (.o (tOk type346 underlying346 rfl (by kernel_rfl)) (.o (tOk type602 underlying602 rfl (by kernel_rfl)) .nil .nil) (.o (tOk type858 underlying858 rfl (by kernel_rfl)) .nil .nil)) (.o (tOk type474 underlying474 rfl (by kernel_rfl)) (.o (tOk type730 underlying730 rfl (by kernel_rfl)) .nil .nil) .nil))) (.o (tOk type122 underlying122 rfl (by kernel_rfl)) (.o (tOk type186 underlying186 rfl (by kernel_rfl)) (.o (tOk type314 underlying314 rfl (by kernel_rfl)) (.o (tOk type570 underlying570 rfl (by kernel_rfl)) .nil .nil) (.o (tOk type826 underlying826 rfl (by kernel_rfl)) .nil .nil)) (.o (tOk type442 underlying442 rfl (by kernel_rfl)) (.o (tOk type698 underlying698 rfl (by kernel_rfl)) .nil .nil) .nil)) (.o (tOk type250 underlying250 rfl (by kernel_rfl)) (.o (tOk type378 underlying378 rfl (by kernel_rfl)) (.o (tOk type634 underlying634 rfl (by kernel_rfl)) .nil .nil) (.o (tOk type890 underlying890 rfl (by kernel_rfl)) .nil .nil)) (.o (tOk type506 underlying506 rfl (by kernel_rfl)) (.o (tOk type762 underlying762 rfl (by kernel_rfl)) .nil .nil) .nil)))))) (.o (tOk type14 underlying14 rfl (by kernel_rfl)) (.o (tOk type22 underlying22 rfl (by kernel_rfl)) (.o (tOk type38 underlying38 rfl (by kernel_rfl)) (.o (tOk type70 underlying70 rfl (by kernel_rfl)) (.o (tOk type134 underlying134 rfl (by kernel_rfl)) (.o (tOk type262 underlying262 rfl (by kernel_rfl)) (.o (tOk type518 underlying518 rfl (by kernel_rfl)) .nil .nil) (.o (tOk type774 underlying774 rfl (by kernel_rfl)) .nil .nil)) (.o (tOk type390 underlying390 rfl (by kernel_rfl)) (.o (tOk type646 underlying646 rfl (by kernel_rfl)) .nil .nil) (.o (tOk type902 underlying902 rfl (by kernel_rfl)) .nil .nil))) (.o (tOk type198 underlying198 rfl (by kernel_rfl)) (.o (tOk type326 underlying326 rfl (by kernel_rfl)) (.o (tOk type582 underlying582 rfl (by kernel_rfl)) .nil .nil) (.o (tOk type838 underlying838 rfl (by kernel_rfl)) .nil .nil)) (.o (tOk type454 underlying454 rfl (by kernel_rfl)) (.o (tOk type710 underlying710 rfl (by kernel_rfl)) .nil .nil) .nil))) (.o (tOk type102 underlying102 rfl (by kernel_rfl)) (.o (tOk type166 underlying166 rfl (by kernel_rfl)) (.o (tOk type294 underlying294 rfl (by kernel_rfl)) (.o (tOk type550 underlying550 rfl (by kernel_rfl)) .nil .nil) (.o (tOk type806 underlying806 rfl (by kernel_rfl)) .nil .nil)) (.o (tOk type422 underlying422 rfl (by kernel_rfl)) (.o (tOk type678 underlying678 rfl (by kernel_rfl)) .nil .nil) .nil)) (.o (tOk type230 underlying230 rfl (by kernel_rfl)) (.o (tOk type358 underlying358 rfl (by kernel_rfl)) (.o (tOk type614 underlying614 rfl (by kernel_rfl)) .nil .nil) (.o (tOk type870 underlying870 rfl (by kernel_rfl)) .nil .nil)) (.o (tOk type486 underlying486 rfl (by kernel_rfl)) (.o (tOk type742 underlying742 rfl (by kernel_rfl)) .nil .nil) .nil)))) (.o (tOk type54 underlying54 rfl (by kernel_rfl)) (.o (tOk type86 underlying86 rfl (by kernel_rfl)) (.o (tOk type150 underlying150 rfl (by kernel_rfl)) (.o (tOk type278 underlying278 rfl (by kernel_rfl)) (.o (tOk type534 underlying534 rfl (by kernel_rfl)) .nil .nil) (.o (tOk type790 underlying790 rfl (by kernel_rfl)) .nil .nil)) (.o (tOk type406 underlying406 rfl (by kernel_rfl)) (.o (tOk type662 underlying662 rfl (by kernel_rfl)) .nil .nil) .nil)) (.o (tOk type214 underlying214 rfl (by kernel_rfl)) (.o (tOk type342 underlying342 rfl (by kernel_rfl)) (.o (tOk type598 underlying598 rfl (by kernel_rfl)) .nil .nil) (.o (tOk type854 underlying854 rfl (by kernel_rfl)) .nil .nil)) (.o (tOk type470 underlying470 rfl (by kernel_rfl)) (.o (tOk type726 underlying726 rfl (by kernel_rfl)) .nil .nil) .nil))) (.o (tOk type118 underlying118 rfl (by kernel_rfl)) (.o (tOk type182 underlying182 rfl (by kernel_rfl)) (.o (tOk type310 underlying310 rfl (by kernel_rfl)) (.o (tOk type566 underlying566 rfl (by kernel_rfl)) .nil .nil) (.o (tOk type822 underlying822 rfl (by kernel_rfl)) .nil .nil)) (.o (tOk type438 underlying438 rfl (by kernel_rfl)) (.o (tOk type694 underlying694 rfl (by kernel_rfl)) .nil .nil) .nil)) (.o (tOk type246 underlying246 rfl (by kernel_rfl)) (.o (tOk type374 underlying374 rfl (by kernel_rfl)) (.o (tOk type630 underlying630 rfl (by kernel_rfl)) .nil .nil) (.o (tOk type886 underlying886 rfl (by kernel_rfl)) .nil .nil)) (.o (tOk type502 underlying502 rfl (by kernel_rfl)) (.o (tOk type758 underlying758 rfl (by kernel_rfl)) .nil .nil) .nil))))) (.o (tOk type30 underlying30 rfl (by kernel_rfl)) (.o (tOk type46 underlying46 rfl (by kernel_rfl)) (.o (tOk type78 underlying78 rfl (by kernel_rfl)) (.o (tOk type142 underlying142 rfl (by kernel_rfl)) (.o (tOk type270 underlying270 rfl (by kernel_rfl)) (.o (tOk type526 underlying526 rfl (by kernel_rfl)) .nil .nil) (.o (tOk type782 underlying782 rfl (by kernel_rfl)) .nil .nil)) (.o (tOk type398 underlying398 rfl (by kernel_rfl)) (.o (tOk type654 underlying654 rfl (by kernel_rfl)) .nil .nil) (.o (tOk type910 underlying910 rfl (by kernel_rfl)) .nil .nil))) (.o (tOk type206 underlying206 rfl (by kernel_rfl)) (.o (tOk type334 underlying334 rfl (by kernel_rfl)) (.o (tOk type590 underlying590 rfl (by kernel_rfl)) .nil .nil) (.o (tOk type846 underlying846 rfl (by kernel_rfl)) .nil .nil)) (.o (tOk type462 underlying462 rfl (by kernel_rfl)) (.o (tOk type718 underlying718 rfl (by kernel_rfl)) .nil .nil) .nil))) (.o (tOk type110 underlying110 rfl (by kernel_rfl)) (.o (tOk type174 underlying174 rfl (by kernel_rfl)) (.o (tOk type302 underlying302 rfl (by kernel_rfl)) (.o (tOk type558 underlying558 rfl (by kernel_rfl)) .nil .nil) (.o (tOk type814 underlying814 rfl (by kernel_rfl)) .nil .nil)) (.o (tOk type430 underlying430 rfl (by kernel_rfl)) (.o (tOk type686 underlying686 rfl (by kernel_rfl)) .nil .nil) .nil)) (.o (tOk type238 underlying238 rfl (by kernel_rfl)) (.o (tOk type366 underlying366 rfl (by kernel_rfl)) (.o (tOk type622 underlying622 rfl (by kernel_rfl)) .nil .nil) (.o (tOk type878 underlying878 rfl (by kernel_rfl)) .nil .nil)) (.o (tOk type494 underlying494 rfl (by kernel_rfl)) (.o (tOk type750 underlying750 rfl (by kernel_rfl)) .nil .nil) .nil)))) (.o (tOk type62 underlying62 rfl (by kernel_rfl)) (.o (tOk type94 underlying94 rfl (by kernel_rfl)) (.o (tOk type158 underlying158 rfl (by kernel_rfl)) (.o (tOk type286 underlying286 rfl (by kernel_rfl)) (.o (tOk type542 underlying542 rfl (by kernel_rfl)) .nil .nil) (.o (tOk type798 underlying798 rfl (by kernel_rfl)) .nil .nil)) (.o (tOk type414 underlying414 rfl (by kernel_rfl)) (.o (tOk type670 underlying670 rfl (by kernel_rfl)) .nil .nil) .nil)) (.o (tOk type222 underlying222 rfl (by kernel_rfl)) (.o (tOk type350 underlying350 rfl (by kernel_rfl)) (.o (tOk type606 underlying606 rfl (by kernel_rfl)) .nil .nil) (.o (tOk type862 underlying862 rfl (by kernel_rfl)) .nil .nil)) (.o (tOk type478 underlying478 rfl (by kernel_rfl)) (.o (tOk type734 underlying734 rfl (by kernel_rfl)) .nil .nil) .nil))) (.o (tOk type126 underlying126 rfl (by kernel_rfl)) (.o (tOk type190 underlying190 rfl (by kernel_rfl)) (.o (tOk type318 underlying318 rfl (by kernel_rfl)) (.o (tOk type574 underlying574 rfl (by kernel_rfl)) .nil .nil) (.o (tOk type830 underlying830 rfl (by kernel_rfl)) .nil .nil)) (.o (tOk type446 underlying446 rfl (by kernel_rfl)) (.o (tOk type702 underlying702 rfl (by kernel_rfl)) .nil .nil) .nil)) (.o (tOk type254 underlying254 rfl (by kernel_rfl)) (.o (tOk type382 underlying382 rfl (by kernel_rfl)) (.o (tOk type638 underlying638 rfl (by kernel_rfl)) .nil .nil) (.o (tOk type894 underlying894 rfl (by kernel_rfl)) .nil .nil)) (.o (tOk type510 underlying510 rfl (by kernel_rfl)) (.o (tOk type766 underlying766 rfl (by kernel_rfl)) .nil .nil) .nil)))))))))
theorem xti_ok (t : Nat) (ti : TI) (h : xti.get t = some ti) : TIok prog t ti := by
  have := Tr.AllAt.get _ _ _ xti_all t ti h
  simpa using this
end Go.Proofs.Tryz

namespace Go.Proofs.Tryz
open Go.Proofs.Ex
variable [Sg]
set_option maxRecDepth 100000 in
theorem xfs_all : Tr.AllAt (FnOK prog) 1 0 xfs := (.o (.non func0 rfl) (.o (.non func1 rfl) (.o (.of func3 call3) (.o (.of func7 call7) (.o (.of func15 call15) (.o (.of func31 call31) (.o (.of func63 call63) (.o (.of func127 call127) (.o (.of func255 call255) (.o (.of func511 call511) .nil .nil) .nil) (.o (.of func383 call383) (.o (.of func639 call639) .nil .nil) .nil)) (.o (.non func191 rfl) (.o (.of func319 call319) (.o (.of func575 call575) .nil .nil) .nil) (.o (.of func447 call447) (.o (.of func703 call703) .nil .nil) .nil))) (.o (.of func95 call95) (.o (.of func159 call159) (.o (.of func287 call287) (.o (.of func543 call543) .nil .nil) .nil) (.o (.of func415 call415) (.o (.of func671 call671) .nil .nil) .nil)) (.o (.of func223 call223) (.o (.of func351 call351) (.o (.of func607 call607) .nil .nil) .nil) (.o (.of func479 call479) (.o (.non func735 rfl) .nil .nil) .nil)))) (.o (.of func47 call47) (.o (.of func79 call79) (.o (.of func143 call143) (.o (.of func271 call271) (.o (.of func527 call527) .nil .nil) .nil) (.o (.of func399 call399) (.o (.of func655 call655) .nil .nil) .nil)) (.o (.of func207 call207) (.o (.of func335 call335) (.o (.of func591 call591) .nil .nil) .nil) (.o (.of func463 call463) (.o (.non func719 rfl) .nil .nil) .nil))) (.o (.of func111 call111) (.o (.of func175 call175) (.o (.of func303 call303) (.o (.of func559 call559) .nil .nil) .nil) (.o (.of func431 call431) (.o (.of func687 call687) .nil .nil) .nil)) (.o (.of func239 call239) (.o (.of func367 call367) (.o (.of func623 call623) .nil .nil) .nil) (.o (.of func495 call495) .nil .nil))))) (.o (.of func23 call23) (.o (.of func39 call39) (.o (.of func71 call71) (.o (.of func135 call135) (.o (.of func263 call263) (.o (.of func519 call519) .nil .nil) .nil) (.o (.of func391 call391) (.o (.of func647 call647) .nil .nil) .nil)) (.o (.of func199 call199) (.o (.of func327 call327) (.o (.of func583 call583) .nil .nil) .nil) (.o (.non func455 rfl) (.o (.of func711 call711) .nil .nil) .nil))) (.o (.of func103 call103) (.o (.of func167 call167) (.o (.of func295 call295) (.o (.of func551 call551) .nil .nil) .nil) (.o (.of func423 call423) (.o (.of func679 call679) .nil .nil) .nil)) (.o (.of func231 call231) (.o (.of func359 call359) (.o (.of func615 call615) .nil .nil) .nil) (.o (.of func487 call487) (.o (.non func743 rfl) .nil .nil) .nil)))) (.o (.of func55 call55) (.o (.of func87 call87) (.o (.of func151 call151) (.o (.of func279 call279) (.o (.of func535 call535) .nil .nil) .nil) (.o (.of func407 call407) (.o (.of func663 call663) .nil .nil) .nil)) (.o (.of func215 call215) (.o (.of func343 call343) (.o (.of func599 call599) .nil .nil) .nil) (.o (.of func471 call471) (.o (.non func727 rfl) .nil .nil) .nil))) (.o (.of func119 call119) (.o (.of func183 call183) (.o (.of func311 call311) (.o (.of func567 call567) .nil .nil) .nil) (.o (.of func439 call439) (.o (.of func695 call695) .nil .nil) .nil)) (.o (.of func247 call247) (.o (.of func375 call375) (.o (.of func631 call631) .nil .nil) .nil) (.o (.of func503 call503) .nil .nil)))))) (.o (.of func11 call11) (.o (.of func19 call19) (.o (.of func35 call35) (.o (.of func67 call67) (.o (.of func131 call131) (.o (.of func259 call259) (.o (.of func515 call515) .nil .nil) .nil) (.o (.of func387 call387) (.o (.of func643 call643) .nil .nil) .nil)) (.o (.of func195 call195) (.o (.of func323 call323) (.o (.of func579 call579) .nil .nil) .nil) (.o (.of func451 call451) (.o (.of func707 call707) .nil .nil) .nil))) (.o (.of func99 call99) (.o (.of func163 call163) (.o (.of func291 call291) (.o (.of func547 call547) .nil .nil) .nil) (.o (.of func419 call419) (.o (.of func675 call675) .nil .nil) .nil)) (.o (.of func227 call227) (.o (.of func355 call355) (.o (.of func611 call611) .nil .nil) .nil) (.o (.of func483 call483) (.o (.non func739 rfl) .nil .nil) .nil)))) (.o (.of func51 call51) (.o (.of func83 call83) (.o (.of func147 call147) (.o (.of func275 call275) (.o (.of func531 call531) .nil .nil) .nil) (.o (.of func403 call403) (.o (.of func659 call659) .nil .nil) .nil)) (.o (.of func211 call211) (.o (.non func339 rfl) (.o (.of func595 call595) .nil .nil) .nil) (.o (.of func467 call467) (.o (.non func723 rfl) .nil .nil) .nil))) (.o (.of func115 call115) (.o (.of func179 call179) (.o (.of func307 call307) (.o (.of func563 call563) .nil .nil) .nil) (.o (.of func435 call435) (.o (.of func691 call691) .nil .nil) .nil)) (.o (.of func243 call243) (.o (.of func371 call371) (.o (.of func627 call627) .nil .nil) .nil) (.o (.of func499 call499) .nil .nil))))) (.o (.of func27 call27) (.o (.of func43 call43) (.o (.of func75 call75) (.o (.of func139 call139) (.o (.of func267 call267) (.o (.of func523 call523) .nil .nil) .nil) (.o (.of func395 call395) (.o (.of func651 call651) .nil .nil) .nil)) (.o (.of func203 call203) (.o (.of func331 call331) (.o (.of func587 call587) .nil .nil) .nil) (.o (.of func459 call459) (.o (.non func715 rfl) .nil .nil) .nil))) (.o (.of func107 call107) (.o (.of func171 call171) (.o (.of func299 call299) (.o (.of func555 call555) .nil .nil) .nil) (.o (.of func427 call427) (.o (.of func683 call683) .nil .nil) .nil)) (.o (.of func235 call235) (.o (.of func363 call363) (.o (.of func619 call619) .nil .nil) .nil) (.o (.of func491 call491) .nil .nil)))) (.o (.of func59 call59) (.o (.of func91 call91) (.o (.of func155 call155) (.o (.of func283 call283) (.o (.of func539 call539) .nil .nil) .nil) (.o (.of func411 call411) (.o (.of func667 call667) .nil .nil) .nil)) (.o (.of func219 call219) (.o (.of func347 call347) (.o (.of func603 call603) .nil .nil) .nil) (.o (.of func475 call475) (.o (.non func731 rfl) .nil .nil) .nil))) (.o (.of func123 call123) (.o (.of func187 call187) (.o (.of func315 call315) (.o (.of func571 call571) .nil .nil) .nil) (.o (.of func443 call443) (.o (.of func699 call699) .nil .nil) .nil)) (.o (.of func251 call251) (.o (.of func379 call379) (.o (.of func635 call635) .nil .nil) .nil) (.o (.of func507 call507) .nil .nil))))))) (.o (.of func5 call5) (.o (.of func9 call9) (.o (.of func17 call17) (.o (.of func33 call33) (.o (.of func65 call65) (.o (.of func129 call129) (.o (.of func257 call257) (.o (.of func513 call513) .nil .nil) .nil) (.o (.of func385 call385) (.o (.of func641 call641) .nil .nil) .nil)) (.o (.of func193 call193) (.o (.of func321 call321) (.o (.of func577 call577) .nil .nil) .nil) (.o (.of func449 call449) (.o (.of func705 call705) .nil .nil) .nil))) (.o (.of func97 call97) (.o (.of func161 call161) (.o (.of func289 call289) (.o (.of func545 call545) .nil .nil) .nil) (.o (.of func417 call417) (.o (.of func673 call673) .nil .nil) .nil)) (.o (.of func225 call225) (.o (.of func353 call353) (.o (.of func609 call609) .nil .nil) .nil) (.o (.of func481 call481) (.o (.non func737 rfl) .nil .nil) .nil)))) (.o (.of func49 call49) (.o (.of func81 call81) (.o (.of func145 call145) (.o (.of func273 call273) (.o (.of func529 call529) .nil .nil) .nil) (.o (.of func401 call401) (.o (.of func657 call657) .nil .nil) .nil)) (.o (.of func209 call209) (.o (.of func337 call337) (.o (.of func593 call593) .nil .nil) .nil) (.o (.of func465 call465) (.o (.non func721 rfl) .nil .nil) .nil))) (.o (.of func113 call113) (.o (.of func177 call177) (.o (.of func305 call305) (.o (.of func561 call561) .nil .nil) .nil) (.o (.of func433 call433) (.o (.of func689 call689) .nil .nil) .nil)) (.o (.of func241 call241) (.o (.of func369 call369) (.o (.of func625 call625) .nil .nil) .nil) (.o (.of func497 call497) .nil .nil))))) (.o (.of func25 call25) (.o (.of func41 call41) (.o (.of func73 call73) (.o (.of func137 call137) (.o (.of func265 call265) (.o (.of func521 call521) .nil .nil) .nil) (.o (.of func393 call393) (.o (.of func649 call649) .nil .nil) .nil)) (.o (.of func201 call201) (.o (.of func329 call329) (.o (.of func585 call585) .nil .nil) .nil) (.o (.of func457 call457) (.o (.of func713 call713) .nil .nil) .nil))) (.o (.of func105 call105) (.o (.of func169 call169) (.o (.of func297 call297) (.o (.of func553 call553) .nil .nil) .nil) (.o (.of func425 call425) (.o (.of func681 call681) .nil .nil) .nil)) (.o (.of func233 call233) (.o (.of func361 call361) (.o (.of func617 call617) .nil .nil) .nil) (.o (.of func489 call489) .nil .nil)))) (.o (.of func57 call57) (.o (.of func89 call89) (.o (.of func153 call153) (.o (.of func281 call281) (.o (.of func537 call537) .nil .nil) .nil) (.o (.of func409 call409) (.o (.of func665 call665) .nil .nil) .nil)) (.o (.of func217 call217) (.o (.of func345 call345) (.o (.non func601 rfl) .nil .nil) .nil) (.o (.of func473 call473) (.o (.non func729 rfl) .nil .nil) .nil))) (.o (.of func121 call121) (.o (.of func185 call185) (.o (.of func313 call313) (.o (.of func569 call569) .nil .nil) .nil) (.o (.of func441 call441) (.o (.of func697 call697) .nil .nil) .nil)) (.o (.non func249 rfl) (.o (.of func377 call377) (.o (.of func633 call633) .nil .nil) .nil) (.o (.of func505 call505) .nil .nil)))))) (.o (.of func13 call13) (.o (.of func21 call21) (.o (.of func37 call37) (.o (.of func69 call69) (.o (.of func133 call133) (.o (.of func261 call261) (.o (.of func517 call517) .nil .nil) .nil) (.o (.of func389 call389) (.o (.of func645 call645) .nil .nil) .nil)) (.o (.of func197 call197) (.o (.of func325 call325) (.o (.of func581 call581) .nil .nil) .nil) (.o (.of func453 call453) (.o (.of func709 call709) .nil .nil) .nil))) (.o (.of func101 call101) (.o (.of func165 call165) (.o (.of func293 call293) (.o (.of func549 call549) .nil .nil) .nil) (.o (.of func421 call421) (.o (.of func677 call677) .nil .nil) .nil)) (.o (.of func229 call229) (.o (.of func357 call357) (.o (.of func613 call613) .nil .nil) .nil) (.o (.of func485 call485) (.o (.non func741 rfl) .nil .nil) .nil)))) (.o (.of func53 call53) (.o (.of func85 call85) (.o (.of func149 call149) (.o (.of func277 call277) (.o (.of func533 call533) .nil .nil) .nil) (.o (.of func405 call405) (.o (.of func661 call661) .nil .nil) .nil)) (.o (.of func213 call213) (.o (.of func341 call341) (.o (.of func597 call597) .nil .nil) .nil) (.o (.of func469 call469) (.o (.non func725 rfl) .nil .nil) .nil))) (.o (.of func117 call117) (.o (.of func181 call181) (.o (.of func309 call309) (.o (.of func565 call565) .nil .nil) .nil) (.o (.of func437 call437) (.o (.of func693 call693) .nil .nil) .nil)) (.o (.of func245 call245) (.o (.of func373 call373) (.o (.of func629 call629) .nil .nil) .nil) (.o (.of func501 call501) .nil .nil))))) (.o (.of func29 call29) (.o (.of func45 call45) (.o (.of func77 call77) (.o (.of func141 call141) (.o (.of func269 call269) (.o (.of func525 call525) .nil .nil) .nil) (.o (.of func397 call397) (.o (.of func653 call653) .nil .nil) .nil)) (.o (.of func205 call205) (.o (.of func333 call333) (.o (.of func589 call589) .nil .nil) .nil) (.o (.of func461 call461) (.o (.non func717 rfl) .nil .nil) .nil))) (.o (.of func109 call109) (.o (.of func173 call173) (.o (.of func301 call301) (.o (.of func557 call557) .nil .nil) .nil) (.o (.of func429 call429) (.o (.of func685 call685) .nil .nil) .nil)) (.o (.of func237 call237) (.o (.of func365 call365) (.o (.of func621 call621) .nil .nil) .nil) (.o (.of func493 call493) .nil .nil)))) (.o (.of func61 call61) (.o (.of func93 call93) (.o (.of func157 call157) (.o (.of func285 call285) (.o (.of func541 call541) .nil .nil) .nil) (.o (.of func413 call413) (.o (.of func669 call669) .nil .nil) .nil)) (.o (.of func221 call221) (.o (.of func349 call349) (.o (.of func605 call605) .nil .nil) .nil) (.o (.of func477 call477) (.o (.non func733 rfl) .nil .nil) .nil))) (.o (.non func125 rfl) (.o (.of func189 call189) (.o (.of func317 call317) (.o (.of func573 call573) .nil .nil) .nil) (.o (.of func445 call445) (.o (.of func701 call701) .nil .nil) .nil)) (.o (.of func253 call253) (.o (.of func381 call381) (.o (.of func637 call637) .nil .nil) .nil) (.o (.of func509 call509) .nil .nil)))))))) (.o (.of func2 call2) (.o (.of func4 call4) (.o (.of func8 call8) (.o (.of func16 call16) (.o (.of func32 call32) (.o (.of func64 call64) (.o (.of func128 call128) (.o (.of func256 call256) (.o (.of func512 call512) .nil .nil) .nil) (.o (.of func384 call384) (.o (.of func640 call640) .nil .nil) .nil)) (.o (.of func192 call192) (.o (.of func320 call320) (.o (.of func576 call576) .nil .nil) .nil) (.o (.of func448 call448) (.o (.of func704 call704) .nil .nil) .nil))) (.o (.of func96 call96) (.o (.of func160 call160) (.o (.of func288 call288) (.o (.of func544 call544) .nil .nil) .nil) (.o (.of func416 call416) (.o (.of func672 call672) .nil .nil) .nil)) (.o (.of func224 call224) (.o (.of func352 call352) (.o (.of func608 call608) .nil .nil) .nil) (.o (.of func480 call480) (.o (.non func736 rfl) .nil .nil) .nil)))) (.o (.of func48 call48) (.o (.of func80 call80) (.o (.of func144 call144) (.o (.of func272 call272) (.o (.of func528 call528) .nil .nil) .nil) (.o (.of func400 call400) (.o (.of func656 call656) .nil .nil) .nil)) (.o (.of func208 call208) (.o (.of func336 call336) (.o (.of func592 call592) .nil .nil) .nil) (.o (.of func464 call464) (.o (.non func720 rfl) .nil .nil) .nil))) (.o (.of func112 call112) (.o (.of func176 call176) (.o (.of func304 call304) (.o (.of func560 call560) .nil .nil) .nil) (.o (.of func432 call432) (.o (.of func688 call688) .nil .nil) .nil)) (.o (.of func240 call240) (.o (.of func368 call368) (.o (.of func624 call624) .nil .nil) .nil) (.o (.of func496 call496) .nil .nil))))) (.o (.of func24 call24) (.o (.of func40 call40) (.o (.of func72 call72) (.o (.of func136 call136) (.o (.of func264 call264) (.o (.of func520 call520) .nil .nil) .nil) (.o (.of func392 call392) (.o (.of func648 call648) .nil .nil) .nil)) (.o (.of func200 call200) (.o (.of func328 call328) (.o (.of func584 call584) .nil .nil) .nil) (.o (.of func456 call456) (.o (.of func712 call712) .nil .nil) .nil))) (.o (.of func104 call104) (.o (.of func168 call168) (.o (.of func296 call296) (.o (.of func552 call552) .nil .nil) .nil) (.o (.of func424 call424) (.o (.of func680 call680) .nil .nil) .nil)) (.o (.of func232 call232) (.o (.of func360 call360) (.o (.of func616 call616) .nil .nil) .nil) (.o (.of func488 call488) (.o (.of func744 call744) .nil .nil) .nil)))) (.o (.of func56 call56) (.o (.of func88 call88) (.o (.of func152 call152) (.o (.of func280 call280) (.o (.of func536 call536) .nil .nil) .nil) (.o (.of func408 call408) (.o (.of func664 call664) .nil .nil) .nil)) (.o (.of func216 call216) (.o (.of func344 call344) (.o (.of func600 call600) .nil .nil) .nil) (.o (.of func472 call472) (.o (.non func728 rfl) .nil .nil) .nil))) (.o (.of func120 call120) (.o (.of func184 call184) (.o (.of func312 call312) (.o (.of func568 call568) .nil .nil) .nil) (.o (.of func440 call440) (.o (.of func696 call696) .nil .nil) .nil)) (.o (.non func248 rfl) (.o (.of func376 call376) (.o (.of func632 call632) .nil .nil) .nil) (.o (.of func504 call504) .nil .nil)))))) (.o (.of func12 call12) (.o (.of func20 call20) (.o (.of func36 call36) (.o (.of func68 call68) (.o (.of func132 call132) (.o (.of func260 call260) (.o (.of func516 call516) .nil .nil) .nil) (.o (.of func388 call388) (.o (.of func644 call644) .nil .nil) .nil)) (.o (.of func196 call196) (.o (.of func324 call324) (.o (.of func580 call580) .nil .nil) .nil) (.o (.of func452 call452) (.o (.of func708 call708) .nil .nil) .nil))) (.o (.of func100 call100) (.o (.of func164 call164) (.o (.of func292 call292) (.o (.of func548 call548) .nil .nil) .nil) (.o (.of func420 call420) (.o (.of func676 call676) .nil .nil) .nil)) (.o (.of func228 call228) (.o (.of func356 call356) (.o (.of func612 call612) .nil .nil) .nil) (.o (.of func484 call484) (.o (.non func740 rfl) .nil .nil) .nil)))) (.o (.of func52 call52) (.o (.of func84 call84) (.o (.of func148 call148) (.o (.of func276 call276) (.o (.of func532 call532) .nil .nil) .nil) (.o (.of func404 call404) (.o (.of func660 call660) .nil .nil) .nil)) (.o (.of func212 call212) (.o (.of func340 call340) (.o (.of func596 call596) .nil .nil) .nil) (.o (.of func468 call468) (.o (.non func724 rfl) .nil .nil) .nil))) (.o (.of func116 call116) (.o (.of func180 call180) (.o (.of func308 call308) (.o (.of func564 call564) .nil .nil) .nil) (.o (.of func436 call436) (.o (.of func692 call692) .nil .nil) .nil)) (.o (.of func244 call244) (.o (.of func372 call372) (.o (.of func628 call628) .nil .nil) .nil) (.o (.of func500 call500) .nil .nil))))) (.o (.of func28 call28) (.o (.of func44 call44) (.o (.of func76 call76) (.o (.of func140 call140) (.o (.of func268 call268) (.o (.of func524 call524) .nil .nil) .nil) (.o (.of func396 call396) (.o (.of func652 call652) .nil .nil) .nil)) (.o (.of func204 call204) (.o (.of func332 call332) (.o (.of func588 call588) .nil .nil) .nil) (.o (.of func460 call460) (.o (.non func716 rfl) .nil .nil) .nil))) (.o (.of func108 call108) (.o (.of func172 call172) (.o (.of func300 call300) (.o (.of func556 call556) .nil .nil) .nil) (.o (.of func428 call428) (.o (.of func684 call684) .nil .nil) .nil)) (.o (.of func236 call236) (.o (.of func364 call364) (.o (.of func620 call620) .nil .nil) .nil) (.o (.of func492 call492) .nil .nil)))) (.o (.of func60 call60) (.o (.of func92 call92) (.o (.of func156 call156) (.o (.of func284 call284) (.o (.of func540 call540) .nil .nil) .nil) (.o (.of func412 call412) (.o (.of func668 call668) .nil .nil) .nil)) (.o (.of func220 call220) (.o (.of func348 call348) (.o (.of func604 call604) .nil .nil) .nil) (.o (.of func476 call476) (.o (.non func732 rfl) .nil .nil) .nil))) (.o (.of func124 call124) (.o (.of func188 call188) (.o (.of func316 call316) (.o (.of func572 call572) .nil .nil) .nil) (.o (.of func444 call444) (.o (.of func700 call700) .nil .nil) .nil)) (.o (.of func252 call252) (.o (.of func380 call380) (.o (.of func636 call636) .nil .nil) .nil) (.o (.of func508 call508) .nil .nil))))))) (.o (.of func6 call6) (.o (.of func10 call10) (.o (.of func18 call18) (.o (.of func34 call34) (.o (.of func66 call66) (.o (.of func130 call130) (.o (.of func258 call258) (.o (.of func514 call514) .nil .nil) .nil) (.o (.of func386 call386) (.o (.of func642 call642) .nil .nil) .nil)) (.o (.of func194 call194) (.o (.of func322 call322) (.o (.of func578 call578) .nil .nil) .nil) (.o (.of func450 call450) (.o (.of func706 call706) .nil .nil) .nil))) (.o (.of func98 call98) (.o (.of func162 call162) (.o (.of func290 call290) (.o (.of func546 call546) .nil .nil) .nil) (.o (.of func418 call418) (.o (.of func674 call674) .nil .nil) .nil)) (.o (.of func226 call226) (.o (.of func354 call354) (.o (.of func610 call610) .nil .nil) .nil) (.o (.of func482 call482) (.o (.non func738 rfl) .nil .nil) .nil)))) (.o (.of func50 call50) (.o (.of func82 call82) (.o (.of func146 call146) (.o (.of func274 call274) (.o (.of func530 call530) .nil .nil) .nil) (.o (.of func402 call402) (.o (.of func658 call658) .nil .nil) .nil)) (.o (.of func210 call210) (.o (.of func338 call338) (.o (.of func594 call594) .nil .nil) .nil) (.o (.of func466 call466) (.o (.non func722 rfl) .nil .nil) .nil))) (.o (.of func114 call114) (.o (.of func178 call178) (.o (.of func306 call306) (.o (.of func562 call562) .nil .nil) .nil) (.o (.of func434 call434) (.o (.of func690 call690) .nil .nil) .nil)) (.o (.of func242 call242) (.o (.of func370 call370) (.o (.of func626 call626) .nil .nil) .nil) (.o (.non func498 rfl) .nil .nil))))) (.o (.of func26 call26) (.o (.of func42 call42) (.o (.of func74 call74) (.o (.of func138 call138) (.o (.of func266 call266) (.o (.of func522 call522) .nil .nil) .nil) (.o (.of func394 call394) (.o (.of func650 call650) .nil .nil) .nil)) (.o (.of func202 call202) (.o (.of func330 call330) (.o (.of func586 call586) .nil .nil) .nil) (.o (.of func458 call458) (.o (.non func714 rfl) .nil .nil) .nil))) (.o (.of func106 call106) (.o (.of func170 call170) (.o (.of func298 call298) (.o (.of func554 call554) .nil .nil) .nil) (.o (.of func426 call426) (.o (.of func682 call682) .nil .nil) .nil)) (.o (.of func234 call234) (.o (.of func362 call362) (.o (.of func618 call618) .nil .nil) .nil) (.o (.of func490 call490) .nil .nil)))) (.o (.of func58 call58) (.o (.of func90 call90) (.o (.of func154 call154) (.o (.of func282 call282) (.o (.of func538 call538) .nil .nil) .nil) (.o (.of func410 call410) (.o (.of func666 call666) .nil .nil) .nil)) (.o (.of func218 call218) (.o (.of func346 call346) (.o (.non func602 rfl) .nil .nil) .nil) (.o (.of func474 call474) (.o (.non func730 rfl) .nil .nil) .nil))) (.o (.of func122 call122) (.o (.non func186 rfl) (.o (.of func314 call314) (.o (.of func570 call570) .nil .nil) .nil) (.o (.of func442 call442) (.o (.of func698 call698) .nil .nil) .nil)) (.o (.of func250 call250) (.o (.of func378 call378) (.o (.of func634 call634) .nil .nil) .nil) (.o (.of func506 call506) .nil .nil)))))) (.o (.of func14 call14) (.o (.of func22 call22) (.o (.of func38 call38) (.o (.of func70 call70) (.o (.of func134 call134) (.o (.of func262 call262) (.o (.of func518 call518) .nil .nil) .nil) (.o (.of func390 call390) (.o (.of func646 call646) .nil .nil) .nil)) (.o (.of func198 call198) (.o (.of func326 call326) (.o (.of func582 call582) .nil .nil) .nil) (.o (.of func454 call454) (.o (.of func710 call710) .nil .nil) .nil))) (.o (.of func102 call102) (.o (.of func166 call166) (.o (.of func294 call294) (.o (.of func550 call550) .nil .nil) .nil) (.o (.of func422 call422) (.o (.of func678 call678) .nil .nil) .nil)) (.o (.of func230 call230) (.o (.of func358 call358) (.o (.of func614 call614) .nil .nil) .nil) (.o (.of func486 call486) (.o (.non func742 rfl) .nil .nil) .nil)))) (.o (.of func54 call54) (.o (.of func86 call86) (.o (.of func150 call150) (.o (.of func278 call278) (.o (.of func534 call534) .nil .nil) .nil) (.o (.of func406 call406) (.o (.of func662 call662) .nil .nil) .nil)) (.o (.of func214 call214) (.o (.of func342 call342) (.o (.of func598 call598) .nil .nil) .nil) (.o (.of func470 call470) (.o (.non func726 rfl) .nil .nil) .nil))) (.o (.of func118 call118) (.o (.of func182 call182) (.o (.of func310 call310) (.o (.of func566 call566) .nil .nil) .nil) (.o (.of func438 call438) (.o (.of func694 call694) .nil .nil) .nil)) (.o (.of func246 call246) (.o (.of func374 call374) (.o (.of func630 call630) .nil .nil) .nil) (.o (.of func502 call502) .nil .nil))))) (.o (.of func30 call30) (.o (.of func46 call46) (.o (.of func78 call78) (.o (.of func142 call142) (.o (.of func270 call270) (.o (.of func526 call526) .nil .nil) .nil) (.o (.of func398 call398) (.o (.of func654 call654) .nil .nil) .nil)) (.o (.of func206 call206) (.o (.of func334 call334) (.o (.of func590 call590) .nil .nil) .nil) (.o (.of func462 call462) (.o (.non func718 rfl) .nil .nil) .nil))) (.o (.of func110 call110) (.o (.of func174 call174) (.o (.of func302 call302) (.o (.of func558 call558) .nil .nil) .nil) (.o (.of func430 call430) (.o (.of func686 call686) .nil .nil) .nil)) (.o (.of func238 call238) (.o (.of func366 call366) (.o (.of func622 call622) .nil .nil) .nil) (.o (.of func494 call494) .nil .nil)))) (.o (.of func62 call62) (.o (.of func94 call94) (.o (.of func158 call158) (.o (.of func286 call286) (.o (.of func542 call542) .nil .nil) .nil) (.o (.of func414 call414) (.o (.of func670 call670) .nil .nil) .nil)) (.o (.of func222 call222) (.o (.of func350 call350) (.o (.of func606 call606) .nil .nil) .nil) (.o (.of func478 call478) (.o (.non func734 rfl) .nil .nil) .nil))) (.o (.of func126 call126) (.o (.of func190 call190) (.o (.of func318 call318) (.o (.of func574 call574) .nil .nil) .nil) (.o (.of func446 call446) (.o (.of func702 call702) .nil .nil) .nil)) (.o (.of func254 call254) (.o (.of func382 call382) (.o (.of func638 call638) .nil .nil) .nil) (.o (.of func510 call510) .nil .nil)))))))))
theorem xfs_ok (f : Nat) (fn : Func) (h : xfs.get f = some fn) : FnOK prog f fn := by
  have := Tr.AllAt.get _ _ _ xfs_all f fn h
  simpa using this
end Go.Proofs.Tryz

namespace Go.Proofs.Tryz
open Go.Proofs.Ex Go.RowKit
variable [Sg]

theorem xadd_run (x y c : Nat) (hc : c ≤ 1) (w : World) : (callFunc 602 #[.int .u64 x, .int .u64 y, .int .u64 c]).run prog w =
    .ok (.value (.tuple #[.int .u64 (((x + y + c) % 18446744073709551616 : Nat) : Int), .int .u64 (((x + y + c) / 18446744073709551616 : Nat) : Int)])) w := by
  rw [run_callFunc_extern func602 (by kernel_rfl) (by kernel_rfl) (by kernel_rfl) (e := add64Entry) (by kernel_rfl), run_add64 x y c (by omega) (by omega) (by omega) (by omega)]
  have e1 : (((x + y + c) % 18446744073709551616 : Nat) : Int) = ((x : Int) + y + c) % 18446744073709551616 := by omega
  have e2 : (((x + y + c) / 18446744073709551616 : Nat) : Int) = ((x : Int) + y + c) / 18446744073709551616 := by omega
  rw [e1, e2]
  rfl

def xsubEntry : Array Value → Sem Value := fun args => do
  let (x, y, b) ← Extern.MathBitsCarry.three "Sub64" args
  pure (Extern.MathBitsCarry.pair ((x + Extern.MathBitsCarry.m64 - y - b) % Extern.MathBitsCarry.m64) (if x < y + b then 1 else 0))
theorem xsub_run (x y b : Nat) (hb : b ≤ 1) (w : World) : (callFunc 601 #[.int .u64 x, .int .u64 y, .int .u64 b]).run prog w =
    .ok (.value (.tuple #[.int .u64 (((x + 18446744073709551616 - y - b) % 18446744073709551616 : Nat) : Int), .int .u64 ((if x < y + b then 1 else 0 : Nat) : Int)])) w := by
  rw [run_callFunc_extern func601 (by kernel_rfl) (by kernel_rfl) (by kernel_rfl) (e := xsubEntry) (by kernel_rfl)]
  have : b = 0 ∨ b = 1 := by omega
  rcases this with rfl | rfl <;> rfl

theorem xE_ok : ∀ f args v, xE f args = some v → ∀ (E : Env) (args' : List Value), LR E args args' → ∃ v', VR E v v' ∧ ∀ w, (callFunc f args'.toArray).run prog w = .ok (.value v') w := by
  intro f args v h E args' ha
  unfold xE at h
  split at h
  · rename_i x y c
    have e := ha.eq (by rfl)
    subst e
    cases hc : (Nat.ble c 1 && Nat.blt x 18446744073709551616 && Nat.blt y 18446744073709551616) with
    | false => rw [hc] at h; cases h
    | true =>
      rw [hc] at h
      simp only [cond_true] at h
      simp only [Bool.and_eq_true] at hc
      have hc1 : c ≤ 1 := Nat.le_of_ble_eq_true hc.1.1
      cases hf : Nat.beq f 602 with
      | true =>
        rw [hf] at h
        cases h
        have := Nat.eq_of_beq_eq_true hf
        subst this
        exact ⟨_, VR.closed rfl, fun w => xadd_run x y c hc1 w⟩
      | false =>
        rw [hf] at h
        simp only [cond_false] at h
        cases hf2 : Nat.beq f 601 with
        | false => rw [hf2] at h; cases h
        | true =>
          rw [hf2] at h
          cases h
          have := Nat.eq_of_beq_eq_true hf2
          subst this
          refine ⟨_, VR.closed rfl, fun w => ?_⟩
          have := xsub_run x y c hc1 w
          have e : ((if x < y + c then 1 else 0 : Nat) : Int) = (bif Nat.blt x (y + c) then 1 else 0 : Int) := by
            cases hb : Nat.blt x (y + c) with
            | true => have := Nat.le_of_ble_eq_true hb; rw [if_pos (by omega)]; rfl
            | false =>
              have : ¬ x < y + c := fun hl => by
                have := Nat.ble_eq_true_of_le (n := x + 1) (m := y + c) hl
                rw [show Nat.blt x (y + c) = Nat.ble (x + 1) (y + c) from rfl] at hb
                rw [this] at hb; cases hb
              rw [if_neg this]; rfl
          have hy : y < 18446744073709551616 := Nat.le_of_ble_eq_true hc.2
          have e3 : (((x + 18446744073709551616 - y - c) % 18446744073709551616 : Nat) : Int) = ((x : Int) + 18446744073709551616 - y - c) % 18446744073709551616 := by omega
          rw [e, e3] at this
          exact this
  · cases h
end Go.Proofs.Tryz

namespace Go.Proofs.YtlnonecibpjcoaaGreatDoor
open Go.RowKit

/-- what half a byte is worth -/
def crcT : List Nat := [0x00000000, 0x04c11db7, 0x09823b6e, 0x0d4326d9, 0x130476dc, 0x17c56b6b, 0x1a864db2, 0x1e475005, 0x2608edb8, 0x22c9f00f, 0x2f8ad6d6, 0x2b4bcb61, 0x350c9b64, 0x31cd86d3, 0x3c8ea00a, 0x384fbdbd]
/-- half a byte is taken in -/
def crcH (s n : Nat) : Nat := (s * 16 % 4294967296) ^^^ crcT.getD ((s / 268435456) ^^^ n) 0
/-- a byte is taken in -/
def crcB (s c : Nat) : Nat := crcH (crcH s (c / 16)) (c % 16)
def crcS (s : Nat) (b : List Int) : Nat := b.foldl (fun s c => crcB s c.toNat) s
theorem crcT_lt : ∀ i, crcT.getD i 0 < 4294967296 := by
  intro i
  by_cases h : i < 16
  · have : ∀ j, j < 16 → crcT.getD j 0 < 4294967296 := by decide
    exact this i h
  · have : crcT[i]? = none := List.getElem?_eq_none (by simp [crcT]; omega)
    simp [List.getD, this]
theorem crcH_lt (s n : Nat) : crcH s n < 4294967296 :=
  Nat.xor_lt_two_pow (n := 32) (Nat.mod_lt _ (by decide)) (crcT_lt _)
theorem crcB_lt (s c : Nat) : crcB s c < 4294967296 := crcH_lt _ _
theorem crcS_snoc (s : Nat) (b : List Int) (c : Int) : crcS s (b ++ [c]) = crcB (crcS s b) c.toNat := by simp [crcS]
theorem idx_lt {s n : Nat} (hs : s < 4294967296) (hn : n < 16) : (s / 268435456) ^^^ n < 16 :=
  Nat.xor_lt_two_pow (n := 4) (by omega) hn
end Go.Proofs.YtlnonecibpjcoaaGreatDoor

namespace Go.Proofs.YtlnonecibpjcoaaGreatDoor
open Go.RowKit
attribute [local go_sem] Oper.semAt_some

theorem rowz1 {w : World} {g : Nat} {a0 : Value} {t : TypeId} {f : Nat × Nat} (h : w.heap[g]? = some (.cells #[a0] t f)) (v : Value) : w.setCell ⟨g, 0, none⟩ v = setRow w g #[v] := setRow_of_setCell h v rfl
def crcV : List Value := [.int .u32 0, .int .u32 79764919, .int .u32 159529838, .int .u32 222504665, .int .u32 319059676, .int .u32 398814059, .int .u32 445009330, .int .u32 507990021, .int .u32 638119352, .int .u32 583659535, .int .u32 797628118, .int .u32 726387553, .int .u32 890018660, .int .u32 835552979, .int .u32 1015980042, .int .u32 944750013]
theorem crcV_at : ∀ i, i < 16 → crcV[i]? = some (.int .u32 ((crcT.getD i 0 : Nat) : Int)) := by
  intro i h
  have : i = 0 ∨ i = 1 ∨ i = 2 ∨ i = 3 ∨ i = 4 ∨ i = 5 ∨ i = 6 ∨ i = 7 ∨ i = 8 ∨ i = 9 ∨ i = 10 ∨ i = 11 ∨ i = 12 ∨ i = 13 ∨ i = 14 ∨ i = 15 := by omega
  rcases this with rfl | rfl | rfl | rfl | rfl | rfl | rfl | rfl | rfl | rfl | rfl | rfl | rfl | rfl | rfl | rfl <;> rfl

set_option maxRecDepth 100000 in
set_option maxHeartbeats 4000000 in
theorem crc_half (g : Nat) (s n : Nat) (hs : s < 4294967296) (hn : n < 16) (t : TypeId) (w : World) (hg : w.heap[g]? = some (.cells #[.int .u32 (s : Int)] t (0, 0))) :
    Calls Tryz.prog 543 #[.pointer (some ⟨g, 0, none⟩), .int .u8 (n : Int)] w fun e w' => e = .returned (.tuple #[]) ∧ Exc g w w' ∧ w'.heap[g]? = some (.cells #[.int .u32 ((crcH s n : Nat) : Int)] t (0, 0)) := by
  have hi := idx_lt hs hn
  have hx8 : bits .xor .u8 ((s : Int) / 268435456) (n : Int) = ((s / 268435456 ^^^ n : Nat) : Int) := u8_xor_nat (s / 268435456) n (by omega) (by omega)
  have hx32 : bits .xor .u32 ((s : Int) * 16 % 4294967296) ((crcT.getD (s / 268435456 ^^^ n) 0 : Nat) : Int) = ((crcH s n : Nat) : Int) := u32_xor_nat (s * 16 % 4294967296) _ (Nat.mod_lt _ (by decide)) (crcT_lt _)
  have hV := crcV_at _ hi
  generalize crcT.getD (s / 268435456 ^^^ n) 0 = c at *
  generalize s / 268435456 ^^^ n = i at *
  have hW : ∀ h : i < crcV.length, crcV[i]'h = .int .u32 (c : Int) := fun h => by
    rw [List.getElem?_eq_getElem h] at hV
    exact Option.some.inj hV
  unfold crcV at hW
  have l_g := (rcell hg).2.2
  obtain ⟨zg_a, zg_b, -⟩ := rcell hg
  go_enter Tryz.func543, Tryz.ntmps543
  go_wp2_with fail
  have f_g1 := (ka (hg) (.cells #[.int .u32 0, .int .u32 79764919, .int .u32 159529838, .int .u32 222504665, .int .u32 319059676, .int .u32 398814059, .int .u32 445009330, .int .u32 507990021, .int .u32 638119352, .int .u32 583659535, .int .u32 797628118, .int .u32 726387553, .int .u32 890018660, .int .u32 835552979, .int .u32 1015980042, .int .u32 944750013] 735))
  have f_v1 := (na w #[.int .u32 0, .int .u32 79764919, .int .u32 159529838, .int .u32 222504665, .int .u32 319059676, .int .u32 398814059, .int .u32 445009330, .int .u32 507990021, .int .u32 638119352, .int .u32 583659535, .int .u32 797628118, .int .u32 726387553, .int .u32 890018660, .int .u32 835552979, .int .u32 1015980042, .int .u32 944750013] 735)
  have hB1 := (xA (x0 g w (Nat.le_of_lt (rcell hg).2.2)) (.cells #[.int .u32 0, .int .u32 79764919, .int .u32 159529838, .int .u32 222504665, .int .u32 319059676, .int .u32 398814059, .int .u32 445009330, .int .u32 507990021, .int .u32 638119352, .int .u32 583659535, .int .u32 797628118, .int .u32 726387553, .int .u32 890018660, .int .u32 835552979, .int .u32 1015980042, .int .u32 944750013] 735))
  clear zg_a zg_b
  have lg1 := (rcell f_g1).2.2
  have lv1 := (rcell f_v1).2.2
  refine Abs.wp_region_abs (Abs.cls0 _) [0, 1, 2, 3, 4, 5, 6, 7, 8, 9, 10, 11, 12, 13, 14, 15, 16] (by kernel_rfl) (by kernel_rfl) (Below.refl _ _).drew ?_
  repeat (first | (refine Abs.step_pure rfl rfl (fun K hK => ?_); go_simp; (try go_bits); (first | refine hK _ _ ?_ | (simp only [↓IntWalk.iteOmega]; go_simp; (try go_bits); refine hK _ _ ?_)); clear hK K) | (refine Abs.step_load (v := ?_) rfl rfl (by kernel_rfl) rfl (fun w0 hI => ?_) (fun K hK => ?_); rotate_left; (· have z0 := (rcell (kp hI (f_g1))).1; have z1 := (rcell (kp hI (f_v1))).1; go_simp; rfl); (simp only [Act.put, List.setIfInBounds_toArray, List.set_cons_zero, List.set_cons_succ]; refine hK _ _ ?_; clear hK K)) | (refine Abs.step_skip rfl rfl (fun K hK => ?_); (simp only [Act.put, List.setIfInBounds_toArray, List.set_cons_zero, List.set_cons_succ]; refine hK _ _ ?_; clear hK K)))
  try simp only [hW]
  repeat (first | (refine Abs.step_pure rfl rfl (fun K hK => ?_); go_simp; (try go_bits); (first | refine hK _ _ ?_ | (simp only [↓IntWalk.iteOmega]; go_simp; (try go_bits); refine hK _ _ ?_)); clear hK K) | (refine Abs.step_load (v := ?_) rfl rfl (by kernel_rfl) rfl (fun w0 hI => ?_) (fun K hK => ?_); rotate_left; (· have z0 := (rcell (kp hI (f_g1))).1; have z1 := (rcell (kp hI (f_v1))).1; go_simp; rfl); (simp only [Act.put, List.setIfInBounds_toArray, List.set_cons_zero, List.set_cons_succ]; refine hK _ _ ?_; clear hK K)) | (refine Abs.step_skip rfl rfl (fun K hK => ?_); (simp only [Act.put, List.setIfInBounds_toArray, List.set_cons_zero, List.set_cons_succ]; refine hK _ _ ?_; clear hK K)))
  (refine Abs.step_store (T := ?_) rfl rfl rfl (fun w0 hI hF hU => ?_) (fun w0 hI hU hJ => ?_) (fun K hK => ?_); rotate_left; (· have hR := kp hI (f_g1); have hg0 := (rcell hR).1; have hg1 := (rcell hR).2.1; simp only [Abs.T_setF, Abs.T_addA, Abs.T_push, Abs.T_start]; go_simp; exact rowz1 hR _); (· first | exact trivial | exact js hJ rfl _ | exact js hJ (Or.inl rfl) _ | exact js hJ (Or.inr rfl) _); (simp only [Act.put, List.setIfInBounds_toArray, List.set_cons_zero, List.set_cons_succ]; refine hK _ _ ?_; clear hK K))
  repeat (first | (refine Abs.step_pure rfl rfl (fun K hK => ?_); go_simp; (try go_bits); (first | refine hK _ _ ?_ | (simp only [↓IntWalk.iteOmega]; go_simp; (try go_bits); refine hK _ _ ?_)); clear hK K) | (refine Abs.step_load (v := ?_) rfl rfl (by kernel_rfl) rfl (fun w0 hI => ?_) (fun K hK => ?_); rotate_left; (· have z0 := (rcell (kp hI (f_g1))).1; have z1 := (rcell (kp hI (f_v1))).1; go_simp; rfl); (simp only [Act.put, List.setIfInBounds_toArray, List.set_cons_zero, List.set_cons_succ]; refine hK _ _ ?_; clear hK K)) | (refine Abs.step_skip rfl rfl (fun K hK => ?_); (simp only [Act.put, List.setIfInBounds_toArray, List.set_cons_zero, List.set_cons_succ]; refine hK _ _ ?_; clear hK K)))
  intro w0 hI hF hx1 hx2
  clear hx1 hx2 hF
  simp only [Abs.T_push]
  generalize hT2 : setRow w0 _ _ = w2
  obtain ⟨hx2, f_g2⟩ := fin_x hI (f_g1) hT2
  clear hT2 hI w0
  have f_v2 := kx hx2 (f_v1) (by omega)
  have hB2 := xX hB1 hx2 (by omega)
  obtain ⟨zv_a, zv_b, lv2⟩ := rcell f_v2
  obtain ⟨zg_a, zg_b, lg2⟩ := rcell f_g2
  go_wp2
  refine bodyPost_end (by simp [results, Tryz.results543, go_sem]; try rfl) rfl ⟨rfl, hB2, (f_g2)⟩
end Go.Proofs.YtlnonecibpjcoaaGreatDoor

namespace Go.Proofs.YtlnonecibpjcoaaGreatDoor
open Go.RowKit
attribute [local go_sem] Oper.semAt_some

set_option maxRecDepth 100000 in
set_option maxHeartbeats 4000000 in
theorem crc_take (g : Nat) (s c : Nat) (hs : s < 4294967296) (hc : c < 256) (t : TypeId) (w : World) (hg : w.heap[g]? = some (.cells #[.int .u32 (s : Int)] t (0, 0))) :
    Calls Tryz.prog 502 #[.pointer (some ⟨g, 0, none⟩), .int .u8 (c : Int)] w fun e w' => e = .returned (.tuple #[]) ∧ Exc g w w' ∧ w'.heap[g]? = some (.cells #[.int .u32 ((crcB s c : Nat) : Int)] t (0, 0)) := by
  have cA := fun w h => crc_half g s (c / 16) hs (by omega) t w h
  have cB := fun w h => crc_half g (crcH s (c / 16)) (c % 16) (crcH_lt _ _) (by omega) t w h
  have hx8 : bits .and .u8 (c : Int) 15 = ((c % 16 : Nat) : Int) := (u8_and_nat c 15 hc (by decide)).trans (by rw [Nat.and_two_pow_sub_one_eq_mod c 4])
  have l_g := (rcell hg).2.2
  obtain ⟨zg_a, zg_b, -⟩ := rcell hg
  go_enter Tryz.func502, Tryz.ntmps502
  go_wp2_with fail
  refine (cA _ (hg)).mono ?_
  rintro e w1 ⟨rfl, hx1, f_g1⟩
  have hB1 := xX (x0 g w (Nat.le_of_lt (rcell hg).2.2)) hx1 (by omega)
  clear zg_a zg_b
  obtain ⟨zg_a, zg_b, lg1⟩ := rcell f_g1
  go_wp2_with fail
  refine (cB _ (f_g1)).mono ?_
  rintro e w2 ⟨rfl, hx2, f_g2⟩
  have hB2 := xX hB1 hx2 (by omega)
  clear zg_a zg_b
  obtain ⟨zg_a, zg_b, lg2⟩ := rcell f_g2
  go_wp2
  refine bodyPost_end (by simp [results, Tryz.results502, go_sem]; try rfl) rfl ⟨rfl, hB2, (f_g2)⟩
end Go.Proofs.YtlnonecibpjcoaaGreatDoor

namespace Go.Proofs.YtlnonecibpjcoaaGreatDoor
open Go.RowKit
attribute [local go_sem] Oper.semAt_some

theorem crcS_take {s : Nat} {l : List Int} {k : Nat} (h : k < l.length) : crcS s (l.take (k + 1)) = crcB (crcS s (l.take k)) (l[k]).toNat := by
  rw [← crcS_snoc, List.take_succ_eq_append_getElem h]

set_option maxRecDepth 100000 in
set_option maxHeartbeats 4000000 in
theorem crc_More (s : Nat) (A : Option Addr) (c : Nat) (l : List Int) (hs : s < 4294967296) (hn : l.length ≤ 9223372036854775807) (tt : TypeId)
    (w : World) (hm : 0 < l.length → ∃ g o cur, A = some ⟨g, o, none⟩ ∧ w.heap[g]? = some (.cells cur tt (0, 0)) ∧ ∀ i (hi : i < l.length), cur[o + i]? = some (.int .u8 l[i])) (hb : ∀ x ∈ l, 0 ≤ x ∧ x < 256) :
    Calls Tryz.prog 429 #[.int .u32 (s : Int), .slice A l.length c] w fun e w' => e = .returned (.int .u32 ((crcS s l : Nat) : Int)) ∧ Below w.heap.size w w' := by
  have cT := fun g s c hs hc w h => crc_take g s c hs hc 649 w h
  by_cases h0 : 0 < l.length
  · obtain ⟨g, o, cur, rfl, hg, hc⟩ := hm h0
    have HC := hide hc
    have HB := hide hb
    clear hc hm hb
    go_enter Tryz.func429, Tryz.ntmps429
    obtain ⟨zg_a, zg_b, lg0⟩ := rcell hg
    go_wp2_with fail
    go_loopw [14] (fun vi wr => ∃ (k s' : Nat), vi = .int .i64 k ∧ k ≤ l.length ∧ s' < 4294967296 ∧ Hid (crcS s (l.take k) = s') ∧ wr.heap[g]? = some (.cells cur tt (0, 0)) ∧ wr.heap[w.heap.size]? = some (.cells #[.int .u32 (s' : Int)] 649 (0, 0)) ∧ Below w.heap.size w wr) (fun vi _ => l.length - (intOf vi).toNat)
    case atStart => exact ⟨0, s, rfl, by omega, hs, hide rfl, (ka (hg) (.cells #[.int .u32 (s : Int)] 649)), (na w #[.int .u32 (s : Int)] 649), (bA (b0 w) (.cells #[.int .u32 (s : Int)] 649))⟩
    case round =>
      obtain ⟨k, s', rfl, hk, hs', hT, j1, j2, hb⟩ := hrel
      by_cases hlt : k < l.length
      · have q1 := HC.out k hlt
        have hv := HB.out _ (List.getElem_mem hlt)
        have HN : Hid (crcS s (l.take (k + 1)) = crcB s' (l[k]).toNat) := hide ((crcS_take hlt).trans (by rw [hT.out]))
        generalize l[k] = v at *
        obtain ⟨x, rfl⟩ := Int.eq_ofNat_of_zero_le hv.1
        simp only [Int.toNat_natCast] at HN
        have hx : x < 256 := by omega
        have cB := fun w h => cT w.heap.size s' x hs' hx w h
        clear hv
        obtain ⟨zg_a, zg_b, lg1⟩ := rcell j1
        obtain ⟨zr_a, zr_b, lr2⟩ := rcell j2
        go_wp2_with fail
        refine (cT _ s' x hs' hx _ (j2)).mono ?_
        rintro e w3 ⟨rfl, hx3, f_r3⟩
        have f_g3 := kx hx3 (j1) (by omega)
        have hB3 := bX hb hx3 (by omega)
        clear zg_a zg_b zr_a zr_b
        obtain ⟨zg_a, zg_b, lg3⟩ := rcell f_g3
        obtain ⟨zr_a, zr_b, lr3⟩ := rcell f_r3
        go_wp2
        go_roundw
        case rel => exact ⟨k + 1, crcB s' x, by go_num, by omega, crcB_lt _ _, HN, (f_g3), (f_r3), hB3⟩
        case measure => simp [intOf]; omega
      · obtain rfl : k = l.length := by omega
        have E := hT.out
        rw [List.take_length] at E
        subst E
        obtain ⟨zg_a, zg_b, lg4⟩ := rcell j1
        obtain ⟨zr_a, zr_b, lr5⟩ := rcell j2
        go_wp2
        go_ret
        exact ⟨rfl, hb⟩
  · obtain rfl : l = [] := List.eq_nil_of_length_eq_zero (by omega)
    clear hm hb
    go_enter Tryz.func429, Tryz.ntmps429
    go_wp2_with fail
    go_loopw [14] (fun vi wr => vi = .int .i64 0 ∧ wr.heap[w.heap.size]? = some (.cells #[.int .u32 (s : Int)] 649 (0, 0)) ∧ Below w.heap.size w wr) (fun _ _ => 0)
    case atStart => exact ⟨rfl, (na w #[.int .u32 (s : Int)] 649), (bA (b0 w) (.cells #[.int .u32 (s : Int)] 649))⟩
    case round =>
      obtain ⟨rfl, j2, hb⟩ := hrel
      obtain ⟨zr_a, zr_b, lr1⟩ := rcell j2
      go_wp2
      go_ret
      exact ⟨rfl, hb⟩
end Go.Proofs.YtlnonecibpjcoaaGreatDoor

namespace Go.Proofs.Tryz
open Go.Proofs.Ex Go.RowKit Go.Proofs.YtlnonecibpjcoaaGreatDoor
variable [Sg]

theorem crT_get : ∀ i, i < 16 → crT.get i = some (crcT.getD i 0) := by
  intro i h
  have : i = 0 ∨ i = 1 ∨ i = 2 ∨ i = 3 ∨ i = 4 ∨ i = 5 ∨ i = 6 ∨ i = 7 ∨ i = 8 ∨ i = 9 ∨ i = 10 ∨ i = 11 ∨ i = 12 ∨ i = 13 ∨ i = 14 ∨ i = 15 := by omega
  rcases this with rfl | rfl | rfl | rfl | rfl | rfl | rfl | rfl | rfl | rfl | rfl | rfl | rfl | rfl | rfl | rfl <;> rfl

theorem crH_eq {s n : Nat} (hs : s < 4294967296) (hn : n < 16) : crH s n = crcH s n := by
  unfold crH crcH
  have e : Nat.xor (s / 268435456) n = s / 268435456 ^^^ n := rfl
  rw [e, crT_get _ (idx_lt hs hn)]
  rfl
theorem crB_eq {s c : Nat} (hs : s < 4294967296) (hc : c < 256) : crB s c = crcB s c := by
  unfold crB crcB
  rw [crH_eq hs (by omega), crH_eq (crcH_lt _ _) (by omega)]

theorem crS_cons {v : Value} {l : List Value} {s r : Nat} (h : crS (v :: l) s = some r) : ∃ c : Nat, v = .int .u8 c ∧ c < 256 ∧ crS l (crB s c) = some r := by
  cases v with
  | int k m =>
    cases k <;> cases m <;> first
      | (simp [crS] at h; done)
      | (rename_i c
         change (bif Nat.blt c 256 then crS l (crB s c) else none) = some r at h
         cases hc : Nat.blt c 256 with
         | false => rw [hc] at h; cases h
         | true =>
           rw [hc] at h
           exact ⟨c, rfl, Nat.le_of_ble_eq_true hc, h⟩)
  | _ => simp [crS] at h

theorem crS_sound : ∀ (l : List Value) (s r : Nat), s < 4294967296 → crS l s = some r → ∃ ns : List Int, l = ns.map (Value.int .u8) ∧ (∀ x ∈ ns, 0 ≤ x ∧ x < 256) ∧ r = crcS s ns := by
  intro l
  induction l with
  | nil => intro s r hs h; simp only [crS] at h; cases h; exact ⟨[], rfl, fun x hx => (by cases hx), rfl⟩
  | cons v l ih =>
    intro s r hs h
    obtain ⟨c, rfl, hc', h⟩ := crS_cons h
    obtain ⟨ns, h1, h2, h3⟩ := ih _ _ (by rw [crB_eq hs hc']; exact crcB_lt _ _) h
    refine ⟨(c : Int) :: ns, by rw [h1]; rfl, ?_, ?_⟩
    · intro x hx
      rcases List.mem_cons.1 hx with rfl | hx
      · omega
      · exact h2 x hx
    · rw [h3, crB_eq hs hc']
      rfl

theorem closed_bytes : ∀ ns : List Int, allClosed (ns.map (Value.int .u8)) = true := by
  intro ns
  induction ns with
  | nil => rfl
  | cons x ns ih => simp only [List.map_cons, allClosed, ih]; rfl

theorem xO_ok : ∀ f args h v, xO f args h = some v → ∀ (E : Env) (w : World) (args' : List Value), HR E h w → LR E args args' →
    Calls prog f args'.toArray w fun e w' => ∃ v', e = .returned v' ∧ VR E v v' ∧ Below w.heap.size w w' := by
  intro f args h v ho E w args' hr ha
  unfold xO at ho
  cases hf : Nat.beq f 429 with
  | false => rw [hf] at ho; cases ho
  | true =>
    rw [hf] at ho
    simp only [cond_true] at ho
    have := Nat.eq_of_beq_eq_true hf
    subst this
    unfold crM at ho
    split at ho
    · rename_i s a n c
      cases hc : (Nat.blt s 4294967296 && Nat.ble n 9223372036854775807) with
      | false => rw [hc] at ho; cases ho
      | true =>
        rw [hc] at ho
        simp only [cond_true] at ho
        simp only [Bool.and_eq_true] at hc
        have hs : s < 4294967296 := Nat.le_of_ble_eq_true hc.1
        have hn : n ≤ 9223372036854775807 := Nat.le_of_ble_eq_true hc.2
        split at ho
        · rename_i l hl
          cases hlen : Nat.beq l.length n with
          | false => rw [hlen] at ho; cases ho
          | true =>
          rw [hlen] at ho
          simp only [cond_true] at ho
          have hlen := Nat.eq_of_beq_eq_true hlen
          split at ho
          · rename_i r hcr
            cases ho
            obtain ⟨ns, rfl, hb, rfl⟩ := crS_sound _ _ _ hs hcr
            obtain ⟨u1, t1, rfl, q1, ht⟩ := ha.cases
            obtain ⟨u2, t2, rfl, q2, ht2⟩ := ht.cases
            have := ht2.nil_right
            subst this
            rw [q1.int_inv]
            have hall := closed_bytes ns
            cases q2 with
            | nilSlice =>
              simp only [firstA, Option.some.injEq] at hl
              have hns : ns = [] := by
                cases ns with
                | nil => rfl
                | cons x ns => simp at hl
              subst hns
              simp only [List.map_nil, List.length_nil] at hlen
              subst hlen
              refine (crc_More s none c [] hs (by simp) 5 w (fun h => by simp at h) hb).mono ?_
              rintro e w' ⟨rfl, hbl⟩
              exact ⟨_, rfl, .int _ _, hbl⟩
            | slice ad cp =>
              rename_i a1 a2 c2
              obtain ⟨b, off, spot⟩ := a1
              obtain ⟨b2, off2, spot2⟩ := a2
              obtain ⟨d1, d2, d3⟩ := ad
              simp only at d1 d2 d3
              subst d2 d3
              cases spot2 with
              | some q => simp [firstA] at hl
              | none =>
                simp only [firstA] at hl
                split at hl
                · rename_i cc z zs k cap e hg
                  obtain ⟨c', hw, hcr, _⟩ := hr.at hg d1
                  rw [Nat.mul_one] at hl
                  obtain ⟨l', g1, g2, g3⟩ := readN_spec hcr _ _ _ hl
                  have e1 := g2.eq hall
                  subst e1
                  simp only [List.length_map] at hlen
                  subst hlen
                  refine (crc_More s (some ⟨b2, off2, none⟩) c2 ns hs hn e w (fun _ => ⟨b2, off2, c', rfl, hw, fun i hi => ?_⟩) hb).mono ?_
                  · exact g3 i _ (by simp [hi])
                  · rintro e w' ⟨rfl, hbl⟩
                    exact ⟨_, rfl, .int _ _, hbl⟩
                · cases hl
          · cases ho
        · cases ho
    · cases ho
theorem xL_ok : LkOK prog xL where
  ti := xti_ok
  fs := fun f fn h => (xfs_ok f fn h).1
  call := fun f fn c h hb => (xfs_ok f fn h).2 c hb
  ext := xE_ok
  orc := fun f a h v ho E w args' _ _ hr ha => xO_ok f a h v ho E w args' hr ha
  orx := fun _ _ _ _ _ _ _ h => (by cases h)
  sbin := fun _ _ _ _ _ h => (by cases h)
  sun := fun _ _ _ h => (by cases h)
  scv := fun _ _ _ _ h => (by cases h)
  wide := fun _ h => (by cases h)
  smx := fun _ _ _ _ h => (by cases h)
theorem xfollows : prog.follows .mixedOrders = true := by kernel_rfl
end Go.Proofs.Tryz

namespace Go.Proofs.Tryz
open Go.Proofs.Ex Go.RowKit Go.Proofs.YtlnonecibpjcoaaGreatDoor

/-- the package variables that the library reads -/
def gNames : List String := ["internal/strconv.uint64pow10", "strconv.ErrSyntax", "strconv.ErrRange"]
def IsG (k : Nat) : Prop := k = 0 ∨ ∃ n ∈ gNames, prog.globalNamed n = some k
theorem var_same {w w' : World} {n : String} (hn : n ∈ gNames) {cs : Array Value} (h : w.var? prog n = some cs) (hh : ∀ k, IsG k → w'.heap[k]? = w.heap[k]?) : w'.var? prog n = some cs := by
  unfold World.var? at *
  cases hg : prog.globalNamed n with
  | none => rw [hg] at h; cases h
  | some k =>
    rw [hg] at h
    simp only [Option.bind_some] at h ⊢
    rw [hh k (.inr ⟨n, hn, hg⟩)]
    exact h
theorem laid_same {w w' : World} (h : Laid w) (hh : ∀ k, IsG k → w'.heap[k]? = w.heap[k]?) : Laid w' := by
  obtain ⟨⟨m, h1⟩, h2, ⟨tp, p, h3⟩, ⟨tq, q, h4⟩⟩ := h
  refine ⟨⟨m, ?_⟩, var_same (by simp [gNames]) h2 hh, ⟨tp, p, var_same (by simp [gNames]) h3 hh⟩, ⟨tq, q, var_same (by simp [gNames]) h4 hh⟩⟩
  rw [← h1]
  unfold World.cell?
  rw [hh 0 (.inl rfl)]
theorem var_lt {w : World} {n : String} {cs : Array Value} (h : w.var? prog n = some cs) {k : Nat} (hk : prog.globalNamed n = some k) : k < w.heap.size := by
  unfold World.var? at h
  rw [hk] at h
  simp only [Option.bind_some] at h
  rcases Nat.lt_or_ge k w.heap.size with h1 | h1
  · exact h1
  · rw [Array.getElem?_eq_none h1] at h; cases h
theorem laid_lt {w : World} (h : Laid w) : ∀ k, IsG k → k < w.heap.size := by
  obtain ⟨⟨m, h1⟩, h2, ⟨tp, p, h3⟩, ⟨tq, q, h4⟩⟩ := h
  rintro k (rfl | ⟨n, hn, hk⟩)
  · rcases Nat.lt_or_ge 0 w.heap.size with h5 | h5
    · exact h5
    · rw [World.cell?, Array.getElem?_eq_none h5] at h1; cases h1
  · simp only [gNames, List.mem_cons, List.not_mem_nil, or_false] at hn
    rcases hn with rfl | rfl | rfl
    · exact var_lt h2 hk
    · exact var_lt h3 hk
    · exact var_lt h4 hk
/-- numbers by name: none; of the world: what the library reads -/
instance sg6 : Sg := ⟨fun _ => none, fun F w => Laid w ∧ ∀ k, IsG k → F k, fun h h1 h2 => ⟨laid_same h.1 fun k hk => h2 k (h.2 k hk), fun k hk => h1 k (h.2 k hk)⟩⟩

noncomputable def lookT : List (Nat × List Value × Value) → Nat → List Value → Option Value
  | [], _, _ => none
  | (g, xs, v) :: l, f, args => cond (Nat.beq f g && veqN.veqL 5 xs args) (some v) (lookT l f args)
def TabE (x : Nat × List Value × Value) : Prop := closed x.2.2 = true ∧ allClosed x.2.1 = true ∧ ∀ w, Laid w → Calls prog x.1 x.2.1.toArray w fun e w' => e = .returned x.2.2 ∧ Below w.heap.size w w'
theorem lookT_ok {f : Nat} {args : List Value} {v : Value} : ∀ {T : List (Nat × List Value × Value)}, All TabE T → lookT T f args = some v → ∀ (E : Env) (w : World) (args' : List Value), Laid w → LR E args args' →
    Calls prog f args'.toArray w fun e w' => ∃ v', e = .returned v' ∧ VR E v v' ∧ Below w.heap.size w w'
  | [], _, h => by cases h
  | (g, xs, u) :: l, ⟨⟨h1, h2, h3⟩, ht⟩, h => by
    unfold lookT at h
    cases hc : Nat.beq f g && veqN.veqL 5 xs args with
    | false => rw [hc] at h; exact lookT_ok ht h
    | true =>
      rw [hc] at h
      simp only [cond_true, Option.some.injEq] at h
      simp only [Bool.and_eq_true] at hc
      have e1 := Nat.eq_of_beq_eq_true hc.1
      have e2 := (veq_sound 5).2 _ _ hc.2
      subst e1 e2 h
      intro E w args' hL ha
      have e := ha.eq h2
      subst e
      exact (h3 w hL).mono fun e w' ⟨a, b⟩ => ⟨_, a, VR.closed h1, b⟩
theorem drewN_below (w : World) (n : Nat) : Below w.heap.size w (w.drewN n) := ⟨rfl, rfl, rfl, Nat.le_refl _, fun _ _ => rfl⟩
theorem tabC (s : ByteArray) (a r : List UInt8) (hs : s.size < 1000) (h : Lib.cut s.data.toList [10] = (a, r, true)) : TabE (78, [.string s, .string ⟨#[10]⟩], .tuple #[.string ⟨a.toArray⟩, .string ⟨r.toArray⟩, .bool true]) :=
  ⟨rfl, rfl, fun w hL => by
    obtain ⟨m, hm⟩ := hL.mx
    refine (Tryz.strings_Cut s ⟨#[10]⟩ m w (by omega) hm).mono ?_
    rintro e w' ⟨rfl, n, rfl⟩
    refine ⟨?_, drewN_below w n⟩
    have h' : Lib.cut s.data.toList (⟨#[10]⟩ : ByteArray).data.toList = (a, r, true) := h
    rw [h']⟩
theorem tabF (n : Nat) (a : List UInt8) (hn : n < 1000) (h : Lib.itoa (n : Int) = a) : TabE (54, [.int .i64 (n : Int), .int .i64 10], .string ⟨a.toArray⟩) :=
  ⟨rfl, rfl, fun w hL => by
    refine (con_fmt (n : Int) (by unfold i64In; omega) w hL).mono ?_
    rintro e w' ⟨rfl, hb⟩
    refine ⟨?_, hb⟩
    unfold itoaB
    rw [h]⟩
theorem tabP (s : ByteArray) (n : Int) (hs : s.size < 1000) (h : Lib.parseIntB 64 s.data.toList = .ok n) : TabE (130, [.string s, .int .i64 10, .int .i64 64], .tuple #[.int .i64 n, .nilIface]) :=
  ⟨rfl, rfl, fun w _ => by
    refine (Tryz.strconv_ParseInt_10_at64_ok s (by omega) n h w).mono ?_
    rintro e w' ⟨rfl, h2⟩
    refine ⟨rfl, ?_⟩
    rcases h2 with rfl | ⟨t, rfl⟩
    · exact b0 _
    · exact Lib.bytesWorld_below _ _ _⟩
noncomputable def tab7 : List (Nat × List Value × Value) := [(78, [.string ⟨#[112, 97, 103, 101, 115, 32, 50, 52, 10, 99, 114, 101, 97, 116, 101, 32, 97, 32, 48, 32, 48, 10, 97, 112, 112, 101, 110, 100, 32, 97, 32, 49, 32, 53, 32, 50, 32, 54, 10, 99, 111, 117, 110, 116, 32, 97, 32, 48, 32, 57, 10, 98, 117, 99, 107, 101, 116, 115, 32, 97, 32, 115, 117, 109, 32, 48, 32, 50, 32, 51, 10, 99, 114, 97, 115, 104, 10, 99, 111, 117, 110, 116, 32, 97, 32, 48, 32, 57, 10]⟩, .string ⟨#[10]⟩], .tuple #[.string ⟨#[112, 97, 103, 101, 115, 32, 50, 52]⟩, .string ⟨#[99, 114, 101, 97, 116, 101, 32, 97, 32, 48, 32, 48, 10, 97, 112, 112, 101, 110, 100, 32, 97, 32, 49, 32, 53, 32, 50, 32, 54, 10, 99, 111, 117, 110, 116, 32, 97, 32, 48, 32, 57, 10, 98, 117, 99, 107, 101, 116, 115, 32, 97, 32, 115, 117, 109, 32, 48, 32, 50, 32, 51, 10, 99, 114, 97, 115, 104, 10, 99, 111, 117, 110, 116, 32, 97, 32, 48, 32, 57, 10]⟩, .bool true]),
  (78, [.string ⟨#[99, 114, 101, 97, 116, 101, 32, 97, 32, 48, 32, 48, 10, 97, 112, 112, 101, 110, 100, 32, 97, 32, 49, 32, 53, 32, 50, 32, 54, 10, 99, 111, 117, 110, 116, 32, 97, 32, 48, 32, 57, 10, 98, 117, 99, 107, 101, 116, 115, 32, 97, 32, 115, 117, 109, 32, 48, 32, 50, 32, 51, 10, 99, 114, 97, 115, 104, 10, 99, 111, 117, 110, 116, 32, 97, 32, 48, 32, 57, 10]⟩, .string ⟨#[10]⟩], .tuple #[.string ⟨#[99, 114, 101, 97, 116, 101, 32, 97, 32, 48, 32, 48]⟩, .string ⟨#[97, 112, 112, 101, 110, 100, 32, 97, 32, 49, 32, 53, 32, 50, 32, 54, 10, 99, 111, 117, 110, 116, 32, 97, 32, 48, 32, 57, 10, 98, 117, 99, 107, 101, 116, 115, 32, 97, 32, 115, 117, 109, 32, 48, 32, 50, 32, 51, 10, 99, 114, 97, 115, 104, 10, 99, 111, 117, 110, 116, 32, 97, 32, 48, 32, 57, 10]⟩, .bool true]),
  (78, [.string ⟨#[97, 112, 112, 101, 110, 100, 32, 97, 32, 49, 32, 53, 32, 50, 32, 54, 10, 99, 111, 117, 110, 116, 32, 97, 32, 48, 32, 57, 10, 98, 117, 99, 107, 101, 116, 115, 32, 97, 32, 115, 117, 109, 32, 48, 32, 50, 32, 51, 10, 99, 114, 97, 115, 104, 10, 99, 111, 117, 110, 116, 32, 97, 32, 48, 32, 57, 10]⟩, .string ⟨#[10]⟩], .tuple #[.string ⟨#[97, 112, 112, 101, 110, 100, 32, 97, 32, 49, 32, 53, 32, 50, 32, 54]⟩, .string ⟨#[99, 111, 117, 110, 116, 32, 97, 32, 48, 32, 57, 10, 98, 117, 99, 107, 101, 116, 115, 32, 97, 32, 115, 117, 109, 32, 48, 32, 50, 32, 51, 10, 99, 114, 97, 115, 104, 10, 99, 111, 117, 110, 116, 32, 97, 32, 48, 32, 57, 10]⟩, .bool true]),
  (78, [.string ⟨#[99, 111, 117, 110, 116, 32, 97, 32, 48, 32, 57, 10, 98, 117, 99, 107, 101, 116, 115, 32, 97, 32, 115, 117, 109, 32, 48, 32, 50, 32, 51, 10, 99, 114, 97, 115, 104, 10, 99, 111, 117, 110, 116, 32, 97, 32, 48, 32, 57, 10]⟩, .string ⟨#[10]⟩], .tuple #[.string ⟨#[99, 111, 117, 110, 116, 32, 97, 32, 48, 32, 57]⟩, .string ⟨#[98, 117, 99, 107, 101, 116, 115, 32, 97, 32, 115, 117, 109, 32, 48, 32, 50, 32, 51, 10, 99, 114, 97, 115, 104, 10, 99, 111, 117, 110, 116, 32, 97, 32, 48, 32, 57, 10]⟩, .bool true]),
  (78, [.string ⟨#[98, 117, 99, 107, 101, 116, 115, 32, 97, 32, 115, 117, 109, 32, 48, 32, 50, 32, 51, 10, 99, 114, 97, 115, 104, 10, 99, 111, 117, 110, 116, 32, 97, 32, 48, 32, 57, 10]⟩, .string ⟨#[10]⟩], .tuple #[.string ⟨#[98, 117, 99, 107, 101, 116, 115, 32, 97, 32, 115, 117, 109, 32, 48, 32, 50, 32, 51]⟩, .string ⟨#[99, 114, 97, 115, 104, 10, 99, 111, 117, 110, 116, 32, 97, 32, 48, 32, 57, 10]⟩, .bool true]),
  (78, [.string ⟨#[99, 114, 97, 115, 104, 10, 99, 111, 117, 110, 116, 32, 97, 32, 48, 32, 57, 10]⟩, .string ⟨#[10]⟩], .tuple #[.string ⟨#[99, 114, 97, 115, 104]⟩, .string ⟨#[99, 111, 117, 110, 116, 32, 97, 32, 48, 32, 57, 10]⟩, .bool true]),
  (78, [.string ⟨#[99, 111, 117, 110, 116, 32, 97, 32, 48, 32, 57, 10]⟩, .string ⟨#[10]⟩], .tuple #[.string ⟨#[99, 111, 117, 110, 116, 32, 97, 32, 48, 32, 57]⟩, .string ⟨#[]⟩, .bool true]),
  (78, [.string ⟨#[112, 97, 103, 101, 115, 32, 50, 52, 10, 115, 105, 110, 99, 10]⟩, .string ⟨#[10]⟩], .tuple #[.string ⟨#[112, 97, 103, 101, 115, 32, 50, 52]⟩, .string ⟨#[115, 105, 110, 99, 10]⟩, .bool true]),
  (78, [.string ⟨#[115, 105, 110, 99, 10]⟩, .string ⟨#[10]⟩], .tuple #[.string ⟨#[115, 105, 110, 99]⟩, .string ⟨#[]⟩, .bool true]),
  (54, [.int .i64 24, .int .i64 10], .string ⟨#[50, 52]⟩),
  (54, [.int .i64 2, .int .i64 10], .string ⟨#[50]⟩),
  (54, [.int .i64 5, .int .i64 10], .string ⟨#[53]⟩),
  (54, [.int .i64 6, .int .i64 10], .string ⟨#[54]⟩),
  (54, [.int .i64 9, .int .i64 10], .string ⟨#[57]⟩),
  (54, [.int .i64 372, .int .i64 10], .string ⟨#[51, 55, 50]⟩),
  (130, [.string ⟨#[50, 52]⟩, .int .i64 10, .int .i64 64], .tuple #[.int .i64 24, .nilIface])]
set_option maxRecDepth 100000 in
theorem tab7_ok : All TabE tab7 :=
  .cons (tabC ⟨#[112, 97, 103, 101, 115, 32, 50, 52, 10, 99, 114, 101, 97, 116, 101, 32, 97, 32, 48, 32, 48, 10, 97, 112, 112, 101, 110, 100, 32, 97, 32, 49, 32, 53, 32, 50, 32, 54, 10, 99, 111, 117, 110, 116, 32, 97, 32, 48, 32, 57, 10, 98, 117, 99, 107, 101, 116, 115, 32, 97, 32, 115, 117, 109, 32, 48, 32, 50, 32, 51, 10, 99, 114, 97, 115, 104, 10, 99, 111, 117, 110, 116, 32, 97, 32, 48, 32, 57, 10]⟩ [112, 97, 103, 101, 115, 32, 50, 52] [99, 114, 101, 97, 116, 101, 32, 97, 32, 48, 32, 48, 10, 97, 112, 112, 101, 110, 100, 32, 97, 32, 49, 32, 53, 32, 50, 32, 54, 10, 99, 111, 117, 110, 116, 32, 97, 32, 48, 32, 57, 10, 98, 117, 99, 107, 101, 116, 115, 32, 97, 32, 115, 117, 109, 32, 48, 32, 50, 32, 51, 10, 99, 114, 97, 115, 104, 10, 99, 111, 117, 110, 116, 32, 97, 32, 48, 32, 57, 10] (by decide) (by kernel_rfl)) (
  .cons (tabC ⟨#[99, 114, 101, 97, 116, 101, 32, 97, 32, 48, 32, 48, 10, 97, 112, 112, 101, 110, 100, 32, 97, 32, 49, 32, 53, 32, 50, 32, 54, 10, 99, 111, 117, 110, 116, 32, 97, 32, 48, 32, 57, 10, 98, 117, 99, 107, 101, 116, 115, 32, 97, 32, 115, 117, 109, 32, 48, 32, 50, 32, 51, 10, 99, 114, 97, 115, 104, 10, 99, 111, 117, 110, 116, 32, 97, 32, 48, 32, 57, 10]⟩ [99, 114, 101, 97, 116, 101, 32, 97, 32, 48, 32, 48] [97, 112, 112, 101, 110, 100, 32, 97, 32, 49, 32, 53, 32, 50, 32, 54, 10, 99, 111, 117, 110, 116, 32, 97, 32, 48, 32, 57, 10, 98, 117, 99, 107, 101, 116, 115, 32, 97, 32, 115, 117, 109, 32, 48, 32, 50, 32, 51, 10, 99, 114, 97, 115, 104, 10, 99, 111, 117, 110, 116, 32, 97, 32, 48, 32, 57, 10] (by decide) (by kernel_rfl)) (
  .cons (tabC ⟨#[97, 112, 112, 101, 110, 100, 32, 97, 32, 49, 32, 53, 32, 50, 32, 54, 10, 99, 111, 117, 110, 116, 32, 97, 32, 48, 32, 57, 10, 98, 117, 99, 107, 101, 116, 115, 32, 97, 32, 115, 117, 109, 32, 48, 32, 50, 32, 51, 10, 99, 114, 97, 115, 104, 10, 99, 111, 117, 110, 116, 32, 97, 32, 48, 32, 57, 10]⟩ [97, 112, 112, 101, 110, 100, 32, 97, 32, 49, 32, 53, 32, 50, 32, 54] [99, 111, 117, 110, 116, 32, 97, 32, 48, 32, 57, 10, 98, 117, 99, 107, 101, 116, 115, 32, 97, 32, 115, 117, 109, 32, 48, 32, 50, 32, 51, 10, 99, 114, 97, 115, 104, 10, 99, 111, 117, 110, 116, 32, 97, 32, 48, 32, 57, 10] (by decide) (by kernel_rfl)) (
  .cons (tabC ⟨#[99, 111, 117, 110, 116, 32, 97, 32, 48, 32, 57, 10, 98, 117, 99, 107, 101, 116, 115, 32, 97, 32, 115, 117, 109, 32, 48, 32, 50, 32, 51, 10, 99, 114, 97, 115, 104, 10, 99, 111, 117, 110, 116, 32, 97, 32, 48, 32, 57, 10]⟩ [99, 111, 117, 110, 116, 32, 97, 32, 48, 32, 57] [98, 117, 99, 107, 101, 116, 115, 32, 97, 32, 115, 117, 109, 32, 48, 32, 50, 32, 51, 10, 99, 114, 97, 115, 104, 10, 99, 111, 117, 110, 116, 32, 97, 32, 48, 32, 57, 10] (by decide) (by kernel_rfl)) (
  .cons (tabC ⟨#[98, 117, 99, 107, 101, 116, 115, 32, 97, 32, 115, 117, 109, 32, 48, 32, 50, 32, 51, 10, 99, 114, 97, 115, 104, 10, 99, 111, 117, 110, 116, 32, 97, 32, 48, 32, 57, 10]⟩ [98, 117, 99, 107, 101, 116, 115, 32, 97, 32, 115, 117, 109, 32, 48, 32, 50, 32, 51] [99, 114, 97, 115, 104, 10, 99, 111, 117, 110, 116, 32, 97, 32, 48, 32, 57, 10] (by decide) (by kernel_rfl)) (
  .cons (tabC ⟨#[99, 114, 97, 115, 104, 10, 99, 111, 117, 110, 116, 32, 97, 32, 48, 32, 57, 10]⟩ [99, 114, 97, 115, 104] [99, 111, 117, 110, 116, 32, 97, 32, 48, 32, 57, 10] (by decide) (by kernel_rfl)) (
  .cons (tabC ⟨#[99, 111, 117, 110, 116, 32, 97, 32, 48, 32, 57, 10]⟩ [99, 111, 117, 110, 116, 32, 97, 32, 48, 32, 57] [] (by decide) (by kernel_rfl)) (
  .cons (tabC ⟨#[112, 97, 103, 101, 115, 32, 50, 52, 10, 115, 105, 110, 99, 10]⟩ [112, 97, 103, 101, 115, 32, 50, 52] [115, 105, 110, 99, 10] (by decide) (by kernel_rfl)) (
  .cons (tabC ⟨#[115, 105, 110, 99, 10]⟩ [115, 105, 110, 99] [] (by decide) (by kernel_rfl)) (
  .cons (tabF 24 [50, 52] (by decide) (by simp [Lib.itoa, Lib.decDigits])) (
  .cons (tabF 2 [50] (by decide) (by simp [Lib.itoa, Lib.decDigits])) (
  .cons (tabF 5 [53] (by decide) (by simp [Lib.itoa, Lib.decDigits])) (
  .cons (tabF 6 [54] (by decide) (by simp [Lib.itoa, Lib.decDigits])) (
  .cons (tabF 9 [57] (by decide) (by simp [Lib.itoa, Lib.decDigits])) (
  .cons (tabF 372 [51, 55, 50] (by decide) (by simp [Lib.itoa, Lib.decDigits])) (
  .cons (tabP ⟨#[50, 52]⟩ 24 (by decide) (by kernel_rfl)) .nil)))))))))))))))

/-! joined words -/
def strL : List Value → Option (List ByteArray)
  | [] => some []
  | .string s :: l => (match strL l with | some r => some (s :: r) | none => none)
  | _ => none
theorem strL_eq : ∀ {l : List Value} {ss : List ByteArray}, strL l = some ss → l = ss.map Value.string
  | [], ss, h => by simp only [strL, Option.some.injEq] at h; subst h; rfl
  | v :: l, ss, h => by
    cases v with
    | string s =>
      simp only [strL] at h
      cases hr : strL l with
      | none => rw [hr] at h; cases h
      | some r =>
        rw [hr] at h
        simp only [Option.some.injEq] at h
        subst h
        rw [strL_eq hr]
        rfl
    | _ => simp [strL] at h
def joinF (sep : List UInt8) : List (List UInt8) → List UInt8
  | [] => []
  | [x] => x
  | x :: l => x ++ sep ++ joinF sep l
theorem joinF_eq (sep : List UInt8) : ∀ l : List (List UInt8), joinF sep l = Lib.join l sep
  | [] => rfl
  | [x] => by simp [joinF, Lib.join, List.intercalate]
  | x :: y :: l => by
    have ih := joinF_eq sep (y :: l)
    simp only [joinF, ih]
    simp [Lib.join, List.intercalate]
noncomputable def joinO (f : Nat) (args : List Value) (h : Tr AO) : Option Value :=
  match args with
  | [.slice a n c, .string t] => cond (Nat.beq f 53 && Nat.ble 1 n && Nat.ble n c && Nat.ble n 1000000) (match firstA h 1 n (.slice a n c) with
    | some l => (match strL l with
      | some ss => cond (Nat.beq ss.length n && Nat.ble (joinF t.data.toList (ss.map (·.data.toList))).length 1000000) (some (.string ⟨(joinF t.data.toList (ss.map (·.data.toList))).toArray⟩)) none
      | none => none)
    | none => none) none
  | _ => none
theorem closed_strs : ∀ ss : List ByteArray, allClosed (ss.map Value.string) = true
  | [] => rfl
  | s :: ss => by simp only [List.map_cons, allClosed, closed_strs ss]; rfl
theorem joinO_ok : ∀ f args h v, joinO f args h = some v → ∀ (E : Env) (w : World) (args' : List Value), HR E h w → LR E args args' →
    Calls prog f args'.toArray w fun e w' => ∃ v', e = .returned v' ∧ VR E v v' ∧ Below w.heap.size w w' := by
  intro f args h v ho E w args' hr ha
  unfold joinO at ho
  split at ho
  · rename_i a n c t
    cases hc : Nat.beq f 53 && Nat.ble 1 n && Nat.ble n c && Nat.ble n 1000000 with
    | false => rw [hc] at ho; cases ho
    | true =>
      rw [hc] at ho
      simp only [cond_true] at ho
      simp only [Bool.and_eq_true] at hc
      have e1 := Nat.eq_of_beq_eq_true hc.1.1.1
      have n1 := Nat.le_of_ble_eq_true hc.1.1.2
      have n2 := Nat.le_of_ble_eq_true hc.1.2
      have n3 := Nat.le_of_ble_eq_true hc.2
      subst e1
      split at ho
      · rename_i l hl
        split at ho
        · rename_i ss hss
          have hl2 := strL_eq hss
          subst hl2
          cases hq : Nat.beq ss.length n && Nat.ble (joinF t.data.toList (ss.map (·.data.toList))).length 1000000 with
          | false => rw [hq] at ho; cases ho
          | true =>
            rw [hq] at ho
            simp only [cond_true, Option.some.injEq] at ho
            simp only [Bool.and_eq_true] at hq
            have hsn := Nat.eq_of_beq_eq_true hq.1
            have hlen := Nat.le_of_ble_eq_true hq.2
            subst ho
            rw [joinF_eq] at hlen ⊢
            obtain ⟨u1, t1, rfl, q1, ht⟩ := ha.cases
            obtain ⟨u2, t2, rfl, q2, ht2⟩ := ht.cases
            have := ht2.nil_right
            subst this
            rw [show u2 = .string t by cases q2; rfl]
            have hall := closed_strs ss
            cases q1 with
            | nilSlice =>
              simp only [firstA, Option.some.injEq] at hl
              have : ss = [] := by
                cases ss with
                | nil => rfl
                | cons x l => simp at hl
              subst this
              simp only [List.length_nil] at hsn
              omega
            | slice ad cp =>
              rename_i a1 a2 c2
              obtain ⟨b, off, spot⟩ := a1
              obtain ⟨b2, off2, spot2⟩ := a2
              obtain ⟨d1, d2, d3⟩ := ad
              simp only at d1 d2 d3
              subst d2 d3
              cases spot2 with
              | some q => simp [firstA] at hl
              | none =>
                simp only [firstA] at hl
                split at hl
                · rename_i cc z zs k cap e hg
                  obtain ⟨c', hw, hcr, _⟩ := hr.at hg d1
                  rw [Nat.mul_one] at hl
                  obtain ⟨l', g1, g2, g3⟩ := readN_spec hcr _ _ _ hl
                  have e1 := g2.eq hall
                  subst e1
                  simp only [List.length_map] at g1
                  subst g1
                  have hcap : ss.length ≤ c2 := by
                    rcases cp with ⟨_, rfl⟩ | ⟨_, h2, _⟩
                    · exact n2
                    · exact h2
                  refine (Tryz.strings_Join b2 off2 c2 ss t w (fun j x hx => ?_) (Array.getElem?_eq_some_iff.1 hw).1 (by omega) hcap (by omega)).mono ?_
                  · rw [cell_of_row w b2 (off2 + j) c' _ (0, 0) hw]
                    exact g3 j _ (by simp [hx])
                  · rintro e w' ⟨rfl, hbl⟩
                    exact ⟨_, rfl, .string _, hbl⟩
                · cases hl
        · cases ho
      · cases ho
  · cases ho

theorem closed_at : ∀ {l : List Value} {i : Nat} {v : Value}, allClosed l = true → l[i]? = some v → closed v = true
  | [], _, _, _, h => by simp at h
  | x :: l, 0, v, h, e => by
    simp only [allClosed, Bool.and_eq_true] at h
    simp only [List.getElem?_cons_zero, Option.some.injEq] at e
    subst e
    exact h.1
  | x :: l, i + 1, v, h, e => by
    simp only [allClosed, Bool.and_eq_true] at h
    simp only [List.getElem?_cons_succ] at e
    exact closed_at h.2 e
/-- cells that were written down: they begin a block -/
theorem CellR.lit {E : Env} {l : List Value} (hl : allClosed l = true) {c' : Array Value} (hc : ∀ i, i < l.length → c'[i]? = l[i]?) (hs : l.length ≤ c'.size) : CellR E (Tr.nil.setL 0 l) [] 1 l.length c' :=
  ⟨hs, fun i v hv => by
    unfold cellAt at hv
    cases hb : Nat.blt i l.length with
    | false => rw [hb] at hv; cases hv
    | true =>
      have hi : i < l.length := Nat.le_of_ble_eq_true hb
      rw [hb, Tr.get_setL, if_pos (by omega)] at hv
      simp only [cond_true, Nat.sub_zero] at hv
      have e : l[i]? = some l[i] := List.getElem?_eq_getElem hi
      rw [e] at hv
      simp only [Option.some.injEq] at hv
      subst hv
      exact ⟨_, (hc i hi).trans e, VR.closed (closed_at hl e)⟩⟩
/-! the words of the first line -/
def sP : ByteArray := ⟨#[112, 97, 103, 101, 115]⟩
def s24 : ByteArray := ⟨#[50, 52]⟩
noncomputable def splX (f : Nat) (args : List Value) (h : Tr AO) (nx : Nat) : Option (Value × Tr AO × Nat) :=
  cond (Nat.beq f 32 && veqN.veqL 5 [.string ⟨#[112, 97, 103, 101, 115, 32, 50, 52]⟩, .string ⟨#[32]⟩] args) (some (.slice (some ⟨nx, 0, none⟩) 2 2, h.set nx (.cells (Tr.nil.setL 0 [.string sP, .string s24]) [] 1 2 none 9), nx + 1)) none
theorem splX_ok : ∀ f args h nx v h' nx', splX f args h nx = some (v, h', nx') → XrOK prog f args h nx v h' nx' := by
  intro f args h nx v h' nx' he
  unfold splX at he
  cases hc : Nat.beq f 32 && veqN.veqL 5 [.string ⟨#[112, 97, 103, 101, 115, 32, 50, 52]⟩, .string ⟨#[32]⟩] args with
  | false => rw [hc] at he; cases he
  | true =>
    rw [hc] at he
    simp only [cond_true, Option.some.injEq, Prod.mk.injEq] at he
    simp only [Bool.and_eq_true] at hc
    have e1 := Nat.eq_of_beq_eq_true hc.1
    have e2 := (veq_sound 5).2 _ _ hc.2
    obtain ⟨a, b, c⟩ := he
    subst e1 e2 a b c
    refine .ofCalls (Nat.le_succ _) fun F w0 lim E w args' hl hS ha hg => ?_
    have e := ha.eq (by rfl)
    obtain ⟨m, hm⟩ := hg.1.mx
    have ea : args' = #[.string ⟨#[112, 97, 103, 101, 115, 32, 50, 52]⟩, .string ⟨#[32]⟩] := by cases args'; simp at e; simp [e]
    subst ea
    refine (Tryz.strings_Split ⟨#[112, 97, 103, 101, 115, 32, 50, 52]⟩ ⟨#[32]⟩ m w (by decide) hm (by decide)).mono ?_
    have ec : Lib.countB ⟨#[112, 97, 103, 101, 115, 32, 50, 52]⟩ ⟨#[32]⟩ = 1 := by kernel_rfl
    have es : Lib.splitB ⟨#[32]⟩ 0 1 ⟨#[112, 97, 103, 101, 115, 32, 50, 52]⟩ = [sP, s24] := by kernel_rfl
    rw [ec, es]
    rintro e w' ⟨rfl, rfl⟩
    obtain ⟨k1, k2⟩ := hS.fresh nx (Nat.le_refl _) (by omega)
    refine ⟨_, E.put nx w.heap.size, rfl, .slice ⟨E.put_ρ nx _, rfl, rfl⟩ (.inl ⟨by decide, rfl⟩), ⟨Env.put_le k1, fun id hid => ⟨?_, rfl⟩⟩, ?_⟩
    · show (if id = nx then _ else _) = _
      rw [if_neg (by omega)]
    · refine hS.learn (g := w.heap.size) (bA (b0 w) _) (Env.put_le k1) (Nat.lt_succ_self _) (Nat.le_refl _) (fun i => rfl) (fun i _ => rfl) (by omega) (.cells (CellR.lit (l := [.string sP, .string s24]) rfl (fun i hi => by simp [strV]) (by simp [strV])) (by simp [SizeR, strV])) (na w _ 9)
end Go.Proofs.Tryz

namespace Go.Proofs.Tryz
open Go.Proofs.Ex Go.RowKit Go.Proofs.YtlnonecibpjcoaaGreatDoor

theorem num_lit {s : ByteArray} {n : Int} {a : List UInt8} (h1 : Lib.parseIntB 64 s.data.toList = .ok n) (h2 : Lib.itoa n = a) (h3 : (⟨a.toArray⟩ : ByteArray) = s) : numW s = some n := by
  unfold numW
  have : itoaB n = s := by unfold itoaB; rw [h2]; exact h3
  simp only [h1, this, if_true]
theorem nm0 : numW ⟨#[48]⟩ = some 0 := num_lit (a := [48]) (by kernel_rfl) (by simp [Lib.itoa, Lib.decDigits]) rfl
theorem nm1 : numW ⟨#[49]⟩ = some 1 := num_lit (a := [49]) (by kernel_rfl) (by simp [Lib.itoa, Lib.decDigits]) rfl
theorem nm2 : numW ⟨#[50]⟩ = some 2 := num_lit (a := [50]) (by kernel_rfl) (by simp [Lib.itoa, Lib.decDigits]) rfl
theorem nm3 : numW ⟨#[51]⟩ = some 3 := num_lit (a := [51]) (by kernel_rfl) (by simp [Lib.itoa, Lib.decDigits]) rfl
theorem nm5 : numW ⟨#[53]⟩ = some 5 := num_lit (a := [53]) (by kernel_rfl) (by simp [Lib.itoa, Lib.decDigits]) rfl
theorem nm6 : numW ⟨#[54]⟩ = some 6 := num_lit (a := [54]) (by kernel_rfl) (by simp [Lib.itoa, Lib.decDigits]) rfl
theorem nm9 : numW ⟨#[57]⟩ = some 9 := num_lit (a := [57]) (by kernel_rfl) (by simp [Lib.itoa, Lib.decDigits]) rfl
def lCreate : ByteArray := ⟨#[99, 114, 101, 97, 116, 101, 32, 97, 32, 48, 32, 48]⟩
theorem wsCreate : wordsOf lCreate = [⟨#[99, 114, 101, 97, 116, 101]⟩, ⟨#[97]⟩, ⟨#[48]⟩, ⟨#[48]⟩] := by kernel_rfl
theorem plCreate : pLine lCreate = some { ok := 1, mkd := 1, mn := ⟨#[97]⟩ } := by
  unfold pLine
  rw [wsCreate, if_pos (by kernel_rfl), if_neg (by decide)]
  have hh : headOf ⟨#[99, 114, 101, 97, 116, 101]⟩ = some (.fn 58) := rfl
  have hz : (⟨#[97]⟩ : ByteArray).size ≤ 40 := by decide
  simp [pWords, hh, pHead, pCreate, pAppend, pSpan, pBuckets, pCrash, pName, pNum, pInts, pPts, hz, nm0, nm1, nm2, nm3, nm5, nm6, nm9]
def lAppend : ByteArray := ⟨#[97, 112, 112, 101, 110, 100, 32, 97, 32, 49, 32, 53, 32, 50, 32, 54]⟩
theorem wsAppend : wordsOf lAppend = [⟨#[97, 112, 112, 101, 110, 100]⟩, ⟨#[97]⟩, ⟨#[49]⟩, ⟨#[53]⟩, ⟨#[50]⟩, ⟨#[54]⟩] := by kernel_rfl
theorem plAppend : pLine lAppend = some { ok := 1, mkd := 3, mn := ⟨#[97]⟩, pts := [(1, 5), (2, 6)] } := by
  unfold pLine
  rw [wsAppend, if_pos (by kernel_rfl), if_neg (by decide)]
  have hh : headOf ⟨#[97, 112, 112, 101, 110, 100]⟩ = some (.fn 60) := rfl
  have hz : (⟨#[97]⟩ : ByteArray).size ≤ 40 := by decide
  simp [pWords, hh, pHead, pCreate, pAppend, pSpan, pBuckets, pCrash, pName, pNum, pInts, pPts, hz, nm0, nm1, nm2, nm3, nm5, nm6, nm9]
def lCount : ByteArray := ⟨#[99, 111, 117, 110, 116, 32, 97, 32, 48, 32, 57]⟩
theorem wsCount : wordsOf lCount = [⟨#[99, 111, 117, 110, 116]⟩, ⟨#[97]⟩, ⟨#[48]⟩, ⟨#[57]⟩] := by kernel_rfl
theorem plCount : pLine lCount = some { ok := 5, qk := 1, qn := ⟨#[97]⟩, qa := 0, qb := 9 } := by
  unfold pLine
  rw [wsCount, if_pos (by kernel_rfl), if_neg (by decide)]
  have hh : headOf ⟨#[99, 111, 117, 110, 116]⟩ = some (.span 1) := rfl
  have hz : (⟨#[97]⟩ : ByteArray).size ≤ 40 := by decide
  simp [pWords, hh, pHead, pCreate, pAppend, pSpan, pBuckets, pCrash, pName, pNum, pInts, pPts, hz, nm0, nm1, nm2, nm3, nm5, nm6, nm9]
def lBuckets : ByteArray := ⟨#[98, 117, 99, 107, 101, 116, 115, 32, 97, 32, 115, 117, 109, 32, 48, 32, 50, 32, 51]⟩
theorem wsBuckets : wordsOf lBuckets = [⟨#[98, 117, 99, 107, 101, 116, 115]⟩, ⟨#[97]⟩, ⟨#[115, 117, 109]⟩, ⟨#[48]⟩, ⟨#[50]⟩, ⟨#[51]⟩] := by kernel_rfl
theorem plBuckets : pLine lBuckets = some { ok := 5, qk := 8, qn := ⟨#[97]⟩, qa := 0, qb := 2, qw := 4, qN := 3 } := by
  unfold pLine
  rw [wsBuckets, if_pos (by kernel_rfl), if_neg (by decide)]
  have hh : headOf ⟨#[98, 117, 99, 107, 101, 116, 115]⟩ = some (.fn 64) := rfl
  have hz : (⟨#[97]⟩ : ByteArray).size ≤ 40 := by decide
  have hq : idxFrom whatR ⟨#[115, 117, 109]⟩ 0 = 3 := by decide
  simp [pWords, hh, pHead, pCreate, pAppend, pSpan, pBuckets, pCrash, pName, pNum, pInts, pPts, hz, nm0, nm1, nm2, nm3, nm5, nm6, nm9, pNext, hq]
def lCrash : ByteArray := ⟨#[99, 114, 97, 115, 104]⟩
theorem wsCrash : wordsOf lCrash = [⟨#[99, 114, 97, 115, 104]⟩] := by kernel_rfl
theorem plCrash : pLine lCrash = some { kind := 3 } := by
  unfold pLine
  rw [wsCrash, if_pos (by kernel_rfl), if_neg (by decide)]
  have hh : headOf ⟨#[99, 114, 97, 115, 104]⟩ = some (.fn 66) := rfl
  have hz : (⟨#[97]⟩ : ByteArray).size ≤ 40 := by decide
  simp [pWords, hh, pHead, pCreate, pAppend, pSpan, pBuckets, pCrash, pName, pNum, pInts, pPts, hz, nm0, nm1, nm2, nm3, nm5, nm6, nm9]
def lSinc : ByteArray := ⟨#[115, 105, 110, 99]⟩
theorem wsSinc : wordsOf lSinc = [⟨#[115, 105, 110, 99]⟩] := by kernel_rfl
theorem plSinc : pLine lSinc = none := by
  unfold pLine
  rw [wsSinc, if_pos (by kernel_rfl), if_neg (by decide)]
  have hh : headOf ⟨#[115, 105, 110, 99]⟩ = none := rfl
  have hz : (⟨#[97]⟩ : ByteArray).size ≤ 40 := by decide
  simp [pWords, hh, pHead, pCreate, pAppend, pSpan, pBuckets, pCrash, pName, pNum, pInts, pPts, hz, nm0, nm1, nm2, nm3, nm5, nm6, nm9]
noncomputable def vCreate : Value := .tuple #[.agg #[.int .i64 1, .int .i64 1, .int .i64 1, .string ⟨#[97]⟩, .int .i64 0, .int .i64 0, .int .i64 0, .slice none 0 0, .int .i64 0, .string ⟨#[]⟩, .int .i64 0, .int .i64 0, .int .i64 0, .int .i64 0, .string ⟨#[]⟩, .int .i64 0, .int .u64 0, .int .i64 0, .slice none 0 0], .int .i64 0]
noncomputable def vCount : Value := .tuple #[.agg #[.int .i64 1, .int .i64 5, .int .i64 0, .string ⟨#[]⟩, .int .i64 0, .int .i64 0, .int .i64 0, .slice none 0 0, .int .i64 1, .string ⟨#[97]⟩, .int .i64 0, .int .i64 9, .int .i64 0, .int .i64 0, .string ⟨#[]⟩, .int .i64 0, .int .u64 0, .int .i64 0, .slice none 0 0], .int .i64 0]
noncomputable def vBuckets : Value := .tuple #[.agg #[.int .i64 1, .int .i64 5, .int .i64 0, .string ⟨#[]⟩, .int .i64 0, .int .i64 0, .int .i64 0, .slice none 0 0, .int .i64 8, .string ⟨#[97]⟩, .int .i64 0, .int .i64 2, .int .i64 4, .int .i64 3, .string ⟨#[]⟩, .int .i64 0, .int .u64 0, .int .i64 0, .slice none 0 0], .int .i64 0]
noncomputable def vCrash : Value := .tuple #[.agg #[.int .i64 3, .int .i64 0, .int .i64 0, .string ⟨#[]⟩, .int .i64 0, .int .i64 0, .int .i64 0, .slice none 0 0, .int .i64 0, .string ⟨#[]⟩, .int .i64 0, .int .i64 0, .int .i64 0, .int .i64 0, .string ⟨#[]⟩, .int .i64 0, .int .u64 0, .int .i64 0, .slice none 0 0], .int .i64 0]
noncomputable def vSinc : Value := .tuple #[.agg #[.int .i64 0, .int .i64 0, .int .i64 0, .string ⟨#[]⟩, .int .i64 0, .int .i64 0, .int .i64 0, .slice none 0 0, .int .i64 0, .string ⟨#[]⟩, .int .i64 0, .int .i64 0, .int .i64 0, .int .i64 0, .string ⟨#[]⟩, .int .i64 0, .int .u64 0, .int .i64 0, .slice none 0 0], .int .i64 410]
noncomputable def vAppend (nx : Nat) : Value := .tuple #[.agg #[.int .i64 1, .int .i64 1, .int .i64 3, .string ⟨#[97]⟩, .int .i64 0, .int .i64 0, .int .i64 0, .slice (some ⟨nx, 0, none⟩) 2 (CB * (nx + 1)), .int .i64 0, .string ⟨#[]⟩, .int .i64 0, .int .i64 0, .int .i64 0, .int .i64 0, .string ⟨#[]⟩, .int .i64 0, .int .u64 0, .int .i64 0, .slice none 0 0], .int .i64 0]
theorem par_none {l : ByteArray} (hs : l.size ≤ 10000) (hp : pLine l = none) : closed (.tuple #[.agg zCmd, .int .i64 410]) = true ∧ allClosed [.string l] = true ∧ ∀ w, Laid w → Calls prog 10 #[.string l] w fun e w' => e = .returned (.tuple #[.agg zCmd, .int .i64 410]) ∧ Below w.heap.size w w' :=
  ⟨rfl, rfl, fun w hL => by
    have := con_Parse l hs w hL
    rw [hp] at this
    exact this⟩
theorem par_some {l : ByteArray} {c : Cm} {v : Value} (hs : l.size ≤ 10000) (hp : pLine l = some c) (h1 : c.pts = []) (h2 : c.masks = []) (hv : v = .tuple #[.agg (c.cs none 0 none 0), .int .i64 0]) (hc : closed v = true) :
    closed v = true ∧ allClosed [.string l] = true ∧ ∀ w, Laid w → Calls prog 10 #[.string l] w fun e w' => e = .returned v ∧ Below w.heap.size w w' :=
  ⟨hc, rfl, fun w hL => by
    have := con_Parse l hs w hL
    rw [hp] at this
    refine this.mono ?_
    rintro e w' ⟨u, rfl, ⟨A, ac, M, mc, rfl, h3, h4⟩, hb⟩
    obtain ⟨rfl, rfl⟩ := h3.non (by rw [h1]; rfl)
    obtain ⟨rfl, rfl⟩ := h4.non (by rw [h2]; rfl)
    rw [hv]
    exact ⟨rfl, hb⟩⟩
noncomputable def parT : List (Nat × List Value × Value) := [(10, [.string lCreate], vCreate), (10, [.string lCount], vCount), (10, [.string lBuckets], vBuckets), (10, [.string lCrash], vCrash), (10, [.string lSinc], vSinc)]
theorem parT_ok : All TabE parT := .cons (par_some (by decide) plCreate rfl rfl rfl rfl) (.cons (par_some (by decide) plCount rfl rfl rfl rfl) (.cons (par_some (by decide) plBuckets rfl rfl rfl rfl) (.cons (par_some (by decide) plCrash rfl rfl rfl rfl) (.cons (par_none (by decide) plSinc) .nil))))
noncomputable def parX (f : Nat) (args : List Value) (h : Tr AO) (nx : Nat) : Option (Value × Tr AO × Nat) :=
  match lookT parT f args with
  | some v => some (v, h, nx)
  | none => cond (Nat.beq f 10 && veqN.veqL 5 [.string lAppend] args) (some (vAppend nx, h.set nx (.cells (Tr.nil.setL 0 [.int .i64 1, .int .i64 5, .int .i64 2, .int .i64 6]) [] 1 4 (some (nx + 1, 2)) 99), nx + 2)) none
theorem parX_ok : ∀ f args h nx v h' nx', parX f args h nx = some (v, h', nx') → XrOK prog f args h nx v h' nx' := by
  intro f args h nx v h' nx' he
  unfold parX at he
  split at he
  · rename_i u hu
    simp only [Option.some.injEq, Prod.mk.injEq] at he
    obtain ⟨a, b, c⟩ := he
    subst a b c
    refine .ofCalls (Nat.le_refl _) fun F w0 lim E w args' hl hS ha hg => ?_
    refine (lookT_ok parT_ok hu E w args'.toList hg.1 ha).mono ?_
    rintro e w' ⟨v', h1, h2, h3⟩
    exact ⟨v', E, h1, h2, .refl _ _ _, hS.of_below h3⟩
  · cases hc : Nat.beq f 10 && veqN.veqL 5 [.string lAppend] args with
    | false => rw [hc] at he; cases he
    | true =>
      rw [hc] at he
      simp only [cond_true, Option.some.injEq, Prod.mk.injEq] at he
      simp only [Bool.and_eq_true] at hc
      have e1 := Nat.eq_of_beq_eq_true hc.1
      have e2 := (veq_sound 5).2 _ _ hc.2
      obtain ⟨a, b, c⟩ := he
      subst e1 e2 a b c
      refine .ofCalls (by omega) fun F w0 lim E w args' hl hS ha hg => ?_
      have e := ha.eq (by rfl)
      have ea : args' = #[.string lAppend] := by cases args'; simp at e; simp [e]
      subst ea
      have := con_Parse lAppend (by decide) w hg.1
      rw [plAppend] at this
      refine this.mono ?_
      rintro e w' ⟨u, rfl, ⟨A, ac, M, mc, rfl, h3, h4⟩, hb⟩
      obtain ⟨rfl, rfl⟩ := h4.non rfl
      obtain ⟨g, cur, rfl, hg1, hsz, hge⟩ := h3.at0 (by decide)
      obtain ⟨g', o, cur', e1, hg2, hc⟩ := h3.rk.mem (by decide)
      have hcap := h3.rk.cap
      have htop := h3.rk.top
      injection e1 with e1
      injection e1 with e1 e2 _
      subst e1 e2
      rw [hg1] at hg2
      injection hg2 with hg2
      injection hg2 with e3 _ _
      subst e3
      obtain ⟨k1, k2⟩ := hS.fresh nx (Nat.le_refl _) (by omega)
      obtain ⟨k3, k4⟩ := hS.fresh (nx + 1) (by omega) (by omega)
      have hE1 : E.le ((E.put nx g).putK (nx + 1) ac) := Env.le_trans (Env.put_le k1) (Env.putK_le (show E.κ (nx + 1) = none from k4))
      have hCB : CB = 18446744073709551616 := rfl
      have hcr : CapR ((E.put nx g).putK (nx + 1) ac) 2 (CB * (nx + 1)) ac := .inr ⟨by rw [hCB]; omega, hcap, ac, by
        have e4 : CB * (nx + 1) / CB = nx + 1 := Nat.mul_div_cancel_left _ (by rw [hCB]; decide)
        rw [e4]
        exact Env.putK_κ _ _ _, by rw [Nat.mul_mod_right]; rfl, by rw [hCB]; omega⟩
      have hsl : VR ((E.put nx g).putK (nx + 1) ac) (.slice (some ⟨nx, 0, none⟩) 2 (CB * (nx + 1))) (.slice (some ⟨g, 0, none⟩) 2 ac) := .slice ⟨Env.put_ρ E nx g, rfl, rfl⟩ hcr
      refine ⟨_, (E.put nx g).putK (nx + 1) ac, rfl, ?_, ⟨hE1, fun id hid => ⟨?_, ?_⟩⟩, ?_⟩
      · have hl : LR ((E.put nx g).putK (nx + 1) ac) [.int .i64 1, .int .i64 1, .int .i64 3, .string ⟨#[97]⟩, .int .i64 0, .int .i64 0, .int .i64 0, .slice (some ⟨nx, 0, none⟩) 2 (CB * (nx + 1)), .int .i64 0, .string ⟨#[]⟩, .int .i64 0, .int .i64 0, .int .i64 0, .int .i64 0, .string ⟨#[]⟩, .int .i64 0, .int .u64 0, .int .i64 0, .slice none 0 0]
            [.int .i64 1, .int .i64 1, .int .i64 3, .string ⟨#[97]⟩, .int .i64 0, .int .i64 0, .int .i64 0, .slice (some ⟨g, 0, none⟩) 2 ac, .int .i64 0, .string ⟨#[]⟩, .int .i64 0, .int .i64 0, .int .i64 0, .int .i64 0, .string ⟨#[]⟩, .int .i64 0, .int .u64 0, .int .i64 0, .slice none 0 0] := by
          repeat' (first | exact LR.nil _ | exact hsl | exact VR.closed rfl | refine LR.cons ?_ ?_)
        have ha1 := hl.array
        have hl2 := (LR.cons (VR.agg ha1.1 ha1.2) (LR.cons (VR.closed (v := .int .i64 0) rfl) (LR.nil ((E.put nx g).putK (nx + 1) ac)))).array
        exact .tuple hl2.1 hl2.2
      · show (if id = nx then _ else _) = _
        rw [if_neg (by omega)]
      · show (if id = nx + 1 then _ else _) = _
        rw [if_neg (by omega)]
        rfl
      · refine hS.learn (g := g) hb hE1 (by omega) hge (fun i => rfl) (fun i hi => ?_) (by omega) (.cells (CellR.lit (l := [.int .i64 1, .int .i64 5, .int .i64 2, .int .i64 6]) rfl (fun i hi => ?_) ?_) ⟨ac, Env.putK_κ _ _ _, hsz⟩) hg1
        · show (if i = nx + 1 then _ else _) = _
          rw [if_neg (by omega)]
          rfl
        · have := hc i (by simpa using hi)
          rw [Nat.zero_add] at this
          rw [this]
          rfl
        · rw [hsz]
          simp only [List.length_cons, List.length_nil] at hcap ⊢
          omega
noncomputable def orc6 (f : Nat) (args : List Value) (h : Tr AO) : Option Value :=
  match lookT tab7 f args with
  | some v => some v
  | none => (match joinO f args h with
    | some v => some v
    | none => xL.orc f args h)
noncomputable def orx6 (f : Nat) (args : List Value) (h : Tr AO) (nx : Nat) : Option (Value × Tr AO × Nat) :=
  match splX f args h nx with
  | some r => some r
  | none => parX f args h nx
noncomputable def xL6 : Lk := { xL with orc := orc6, orx := orx6 }
theorem xL6_ok : LkOK prog xL6 where
  ti := xL_ok.ti
  fs := xL_ok.fs
  call := xL_ok.call
  ext := xL_ok.ext
  orc := fun f args h v ho E w args' F hg hr ha => by
    change orc6 f args h = some v at ho
    unfold orc6 at ho
    split at ho
    · rename_i u hu
      cases ho
      exact lookT_ok tab7_ok hu E w args' hg.1 ha
    · split at ho
      · rename_i u hu
        cases ho
        exact joinO_ok f args h _ hu E w args' hr ha
      · exact xL_ok.orc f args h v ho E w args' F hg hr ha
  orx := fun f args h nx v h' nx' ho => by
    change orx6 f args h nx = some (v, h', nx') at ho
    unfold orx6 at ho
    split at ho
    · rename_i r hr
      cases ho
      exact splX_ok _ _ _ _ _ _ _ hr
    · exact parX_ok _ _ _ _ _ _ _ ho
  sbin := xL_ok.sbin
  sun := xL_ok.sun
  scv := xL_ok.scv
  wide := xL_ok.wide
  smx := xL_ok.smx
end Go.Proofs.Tryz

namespace Go.Proofs.Ex
noncomputable def runH (P : Program) (L : Lk) (h : Tr AO) (nx : Nat) (f : FuncId) (args : List Value) (n : Nat) : Option (Value × Tr AO × Nat) :=
  match enterA L h nx f args false with
  | some s => backA L (arun P L n s)
  | none => none
theorem XrOK.ofRun [Sg] {P : Program} {L : Lk} (hm : P.follows .mixedOrders = true) (hL : LkOK P L) {h h' : Tr AO} {nx nx' : Nat} {f : FuncId} {args : List Value} {v : Value} {n : Nat}
    (hrun : outB v h' nx' (runH P L h nx f args n) = true) : XrOK P f args h nx v h' nx' := by
  unfold runH at hrun
  split at hrun
  · rename_i s hs
    exact .of hL (arun_good hm hL n) hs (Sound.refl P s) hrun
  · cases hrun
end Go.Proofs.Ex
namespace Go.Proofs.Tryz
open Go.Proofs.Ex
def text1 : ByteArray := ⟨#[112, 97, 103, 101, 115, 32, 50, 52, 10, 99, 114, 101, 97, 116, 101, 32, 97, 32, 48, 32, 48, 10, 97, 112, 112, 101, 110, 100, 32, 97, 32, 49, 32, 53, 32, 50, 32, 54, 10, 99, 111, 117, 110, 116, 32, 97, 32, 48, 32, 57, 10, 98, 117, 99, 107, 101, 116, 115, 32, 97, 32, 115, 117, 109, 32, 48, 32, 50, 32, 51, 10, 99, 114, 97, 115, 104, 10, 99, 111, 117, 110, 116, 32, 97, 32, 48, 32, 57, 10]⟩
end Go.Proofs.Tryz
