/- The law ArbiterSorts, as the printed row asks it: proved in YtcicdnleeknjgaaMyArbL2. -/
import Derived.Test.YtcicdnleeknjgaaMyArbL2
